/- checksum: its functions, walked. -/
import Derived.Test.YtnjijefhnmnjgaaVaTy
import Derived.Test.YtnjijefhnmnjgaaVaR
namespace Go.Proofs.Ytnjijefhnmnjgaa.Ck
open Go Go.Va Go.Proofs.Ytnjijefhnmnjgaa.Va
set_option linter.unusedVariables false
set_option linter.unusedSimpArgs false
set_option maxRecDepth 20000
/-- One bit of a sum. -/
def step (n : BitVec 32) : BitVec 32 := if n &&& 1#32 = 1#32 then n >>> 1 ^^^ 3988292384#32 else n >>> 1
def steps : Nat → BitVec 32 → BitVec 32
  | 0, n => n
  | k + 1, n => step (steps k n)
def column (c : BitVec 8) : BitVec 32 := steps 8 (c.setWidth 32)
def more1 (n : BitVec 32) (c : BitVec 8) : BitVec 32 := n >>> 8 ^^^ column (n.setWidth 8 ^^^ c)
def more (s : BitVec 32) (b : List (BitVec 8)) : BitVec 32 := ~~~ (b.foldl more1 (~~~ s))
def sum (b : List (BitVec 8)) : BitVec 32 := more 0#32 b
def four (n : BitVec 32) : List (BitVec 8) := [n.setWidth 8, (n >>> 8).setWidth 8, (n >>> 16).setWidth 8, (n >>> 24).setWidth 8]
def seal_ (b : List (BitVec 8)) : List (BitVec 8) := b ++ four (sum b)
def fits (b : List (BitVec 8)) : Bool := decide (4 ≤ b.length) && decide (four (sum (b.take (b.length - 4))) = b.drop (b.length - 4))

theorem F13_calls (n : BitVec 32) (σ : St) : ACall Try.prog 13 [.int .u32 n.toNat] σ (fun a σ' => a = .agg (bys (four n)) ∧ σ.Le σ') := by
  refine acall_intro tyOk (fun _ => false) Try.func13 (by decide) rfl (Nat.le_of_ble_eq_true rfl) ?_
  refine wpc_seq ?_
  refine wpc_region rfl ?_
  refine wpo_op rfl rfl rfl rfl (by simp only [aop, pairO, Bool.false_eq_true, Bool.true_eq_false, List.toList_toArray, aeval, upd_same, upd_other, ne_eq, not_false_eq_true, frame0, ofConst, ↓reduceIte, Nat.reduceEqDiff, List.getD_cons_zero, List.getD_cons_succ, Option.map_some, Option.map_none, aalloc, ty25]; rfl) ?_
  refine wpo_nil ?_
  refine wpc_seq ?_
  refine wpc_region rfl ?_
  refine wpo_op rfl rfl rfl rfl (by simp only [aop, pairO, Bool.false_eq_true, Bool.true_eq_false, List.toList_toArray, aeval, upd_same, upd_other, ne_eq, not_false_eq_true, frame0, ofConst, ↓reduceIte, Nat.reduceEqDiff, List.getD_cons_zero, List.getD_cons_succ, Option.map_some, Option.map_none]; rfl) ?_
  refine wpo_op rfl rfl rfl rfl (by simp only [aop, pairO, Bool.false_eq_true, Bool.true_eq_false, List.toList_toArray, aeval, upd_same, upd_other, ne_eq, not_false_eq_true, frame0, ofConst, ↓reduceIte, Nat.reduceEqDiff, List.getD_cons_zero, List.getD_cons_succ, Option.map_some, Option.map_none, aconv, cv_u8, cv_u16, cv_u32, cv_u64, cv_i64_u8, cv_i64_u16, cv_i64_u32, td23, td5]; rfl) ?_
  refine wpo_op rfl rfl rfl rfl (by simp only [aop, pairO, Bool.false_eq_true, Bool.true_eq_false, List.toList_toArray, aeval, upd_same, upd_other, ne_eq, not_false_eq_true, frame0, ofConst, ↓reduceIte, Nat.reduceEqDiff, List.getD_cons_zero, List.getD_cons_succ, Option.map_some, Option.map_none]; rfl) ?_
  refine wpo_op rfl rfl rfl rfl (by simp only [aop, pairO, Bool.false_eq_true, Bool.true_eq_false, List.toList_toArray, aeval, upd_same, upd_other, ne_eq, not_false_eq_true, frame0, ofConst, ↓reduceIte, Nat.reduceEqDiff, List.getD_cons_zero, List.getD_cons_succ, Option.map_some, Option.map_none, abin', abin, aarith, beq_bv8, beq_bv32, beq_bv64, aeq, astr, isC, reduceCtorEq, cv_u8, cv_u16, cv_u32, cv_u64, cv_i64_u8, cv_i64_u16, cv_i64_u32, xor_u8, xor_u32, xor_u64, and_u8, and_u32, and_u64, or_u8, or_u64, xor_u32_lit, and_u32_lit, and_u64_lit, and_u8_lit, shr_u8, shr_u32, shr_u64, beq_bv, Int.reduceLE, Int.reduceLT, Int.reduceToNat, BitVec.reduceOfInt, td23]; rfl) ?_
  refine wpo_op rfl rfl rfl rfl (by simp only [aop, pairO, Bool.false_eq_true, Bool.true_eq_false, List.toList_toArray, aeval, upd_same, upd_other, ne_eq, not_false_eq_true, frame0, ofConst, ↓reduceIte, Nat.reduceEqDiff, List.getD_cons_zero, List.getD_cons_succ, Option.map_some, Option.map_none, aconv, cv_u8, cv_u16, cv_u32, cv_u64, cv_i64_u8, cv_i64_u16, cv_i64_u32, td23, td5]; rfl) ?_
  refine wpo_op rfl rfl rfl rfl (by simp only [aop, pairO, Bool.false_eq_true, Bool.true_eq_false, List.toList_toArray, aeval, upd_same, upd_other, ne_eq, not_false_eq_true, frame0, ofConst, ↓reduceIte, Nat.reduceEqDiff, List.getD_cons_zero, List.getD_cons_succ, Option.map_some, Option.map_none]; rfl) ?_
  refine wpo_op rfl rfl rfl rfl (by simp only [aop, pairO, Bool.false_eq_true, Bool.true_eq_false, List.toList_toArray, aeval, upd_same, upd_other, ne_eq, not_false_eq_true, frame0, ofConst, ↓reduceIte, Nat.reduceEqDiff, List.getD_cons_zero, List.getD_cons_succ, Option.map_some, Option.map_none, abin', abin, aarith, beq_bv8, beq_bv32, beq_bv64, aeq, astr, isC, reduceCtorEq, cv_u8, cv_u16, cv_u32, cv_u64, cv_i64_u8, cv_i64_u16, cv_i64_u32, xor_u8, xor_u32, xor_u64, and_u8, and_u32, and_u64, or_u8, or_u64, xor_u32_lit, and_u32_lit, and_u64_lit, and_u8_lit, shr_u8, shr_u32, shr_u64, beq_bv, Int.reduceLE, Int.reduceLT, Int.reduceToNat, BitVec.reduceOfInt, td23]; rfl) ?_
  refine wpo_op rfl rfl rfl rfl (by simp only [aop, pairO, Bool.false_eq_true, Bool.true_eq_false, List.toList_toArray, aeval, upd_same, upd_other, ne_eq, not_false_eq_true, frame0, ofConst, ↓reduceIte, Nat.reduceEqDiff, List.getD_cons_zero, List.getD_cons_succ, Option.map_some, Option.map_none, aconv, cv_u8, cv_u16, cv_u32, cv_u64, cv_i64_u8, cv_i64_u16, cv_i64_u32, td23, td5]; rfl) ?_
  refine wpo_op rfl rfl rfl rfl (by simp only [aop, pairO, Bool.false_eq_true, Bool.true_eq_false, List.toList_toArray, aeval, upd_same, upd_other, ne_eq, not_false_eq_true, frame0, ofConst, ↓reduceIte, Nat.reduceEqDiff, List.getD_cons_zero, List.getD_cons_succ, Option.map_some, Option.map_none]; rfl) ?_
  refine wpo_op rfl rfl rfl rfl (by simp only [aop, pairO, Bool.false_eq_true, Bool.true_eq_false, List.toList_toArray, aeval, upd_same, upd_other, ne_eq, not_false_eq_true, frame0, ofConst, ↓reduceIte, Nat.reduceEqDiff, List.getD_cons_zero, List.getD_cons_succ, Option.map_some, Option.map_none, abin', abin, aarith, beq_bv8, beq_bv32, beq_bv64, aeq, astr, isC, reduceCtorEq, cv_u8, cv_u16, cv_u32, cv_u64, cv_i64_u8, cv_i64_u16, cv_i64_u32, xor_u8, xor_u32, xor_u64, and_u8, and_u32, and_u64, or_u8, or_u64, xor_u32_lit, and_u32_lit, and_u64_lit, and_u8_lit, shr_u8, shr_u32, shr_u64, beq_bv, Int.reduceLE, Int.reduceLT, Int.reduceToNat, BitVec.reduceOfInt, td23]; rfl) ?_
  refine wpo_op rfl rfl rfl rfl (by simp only [aop, pairO, Bool.false_eq_true, Bool.true_eq_false, List.toList_toArray, aeval, upd_same, upd_other, ne_eq, not_false_eq_true, frame0, ofConst, ↓reduceIte, Nat.reduceEqDiff, List.getD_cons_zero, List.getD_cons_succ, Option.map_some, Option.map_none, aconv, cv_u8, cv_u16, cv_u32, cv_u64, cv_i64_u8, cv_i64_u16, cv_i64_u32, td23, td5]; rfl) ?_
  refine wpo_op rfl rfl rfl rfl (by simp only [aop, pairO, Bool.false_eq_true, Bool.true_eq_false, List.toList_toArray, aeval, upd_same, upd_other, ne_eq, not_false_eq_true, frame0, ofConst, ↓reduceIte, Nat.reduceEqDiff, List.getD_cons_zero, List.getD_cons_succ, Option.map_some, Option.map_none, abuild, aplace, afill, repl, AV.cells, flatAV, List.all_cons, List.all_nil, Bool.and_true, List.length_cons, List.length_nil, List.take_zero, List.take_succ_cons, List.nil_append, List.cons_append, List.drop_succ_cons, List.drop_zero, List.drop_nil, List.append_nil, Nat.reduceAdd, Nat.reduceMul, Nat.zero_mul, Nat.zero_add, and_self, List.map_cons, List.map_nil, Option.isSome_some, Nat.reduceLeDiff, Nat.le_refl, ty25, td25, sz5, ty5]; rfl) ?_
  refine wpo_st rfl rfl rfl (by simp only [aop, pairO, Bool.false_eq_true, Bool.true_eq_false, List.toList_toArray, aeval, upd_same, upd_other, ne_eq, not_false_eq_true, frame0, ofConst, ↓reduceIte, Nat.reduceEqDiff, List.getD_cons_zero, List.getD_cons_succ, Option.map_some, Option.map_none, astore, repl, AV.cells, flatAV, List.all_cons, List.all_nil, Bool.and_true, List.length_cons, List.length_nil, List.length_append, List.getElem?_append_right, List.getElem?_cons_zero, Nat.le_refl, Nat.sub_self, Nat.reduceAdd, and_self, List.take_zero, List.nil_append, List.drop_succ_cons, List.drop_zero, List.drop_nil, List.append_nil, List.set_append_right, List.set_cons_zero, ty25]; rfl) ?_
  refine wpo_nil ?_
  refine wpc_ret ?_
  refine ⟨_, by rw [show Try.f13.results.toList = [.cell 2 25] from rfl]; simp only [ares, aresL, aresOne, aload, acells, acut, isAggTD, List.getElem?_append_right, Nat.le_refl, Nat.sub_self, List.getElem?_cons_zero, AV.cells, List.length_cons, List.length_nil, Nat.reduceAdd, List.drop_zero, List.take_succ_cons, List.take_zero, aop, pairO, Bool.false_eq_true, Bool.true_eq_false, List.toList_toArray, aeval, upd_same, upd_other, ne_eq, not_false_eq_true, frame0, ofConst, ↓reduceIte, Nat.reduceEqDiff, List.getD_cons_zero, List.getD_cons_succ, Option.map_some, Option.map_none, ty25]; rfl, ?_⟩
  exact ⟨rfl, St.Le.push σ _⟩
theorem F13_calls0 (n : BitVec 32) (σ : St) : ACall Try.prog 13 [.int .u32 n.toNat] σ (fun a σ' => a = .agg (bys (four n)) ∧ σ' = σ) :=
  ((F13_calls n σ).forget fun _ _ h => h.2).mono fun a σ' ⟨h1, a0, σ1, ⟨h2, _⟩, h3⟩ => ⟨by rw [h3, h2]; simp [detok, detokL_flat (bys_detok _)], h1⟩
theorem F38_calls (c : BitVec 8) (σ : St) : ACall Try.prog 38 [.int .u8 c.toNat] σ (fun a σ' => a = .int .u32 (column c).toNat ∧ σ' = σ) := by
  refine acall_intro tyOk (fun _ => false) Try.func38 (by decide) rfl (Nat.le_of_ble_eq_true rfl) ?_
  refine wpc_seq ?_
  refine wpc_region rfl ?_
  refine wpo_op rfl rfl rfl rfl (by simp only [aop, pairO, Bool.false_eq_true, Bool.true_eq_false, List.toList_toArray, aeval, upd_same, upd_other, ne_eq, not_false_eq_true, frame0, ofConst, ↓reduceIte, Nat.reduceEqDiff, List.getD_cons_zero, List.getD_cons_succ, Option.map_some, Option.map_none]; rfl) ?_
  refine wpo_nil ?_
  refine wpc_seq ?_
  refine wpc_region rfl ?_
  refine wpo_op rfl rfl rfl rfl (by simp only [aop, pairO, Bool.false_eq_true, Bool.true_eq_false, List.toList_toArray, aeval, upd_same, upd_other, ne_eq, not_false_eq_true, frame0, ofConst, ↓reduceIte, Nat.reduceEqDiff, List.getD_cons_zero, List.getD_cons_succ, Option.map_some, Option.map_none]; rfl) ?_
  refine wpo_op rfl rfl rfl rfl (by simp only [aop, pairO, Bool.false_eq_true, Bool.true_eq_false, List.toList_toArray, aeval, upd_same, upd_other, ne_eq, not_false_eq_true, frame0, ofConst, ↓reduceIte, Nat.reduceEqDiff, List.getD_cons_zero, List.getD_cons_succ, Option.map_some, Option.map_none, aconv, cv_u8, cv_u16, cv_u32, cv_u64, cv_i64_u8, cv_i64_u16, cv_i64_u32, td5, td23]; rfl) ?_
  refine wpo_op rfl rfl rfl rfl (by simp only [aop, pairO, Bool.false_eq_true, Bool.true_eq_false, List.toList_toArray, aeval, upd_same, upd_other, ne_eq, not_false_eq_true, frame0, ofConst, ↓reduceIte, Nat.reduceEqDiff, List.getD_cons_zero, List.getD_cons_succ, Option.map_some, Option.map_none]; rfl) ?_
  refine wpo_nil ?_
  refine wpc_seq ?_
  refine wpc_seq ?_
  refine wpc_region rfl ?_
  refine wpo_op rfl rfl rfl rfl (by simp only [aop, pairO, Bool.false_eq_true, Bool.true_eq_false, List.toList_toArray, aeval, upd_same, upd_other, ne_eq, not_false_eq_true, frame0, ofConst, ↓reduceIte, Nat.reduceEqDiff, List.getD_cons_zero, List.getD_cons_succ, Option.map_some, Option.map_none]; rfl) ?_
  refine wpo_nil ?_
  refine wpc_block ?_
  refine wpc_for tyOk 8 (fun i fr σ' => i ≤ 8 ∧ fr 3 = .int .u32 (steps i (c.setWidth 32)).toNat ∧ fr 6 = .int .i64 i ∧ σ' = σ) 0 ⟨by omega, rfl, rfl, rfl⟩ ?_
  rintro i fr σ' ⟨hi, h3, h6, rfl⟩
  refine wpc_seq ?_
  refine wpc_region rfl ?_
  refine wpo_op rfl rfl rfl rfl (by simp only [aop, pairO, Bool.false_eq_true, Bool.true_eq_false, List.toList_toArray, aeval, upd_same, upd_other, ne_eq, not_false_eq_true, frame0, ofConst, ↓reduceIte, Nat.reduceEqDiff, List.getD_cons_zero, List.getD_cons_succ, Option.map_some, Option.map_none, abin', abin, aarith, beq_bv8, beq_bv32, beq_bv64, aeq, astr, isC, reduceCtorEq, cv_u8, cv_u16, cv_u32, cv_u64, cv_i64_u8, cv_i64_u16, cv_i64_u32, xor_u8, xor_u32, xor_u64, and_u8, and_u32, and_u64, or_u8, or_u64, xor_u32_lit, and_u32_lit, and_u64_lit, and_u8_lit, shr_u8, shr_u32, shr_u64, beq_bv, Int.reduceLE, Int.reduceLT, Int.reduceToNat, BitVec.reduceOfInt, td3, h6]; rfl) ?_
  refine wpo_nil ?_
  refine wpc_seq ?_
  refine wpc_cond (by simp only [aop, pairO, Bool.false_eq_true, Bool.true_eq_false, List.toList_toArray, aeval, upd_same, upd_other, ne_eq, not_false_eq_true, frame0, ofConst, ↓reduceIte, Nat.reduceEqDiff, List.getD_cons_zero, List.getD_cons_succ, Option.map_some, Option.map_none]; rfl) (fun hb0 => ?_) (fun hb0 => ?_)
  ·
    have hlt : i < 8 := by have := of_decide_eq_true hb0; omega
    refine wpc_skip ?_
    refine wpc_seq ?_
    refine wpc_block ?_
    refine wpc_seq ?_
    refine wpc_region rfl ?_
    refine wpo_op rfl rfl rfl rfl (by simp only [aop, pairO, Bool.false_eq_true, Bool.true_eq_false, List.toList_toArray, aeval, upd_same, upd_other, ne_eq, not_false_eq_true, frame0, ofConst, ↓reduceIte, Nat.reduceEqDiff, List.getD_cons_zero, List.getD_cons_succ, Option.map_some, Option.map_none, h3]; rfl) ?_
    refine wpo_op rfl rfl rfl rfl (by simp only [aop, pairO, Bool.false_eq_true, Bool.true_eq_false, List.toList_toArray, aeval, upd_same, upd_other, ne_eq, not_false_eq_true, frame0, ofConst, ↓reduceIte, Nat.reduceEqDiff, List.getD_cons_zero, List.getD_cons_succ, Option.map_some, Option.map_none, abin', abin, aarith, beq_bv8, beq_bv32, beq_bv64, aeq, astr, isC, reduceCtorEq, cv_u8, cv_u16, cv_u32, cv_u64, cv_i64_u8, cv_i64_u16, cv_i64_u32, xor_u8, xor_u32, xor_u64, and_u8, and_u32, and_u64, or_u8, or_u64, xor_u32_lit, and_u32_lit, and_u64_lit, and_u8_lit, shr_u8, shr_u32, shr_u64, beq_bv, Int.reduceLE, Int.reduceLT, Int.reduceToNat, BitVec.reduceOfInt, td23]; rfl) ?_
    refine wpo_op rfl rfl rfl rfl (by simp only [aop, pairO, Bool.false_eq_true, Bool.true_eq_false, List.toList_toArray, aeval, upd_same, upd_other, ne_eq, not_false_eq_true, frame0, ofConst, ↓reduceIte, Nat.reduceEqDiff, List.getD_cons_zero, List.getD_cons_succ, Option.map_some, Option.map_none, abin', abin, aarith, beq_bv8, beq_bv32, beq_bv64, aeq, astr, isC, reduceCtorEq, cv_u8, cv_u16, cv_u32, cv_u64, cv_i64_u8, cv_i64_u16, cv_i64_u32, xor_u8, xor_u32, xor_u64, and_u8, and_u32, and_u64, or_u8, or_u64, xor_u32_lit, and_u32_lit, and_u64_lit, and_u8_lit, shr_u8, shr_u32, shr_u64, beq_bv, Int.reduceLE, Int.reduceLT, Int.reduceToNat, BitVec.reduceOfInt, td23]; rfl) ?_
    refine wpo_nil ?_
    refine wpc_cond (by simp only [aop, pairO, Bool.false_eq_true, Bool.true_eq_false, List.toList_toArray, aeval, upd_same, upd_other, ne_eq, not_false_eq_true, frame0, ofConst, ↓reduceIte, Nat.reduceEqDiff, List.getD_cons_zero, List.getD_cons_succ, Option.map_some, Option.map_none]; rfl) (fun hb1 => ?_) (fun hb1 => ?_)
    ·
      refine wpc_region rfl ?_
      refine wpo_op rfl rfl rfl rfl (by simp only [aop, pairO, Bool.false_eq_true, Bool.true_eq_false, List.toList_toArray, aeval, upd_same, upd_other, ne_eq, not_false_eq_true, frame0, ofConst, ↓reduceIte, Nat.reduceEqDiff, List.getD_cons_zero, List.getD_cons_succ, Option.map_some, Option.map_none, h3]; rfl) ?_
      refine wpo_op rfl rfl rfl rfl (by simp only [aop, pairO, Bool.false_eq_true, Bool.true_eq_false, List.toList_toArray, aeval, upd_same, upd_other, ne_eq, not_false_eq_true, frame0, ofConst, ↓reduceIte, Nat.reduceEqDiff, List.getD_cons_zero, List.getD_cons_succ, Option.map_some, Option.map_none, abin', abin, aarith, beq_bv8, beq_bv32, beq_bv64, aeq, astr, isC, reduceCtorEq, cv_u8, cv_u16, cv_u32, cv_u64, cv_i64_u8, cv_i64_u16, cv_i64_u32, xor_u8, xor_u32, xor_u64, and_u8, and_u32, and_u64, or_u8, or_u64, xor_u32_lit, and_u32_lit, and_u64_lit, and_u8_lit, shr_u8, shr_u32, shr_u64, beq_bv, Int.reduceLE, Int.reduceLT, Int.reduceToNat, BitVec.reduceOfInt, td23]; rfl) ?_
      refine wpo_op rfl rfl rfl rfl (by simp only [aop, pairO, Bool.false_eq_true, Bool.true_eq_false, List.toList_toArray, aeval, upd_same, upd_other, ne_eq, not_false_eq_true, frame0, ofConst, ↓reduceIte, Nat.reduceEqDiff, List.getD_cons_zero, List.getD_cons_succ, Option.map_some, Option.map_none, abin', abin, aarith, beq_bv8, beq_bv32, beq_bv64, aeq, astr, isC, reduceCtorEq, cv_u8, cv_u16, cv_u32, cv_u64, cv_i64_u8, cv_i64_u16, cv_i64_u32, xor_u8, xor_u32, xor_u64, and_u8, and_u32, and_u64, or_u8, or_u64, xor_u32_lit, and_u32_lit, and_u64_lit, and_u8_lit, shr_u8, shr_u32, shr_u64, beq_bv, Int.reduceLE, Int.reduceLT, Int.reduceToNat, BitVec.reduceOfInt, td23]; rfl) ?_
      refine wpo_op rfl rfl rfl rfl (by simp only [aop, pairO, Bool.false_eq_true, Bool.true_eq_false, List.toList_toArray, aeval, upd_same, upd_other, ne_eq, not_false_eq_true, frame0, ofConst, ↓reduceIte, Nat.reduceEqDiff, List.getD_cons_zero, List.getD_cons_succ, Option.map_some, Option.map_none]; rfl) ?_
      refine wpo_nil ?_
      refine wpc_region rfl ?_
      refine wpo_op rfl rfl rfl rfl (by simp only [aop, pairO, Bool.false_eq_true, Bool.true_eq_false, List.toList_toArray, aeval, upd_same, upd_other, ne_eq, not_false_eq_true, frame0, ofConst, ↓reduceIte, Nat.reduceEqDiff, List.getD_cons_zero, List.getD_cons_succ, Option.map_some, Option.map_none, abin', abin, aarith, beq_bv8, beq_bv32, beq_bv64, aeq, astr, isC, reduceCtorEq, cv_u8, cv_u16, cv_u32, cv_u64, cv_i64_u8, cv_i64_u16, cv_i64_u32, xor_u8, xor_u32, xor_u64, and_u8, and_u32, and_u64, or_u8, or_u64, xor_u32_lit, and_u32_lit, and_u64_lit, and_u8_lit, shr_u8, shr_u32, shr_u64, beq_bv, Int.reduceLE, Int.reduceLT, Int.reduceToNat, BitVec.reduceOfInt, td3, h6]; rfl) ?_
      refine wpo_op rfl rfl rfl rfl (by simp only [aop, pairO, Bool.false_eq_true, Bool.true_eq_false, List.toList_toArray, aeval, upd_same, upd_other, ne_eq, not_false_eq_true, frame0, ofConst, ↓reduceIte, Nat.reduceEqDiff, List.getD_cons_zero, List.getD_cons_succ, Option.map_some, Option.map_none]; rfl) ?_
      refine wpo_nil ?_
      refine ⟨hlt, hlt, ?_, by simp only [upd, ↓reduceIte, Nat.reduceEqDiff]; rw [wrap_i64_id (by omega) (by omega)]; rfl, rfl⟩
      simp only [upd, ↓reduceIte, Nat.reduceEqDiff]
      simp only [decide_eq_true_eq, decide_eq_false_iff_not] at hb1
      simp only [steps, step]
      first | rw [if_pos hb1] | rw [if_neg hb1]
    ·
      refine wpc_region rfl ?_
      refine wpo_op rfl rfl rfl rfl (by simp only [aop, pairO, Bool.false_eq_true, Bool.true_eq_false, List.toList_toArray, aeval, upd_same, upd_other, ne_eq, not_false_eq_true, frame0, ofConst, ↓reduceIte, Nat.reduceEqDiff, List.getD_cons_zero, List.getD_cons_succ, Option.map_some, Option.map_none, h3]; rfl) ?_
      refine wpo_op rfl rfl rfl rfl (by simp only [aop, pairO, Bool.false_eq_true, Bool.true_eq_false, List.toList_toArray, aeval, upd_same, upd_other, ne_eq, not_false_eq_true, frame0, ofConst, ↓reduceIte, Nat.reduceEqDiff, List.getD_cons_zero, List.getD_cons_succ, Option.map_some, Option.map_none, abin', abin, aarith, beq_bv8, beq_bv32, beq_bv64, aeq, astr, isC, reduceCtorEq, cv_u8, cv_u16, cv_u32, cv_u64, cv_i64_u8, cv_i64_u16, cv_i64_u32, xor_u8, xor_u32, xor_u64, and_u8, and_u32, and_u64, or_u8, or_u64, xor_u32_lit, and_u32_lit, and_u64_lit, and_u8_lit, shr_u8, shr_u32, shr_u64, beq_bv, Int.reduceLE, Int.reduceLT, Int.reduceToNat, BitVec.reduceOfInt, td23]; rfl) ?_
      refine wpo_op rfl rfl rfl rfl (by simp only [aop, pairO, Bool.false_eq_true, Bool.true_eq_false, List.toList_toArray, aeval, upd_same, upd_other, ne_eq, not_false_eq_true, frame0, ofConst, ↓reduceIte, Nat.reduceEqDiff, List.getD_cons_zero, List.getD_cons_succ, Option.map_some, Option.map_none]; rfl) ?_
      refine wpo_nil ?_
      refine wpc_region rfl ?_
      refine wpo_op rfl rfl rfl rfl (by simp only [aop, pairO, Bool.false_eq_true, Bool.true_eq_false, List.toList_toArray, aeval, upd_same, upd_other, ne_eq, not_false_eq_true, frame0, ofConst, ↓reduceIte, Nat.reduceEqDiff, List.getD_cons_zero, List.getD_cons_succ, Option.map_some, Option.map_none, abin', abin, aarith, beq_bv8, beq_bv32, beq_bv64, aeq, astr, isC, reduceCtorEq, cv_u8, cv_u16, cv_u32, cv_u64, cv_i64_u8, cv_i64_u16, cv_i64_u32, xor_u8, xor_u32, xor_u64, and_u8, and_u32, and_u64, or_u8, or_u64, xor_u32_lit, and_u32_lit, and_u64_lit, and_u8_lit, shr_u8, shr_u32, shr_u64, beq_bv, Int.reduceLE, Int.reduceLT, Int.reduceToNat, BitVec.reduceOfInt, td3, h6]; rfl) ?_
      refine wpo_op rfl rfl rfl rfl (by simp only [aop, pairO, Bool.false_eq_true, Bool.true_eq_false, List.toList_toArray, aeval, upd_same, upd_other, ne_eq, not_false_eq_true, frame0, ofConst, ↓reduceIte, Nat.reduceEqDiff, List.getD_cons_zero, List.getD_cons_succ, Option.map_some, Option.map_none]; rfl) ?_
      refine wpo_nil ?_
      refine ⟨hlt, hlt, ?_, by simp only [upd, ↓reduceIte, Nat.reduceEqDiff]; rw [wrap_i64_id (by omega) (by omega)]; rfl, rfl⟩
      simp only [upd, ↓reduceIte, Nat.reduceEqDiff]
      simp only [decide_eq_true_eq, decide_eq_false_iff_not] at hb1
      simp only [steps, step]
      first | rw [if_pos hb1] | rw [if_neg hb1]
  ·
    have hge : ¬ (i:Int) < 8 := of_decide_eq_false hb0
    obtain rfl : i = 8 := by omega
    refine wpc_exit ?_
    refine at_ rfl ?_
    refine wpc_seq ?_
    refine wpc_region rfl ?_
    refine wpo_op rfl rfl rfl rfl (by simp only [aop, pairO, Bool.false_eq_true, Bool.true_eq_false, List.toList_toArray, aeval, upd_same, upd_other, ne_eq, not_false_eq_true, frame0, ofConst, ↓reduceIte, Nat.reduceEqDiff, List.getD_cons_zero, List.getD_cons_succ, Option.map_some, Option.map_none, h3]; rfl) ?_
    refine wpo_op rfl rfl rfl rfl (by simp only [aop, pairO, Bool.false_eq_true, Bool.true_eq_false, List.toList_toArray, aeval, upd_same, upd_other, ne_eq, not_false_eq_true, frame0, ofConst, ↓reduceIte, Nat.reduceEqDiff, List.getD_cons_zero, List.getD_cons_succ, Option.map_some, Option.map_none]; rfl) ?_
    refine wpo_nil ?_
    refine wpc_ret ?_
    refine ⟨_, by rw [show Try.f38.results.toList = [.tmp 2] from rfl]; simp only [ares, aresL, aresOne, aload, acells, acut, isAggTD, List.getElem?_append_right, Nat.le_refl, Nat.sub_self, List.getElem?_cons_zero, AV.cells, List.length_cons, List.length_nil, Nat.reduceAdd, List.drop_zero, List.take_succ_cons, List.take_zero, aop, pairO, Bool.false_eq_true, Bool.true_eq_false, List.toList_toArray, aeval, upd_same, upd_other, ne_eq, not_false_eq_true, frame0, ofConst, ↓reduceIte, Nat.reduceEqDiff, List.getD_cons_zero, List.getD_cons_succ, Option.map_some, Option.map_none]; rfl, ?_⟩
    exact ⟨rfl, rfl⟩
theorem F21_calls (s : BitVec 32) (b : List (BitVec 8)) (a : AV) (ha : Sl 1 (bys b) a) (hb : b.length ≤ 4611686018427387904) (σ : St) : ACall Try.prog 21 [.int .u32 s.toNat, a] σ (fun r σ' => r = .int .u32 (more s b).toNat ∧ σ' = σ) := by
  refine acall_intro tyOk (fun _ => false) Try.func21 (by decide) rfl (Nat.le_of_ble_eq_true rfl) ?_
  refine wpc_seq ?_
  refine wpc_region rfl ?_
  refine wpo_op rfl rfl rfl rfl (by simp only [aop, pairO, Bool.false_eq_true, Bool.true_eq_false, List.toList_toArray, aeval, upd_same, upd_other, ne_eq, not_false_eq_true, frame0, ofConst, ↓reduceIte, Nat.reduceEqDiff, List.getD_cons_zero, List.getD_cons_succ, Option.map_some, Option.map_none]; rfl) ?_
  refine wpo_nil ?_
  refine wpc_seq ?_
  refine wpc_region rfl ?_
  refine wpo_op rfl rfl rfl rfl (by simp only [aop, pairO, Bool.false_eq_true, Bool.true_eq_false, List.toList_toArray, aeval, upd_same, upd_other, ne_eq, not_false_eq_true, frame0, ofConst, ↓reduceIte, Nat.reduceEqDiff, List.getD_cons_zero, List.getD_cons_succ, Option.map_some, Option.map_none]; rfl) ?_
  refine wpo_op rfl rfl rfl rfl (by simp only [aop, pairO, Bool.false_eq_true, Bool.true_eq_false, List.toList_toArray, aeval, upd_same, upd_other, ne_eq, not_false_eq_true, frame0, ofConst, ↓reduceIte, Nat.reduceEqDiff, List.getD_cons_zero, List.getD_cons_succ, Option.map_some, Option.map_none, aun, not_u32, IntKind.signed, Bool.false_eq_true]; rfl) ?_
  refine wpo_op rfl rfl rfl rfl (by simp only [aop, pairO, Bool.false_eq_true, Bool.true_eq_false, List.toList_toArray, aeval, upd_same, upd_other, ne_eq, not_false_eq_true, frame0, ofConst, ↓reduceIte, Nat.reduceEqDiff, List.getD_cons_zero, List.getD_cons_succ, Option.map_some, Option.map_none]; rfl) ?_
  refine wpo_nil ?_
  refine wpc_seq ?_
  refine wpc_seq ?_
  refine wpc_region rfl ?_
  refine wpo_op rfl rfl rfl rfl (by simp only [aop, pairO, Bool.false_eq_true, Bool.true_eq_false, List.toList_toArray, aeval, upd_same, upd_other, ne_eq, not_false_eq_true, frame0, ofConst, ↓reduceIte, Nat.reduceEqDiff, List.getD_cons_zero, List.getD_cons_succ, Option.map_some, Option.map_none]; rfl) ?_
  refine wpo_op rfl rfl rfl rfl (by simp only [aop, pairO, Bool.false_eq_true, Bool.true_eq_false, List.toList_toArray, aeval, upd_same, upd_other, ne_eq, not_false_eq_true, frame0, ofConst, ↓reduceIte, Nat.reduceEqDiff, List.getD_cons_zero, List.getD_cons_succ, Option.map_some, Option.map_none, ha.len td22, bys_length]; rfl) ?_
  refine wpo_op rfl rfl rfl rfl (by simp only [aop, pairO, Bool.false_eq_true, Bool.true_eq_false, List.toList_toArray, aeval, upd_same, upd_other, ne_eq, not_false_eq_true, frame0, ofConst, ↓reduceIte, Nat.reduceEqDiff, List.getD_cons_zero, List.getD_cons_succ, Option.map_some, Option.map_none]; rfl) ?_
  refine wpo_nil ?_
  refine wpc_block ?_
  refine wpc_for tyOk b.length (fun i fr σ' => i ≤ b.length ∧ fr 5 = .int .u32 ((b.take i).foldl more1 (~~~ s)).toNat ∧ fr 10 = a ∧ fr 11 = .int .i64 b.length ∧ fr 12 = .int .i64 i ∧ σ' = σ) 0 ⟨by omega, rfl, rfl, rfl, rfl, rfl⟩ ?_
  rintro i fr σ' ⟨hi, h5, h10, h11, h12, rfl⟩
  refine wpc_seq ?_
  refine wpc_region rfl ?_
  refine wpo_op rfl rfl rfl rfl (by simp only [aop, pairO, Bool.false_eq_true, Bool.true_eq_false, List.toList_toArray, aeval, upd_same, upd_other, ne_eq, not_false_eq_true, frame0, ofConst, ↓reduceIte, Nat.reduceEqDiff, List.getD_cons_zero, List.getD_cons_succ, Option.map_some, Option.map_none, abin', abin, aarith, beq_bv8, beq_bv32, beq_bv64, aeq, astr, isC, reduceCtorEq, cv_u8, cv_u16, cv_u32, cv_u64, cv_i64_u8, cv_i64_u16, cv_i64_u32, xor_u8, xor_u32, xor_u64, and_u8, and_u32, and_u64, or_u8, or_u64, xor_u32_lit, and_u32_lit, and_u64_lit, and_u8_lit, shr_u8, shr_u32, shr_u64, beq_bv, Int.reduceLE, Int.reduceLT, Int.reduceToNat, BitVec.reduceOfInt, td3, h11, h12]; rfl) ?_
  refine wpo_nil ?_
  refine wpc_seq ?_
  refine wpc_cond (by simp only [aop, pairO, Bool.false_eq_true, Bool.true_eq_false, List.toList_toArray, aeval, upd_same, upd_other, ne_eq, not_false_eq_true, frame0, ofConst, ↓reduceIte, Nat.reduceEqDiff, List.getD_cons_zero, List.getD_cons_succ, Option.map_some, Option.map_none]; rfl) (fun hb0 => ?_) (fun hb0 => ?_)
  ·
    have hlt : i < b.length := by have := of_decide_eq_true hb0; omega
    refine wpc_skip ?_
    refine wpc_seq ?_
    refine wpc_block ?_
    refine wpc_seq ?_
    refine wpc_region rfl ?_
    refine wpo_op rfl rfl rfl rfl (by simp only [aop, pairO, Bool.false_eq_true, Bool.true_eq_false, List.toList_toArray, aeval, upd_same, upd_other, ne_eq, not_false_eq_true, frame0, ofConst, ↓reduceIte, Nat.reduceEqDiff, List.getD_cons_zero, List.getD_cons_succ, Option.map_some, Option.map_none, h10, h12, ha.at8 td22 sz5 (List.getElem?_eq_getElem hlt)]; rfl) ?_
    refine wpo_op rfl rfl rfl rfl (by simp only [aop, pairO, Bool.false_eq_true, Bool.true_eq_false, List.toList_toArray, aeval, upd_same, upd_other, ne_eq, not_false_eq_true, frame0, ofConst, ↓reduceIte, Nat.reduceEqDiff, List.getD_cons_zero, List.getD_cons_succ, Option.map_some, Option.map_none, aload, acells, acut, isAggTD, AV.cells, List.getElem?_cons_zero, List.getElem?_append_right, Nat.le_refl, Nat.sub_self, ty5]; rfl) ?_
    refine wpo_op rfl rfl rfl rfl (by simp only [aop, pairO, Bool.false_eq_true, Bool.true_eq_false, List.toList_toArray, aeval, upd_same, upd_other, ne_eq, not_false_eq_true, frame0, ofConst, ↓reduceIte, Nat.reduceEqDiff, List.getD_cons_zero, List.getD_cons_succ, Option.map_some, Option.map_none]; rfl) ?_
    refine wpo_nil ?_
    refine wpc_region rfl ?_
    refine wpo_op rfl rfl rfl rfl (by simp only [aop, pairO, Bool.false_eq_true, Bool.true_eq_false, List.toList_toArray, aeval, upd_same, upd_other, ne_eq, not_false_eq_true, frame0, ofConst, ↓reduceIte, Nat.reduceEqDiff, List.getD_cons_zero, List.getD_cons_succ, Option.map_some, Option.map_none, h5]; rfl) ?_
    refine wpo_op rfl rfl rfl rfl (by simp only [aop, pairO, Bool.false_eq_true, Bool.true_eq_false, List.toList_toArray, aeval, upd_same, upd_other, ne_eq, not_false_eq_true, frame0, ofConst, ↓reduceIte, Nat.reduceEqDiff, List.getD_cons_zero, List.getD_cons_succ, Option.map_some, Option.map_none, abin', abin, aarith, beq_bv8, beq_bv32, beq_bv64, aeq, astr, isC, reduceCtorEq, cv_u8, cv_u16, cv_u32, cv_u64, cv_i64_u8, cv_i64_u16, cv_i64_u32, xor_u8, xor_u32, xor_u64, and_u8, and_u32, and_u64, or_u8, or_u64, xor_u32_lit, and_u32_lit, and_u64_lit, and_u8_lit, shr_u8, shr_u32, shr_u64, beq_bv, Int.reduceLE, Int.reduceLT, Int.reduceToNat, BitVec.reduceOfInt, td23]; rfl) ?_
    refine wpo_op rfl rfl rfl rfl (by simp only [aop, pairO, Bool.false_eq_true, Bool.true_eq_false, List.toList_toArray, aeval, upd_same, upd_other, ne_eq, not_false_eq_true, frame0, ofConst, ↓reduceIte, Nat.reduceEqDiff, List.getD_cons_zero, List.getD_cons_succ, Option.map_some, Option.map_none, h5]; rfl) ?_
    refine wpo_op rfl rfl rfl rfl (by simp only [aop, pairO, Bool.false_eq_true, Bool.true_eq_false, List.toList_toArray, aeval, upd_same, upd_other, ne_eq, not_false_eq_true, frame0, ofConst, ↓reduceIte, Nat.reduceEqDiff, List.getD_cons_zero, List.getD_cons_succ, Option.map_some, Option.map_none, aconv, cv_u8, cv_u16, cv_u32, cv_u64, cv_i64_u8, cv_i64_u16, cv_i64_u32, td23, td5]; rfl) ?_
    refine wpo_op rfl rfl rfl rfl (by simp only [aop, pairO, Bool.false_eq_true, Bool.true_eq_false, List.toList_toArray, aeval, upd_same, upd_other, ne_eq, not_false_eq_true, frame0, ofConst, ↓reduceIte, Nat.reduceEqDiff, List.getD_cons_zero, List.getD_cons_succ, Option.map_some, Option.map_none]; rfl) ?_
    refine wpo_op rfl rfl rfl rfl (by simp only [aop, pairO, Bool.false_eq_true, Bool.true_eq_false, List.toList_toArray, aeval, upd_same, upd_other, ne_eq, not_false_eq_true, frame0, ofConst, ↓reduceIte, Nat.reduceEqDiff, List.getD_cons_zero, List.getD_cons_succ, Option.map_some, Option.map_none, abin', abin, aarith, beq_bv8, beq_bv32, beq_bv64, aeq, astr, isC, reduceCtorEq, cv_u8, cv_u16, cv_u32, cv_u64, cv_i64_u8, cv_i64_u16, cv_i64_u32, xor_u8, xor_u32, xor_u64, and_u8, and_u32, and_u64, or_u8, or_u64, xor_u32_lit, and_u32_lit, and_u64_lit, and_u8_lit, shr_u8, shr_u32, shr_u64, beq_bv, Int.reduceLE, Int.reduceLT, Int.reduceToNat, BitVec.reduceOfInt, td5]; rfl) ?_
    refine wpo_call rfl rfl rfl rfl rfl (by simp only [List.map_cons, List.map_nil, List.nil_append, List.append_nil, List.singleton_append, List.cons_append, aop, pairO, Bool.false_eq_true, Bool.true_eq_false, List.toList_toArray, aeval, upd_same, upd_other, ne_eq, not_false_eq_true, frame0, ofConst, ↓reduceIte, Nat.reduceEqDiff, List.getD_cons_zero, List.getD_cons_succ, Option.map_some, Option.map_none, alen, Sl.len, td5]; first | done | rfl) (F38_calls _ _) ?_
    rintro _ τ ⟨rfl, hτ⟩
    obtain rfl := hτ.symm
    refine wpo_op rfl rfl rfl rfl (by simp only [aop, pairO, Bool.false_eq_true, Bool.true_eq_false, List.toList_toArray, aeval, upd_same, upd_other, ne_eq, not_false_eq_true, frame0, ofConst, ↓reduceIte, Nat.reduceEqDiff, List.getD_cons_zero, List.getD_cons_succ, Option.map_some, Option.map_none, abin', abin, aarith, beq_bv8, beq_bv32, beq_bv64, aeq, astr, isC, reduceCtorEq, cv_u8, cv_u16, cv_u32, cv_u64, cv_i64_u8, cv_i64_u16, cv_i64_u32, xor_u8, xor_u32, xor_u64, and_u8, and_u32, and_u64, or_u8, or_u64, xor_u32_lit, and_u32_lit, and_u64_lit, and_u8_lit, shr_u8, shr_u32, shr_u64, beq_bv, Int.reduceLE, Int.reduceLT, Int.reduceToNat, BitVec.reduceOfInt, td23]; rfl) ?_
    refine wpo_op rfl rfl rfl rfl (by simp only [aop, pairO, Bool.false_eq_true, Bool.true_eq_false, List.toList_toArray, aeval, upd_same, upd_other, ne_eq, not_false_eq_true, frame0, ofConst, ↓reduceIte, Nat.reduceEqDiff, List.getD_cons_zero, List.getD_cons_succ, Option.map_some, Option.map_none]; rfl) ?_
    refine wpo_nil ?_
    refine wpc_region rfl ?_
    refine wpo_op rfl rfl rfl rfl (by simp only [aop, pairO, Bool.false_eq_true, Bool.true_eq_false, List.toList_toArray, aeval, upd_same, upd_other, ne_eq, not_false_eq_true, frame0, ofConst, ↓reduceIte, Nat.reduceEqDiff, List.getD_cons_zero, List.getD_cons_succ, Option.map_some, Option.map_none, abin', abin, aarith, beq_bv8, beq_bv32, beq_bv64, aeq, astr, isC, reduceCtorEq, cv_u8, cv_u16, cv_u32, cv_u64, cv_i64_u8, cv_i64_u16, cv_i64_u32, xor_u8, xor_u32, xor_u64, and_u8, and_u32, and_u64, or_u8, or_u64, xor_u32_lit, and_u32_lit, and_u64_lit, and_u8_lit, shr_u8, shr_u32, shr_u64, beq_bv, Int.reduceLE, Int.reduceLT, Int.reduceToNat, BitVec.reduceOfInt, td3, h12]; rfl) ?_
    refine wpo_op rfl rfl rfl rfl (by simp only [aop, pairO, Bool.false_eq_true, Bool.true_eq_false, List.toList_toArray, aeval, upd_same, upd_other, ne_eq, not_false_eq_true, frame0, ofConst, ↓reduceIte, Nat.reduceEqDiff, List.getD_cons_zero, List.getD_cons_succ, Option.map_some, Option.map_none]; rfl) ?_
    refine wpo_nil ?_
    refine ⟨hlt, hlt, ?_, by simp only [upd, ↓reduceIte, Nat.reduceEqDiff, h10], by simp only [upd, ↓reduceIte, Nat.reduceEqDiff, h11], by simp only [upd, ↓reduceIte, Nat.reduceEqDiff]; rw [wrap_i64_id (by omega) (by omega)]; rfl, rfl⟩
    simp only [upd, ↓reduceIte, Nat.reduceEqDiff]
    rw [List.take_succ_eq_append_getElem hlt, List.foldl_append]
    rfl
  ·
    have hge : ¬ (i:Int) < b.length := of_decide_eq_false hb0
    obtain rfl : i = b.length := by omega
    refine wpc_exit ?_
    refine at_ rfl ?_
    refine wpc_seq ?_
    refine wpc_region rfl ?_
    refine wpo_op rfl rfl rfl rfl (by simp only [aop, pairO, Bool.false_eq_true, Bool.true_eq_false, List.toList_toArray, aeval, upd_same, upd_other, ne_eq, not_false_eq_true, frame0, ofConst, ↓reduceIte, Nat.reduceEqDiff, List.getD_cons_zero, List.getD_cons_succ, Option.map_some, Option.map_none, h5]; rfl) ?_
    refine wpo_op rfl rfl rfl rfl (by simp only [aop, pairO, Bool.false_eq_true, Bool.true_eq_false, List.toList_toArray, aeval, upd_same, upd_other, ne_eq, not_false_eq_true, frame0, ofConst, ↓reduceIte, Nat.reduceEqDiff, List.getD_cons_zero, List.getD_cons_succ, Option.map_some, Option.map_none, aun, not_u32, IntKind.signed, Bool.false_eq_true]; rfl) ?_
    refine wpo_op rfl rfl rfl rfl (by simp only [aop, pairO, Bool.false_eq_true, Bool.true_eq_false, List.toList_toArray, aeval, upd_same, upd_other, ne_eq, not_false_eq_true, frame0, ofConst, ↓reduceIte, Nat.reduceEqDiff, List.getD_cons_zero, List.getD_cons_succ, Option.map_some, Option.map_none]; rfl) ?_
    refine wpo_nil ?_
    refine wpc_ret ?_
    refine ⟨_, by rw [show Try.f21.results.toList = [.tmp 4] from rfl]; simp only [ares, aresL, aresOne, aload, acells, acut, isAggTD, List.getElem?_append_right, Nat.le_refl, Nat.sub_self, List.getElem?_cons_zero, AV.cells, List.length_cons, List.length_nil, Nat.reduceAdd, List.drop_zero, List.take_succ_cons, List.take_zero, aop, pairO, Bool.false_eq_true, Bool.true_eq_false, List.toList_toArray, aeval, upd_same, upd_other, ne_eq, not_false_eq_true, frame0, ofConst, ↓reduceIte, Nat.reduceEqDiff, List.getD_cons_zero, List.getD_cons_succ, Option.map_some, Option.map_none]; rfl, ?_⟩
    refine ⟨?_, rfl⟩
    rw [List.take_length]
    rfl
theorem F14_calls (b : List (BitVec 8)) (a : AV) (ha : Sl 1 (bys b) a) (hb : b.length ≤ 4611686018427387904) (σ : St) : ACall Try.prog 14 [a] σ (fun r σ' => r = .int .u32 (sum b).toNat ∧ σ' = σ) := by
  refine acall_intro tyOk (fun _ => false) Try.func14 (by decide) rfl (Nat.le_of_ble_eq_true rfl) ?_
  refine wpc_seq ?_
  refine wpc_region rfl ?_
  refine wpo_op rfl rfl rfl rfl (by simp only [aop, pairO, Bool.false_eq_true, Bool.true_eq_false, List.toList_toArray, aeval, upd_same, upd_other, ne_eq, not_false_eq_true, frame0, ofConst, ↓reduceIte, Nat.reduceEqDiff, List.getD_cons_zero, List.getD_cons_succ, Option.map_some, Option.map_none]; rfl) ?_
  refine wpo_nil ?_
  refine wpc_seq ?_
  refine wpc_region rfl ?_
  refine wpo_op rfl rfl rfl rfl (by simp only [aop, pairO, Bool.false_eq_true, Bool.true_eq_false, List.toList_toArray, aeval, upd_same, upd_other, ne_eq, not_false_eq_true, frame0, ofConst, ↓reduceIte, Nat.reduceEqDiff, List.getD_cons_zero, List.getD_cons_succ, Option.map_some, Option.map_none]; rfl) ?_
  refine wpo_call rfl rfl rfl rfl rfl (by simp only [List.map_cons, List.map_nil, List.nil_append, List.append_nil, List.singleton_append, List.cons_append, aop, pairO, Bool.false_eq_true, Bool.true_eq_false, List.toList_toArray, aeval, upd_same, upd_other, ne_eq, not_false_eq_true, frame0, ofConst, ↓reduceIte, Nat.reduceEqDiff, List.getD_cons_zero, List.getD_cons_succ, Option.map_some, Option.map_none, alen, Sl.len, td23, td22]; first | done | rfl) (F21_calls 0#32 b a ha hb _) ?_
  rintro _ τ ⟨rfl, hτ⟩
  obtain rfl := hτ.symm
  refine wpo_op rfl rfl rfl rfl (by simp only [aop, pairO, Bool.false_eq_true, Bool.true_eq_false, List.toList_toArray, aeval, upd_same, upd_other, ne_eq, not_false_eq_true, frame0, ofConst, ↓reduceIte, Nat.reduceEqDiff, List.getD_cons_zero, List.getD_cons_succ, Option.map_some, Option.map_none]; rfl) ?_
  refine wpo_nil ?_
  refine wpc_ret ?_
  refine ⟨_, by rw [show Try.f14.results.toList = [.tmp 2] from rfl]; simp only [ares, aresL, aresOne, aload, acells, acut, isAggTD, List.getElem?_append_right, Nat.le_refl, Nat.sub_self, List.getElem?_cons_zero, AV.cells, List.length_cons, List.length_nil, Nat.reduceAdd, List.drop_zero, List.take_succ_cons, List.take_zero, aop, pairO, Bool.false_eq_true, Bool.true_eq_false, List.toList_toArray, aeval, upd_same, upd_other, ne_eq, not_false_eq_true, frame0, ofConst, ↓reduceIte, Nat.reduceEqDiff, List.getD_cons_zero, List.getD_cons_succ, Option.map_some, Option.map_none]; rfl, ?_⟩
  exact ⟨rfl, rfl⟩
end Go.Proofs.Ytnjijefhnmnjgaa.Ck
