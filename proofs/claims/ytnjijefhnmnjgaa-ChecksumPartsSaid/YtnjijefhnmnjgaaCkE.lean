/- checksum: what the laws' own check answers; the laws, walked. -/
import Derived.Test.YtnjijefhnmnjgaaCkD
namespace Go.Proofs.Ytnjijefhnmnjgaa.Ck
open Go Go.Va Go.Proofs.Ytnjijefhnmnjgaa.Va
set_option linter.unusedVariables false
set_option linter.unusedSimpArgs false
set_option maxRecDepth 20000
def nine : List (BitVec 8) := [49#8, 50#8, 51#8, 52#8, 53#8, 54#8, 55#8, 56#8, 57#8]
theorem nineS : Sl 1 (bys nine) (.sl .full 1 [.int .u8 49, .int .u8 50, .int .u8 51, .int .u8 52, .int .u8 53, .int .u8 54, .int .u8 55, .int .u8 56, .int .u8 57]) := .inr ⟨.full, rfl⟩
theorem threeS : Sl 1 (bys [1#8, 2#8, 3#8]) (.sl .full 1 [.int .u8 1, .int .u8 2, .int .u8 3]) := .inr ⟨.full, rfl⟩
theorem sum_nine : sum nine = 3421780262#32 := by decide +kernel
theorem fits_nine : fits (seal_ nine) = true := by decide +kernel
theorem fits_three : fits [1#8, 2#8, 3#8] = false := by decide +kernel
theorem four_258 : four 258#32 = [2#8, 1#8, 0#8, 0#8] := by decide +kernel
theorem len_nine : (seal_ nine).length = 13 := by decide +kernel

theorem F12_calls (σ : St) : ACall Try.prog 12 [] σ (fun r σ' => r = .bool true ∧ σ' = σ) := by
  refine acall_intro tyOk (fun _ => false) Try.func12 (by decide) rfl (Nat.le_of_ble_eq_true rfl) ?_
  refine wpc_seq ?_
  refine wpc_region rfl ?_
  refine wpo_op rfl rfl rfl rfl (by simp only [aop, pairO, Bool.false_eq_true, Bool.true_eq_false, List.toList_toArray, aeval, upd, frame0, ofConst, ↓reduceIte, Nat.reduceEqDiff, List.getD_cons_zero, List.getD_cons_succ, Option.map_some, Option.map_none]; rfl) ?_
  refine wpo_nil ?_
  refine wpc_seq ?_
  refine wpc_region rfl ?_
  refine wpo_op rfl rfl rfl rfl (by simp only [aop, pairO, Bool.false_eq_true, Bool.true_eq_false, List.toList_toArray, aeval, upd, frame0, ofConst, ↓reduceIte, Nat.reduceEqDiff, List.getD_cons_zero, List.getD_cons_succ, Option.map_some, Option.map_none, abuildSlice, alay, List.replicate_succ, List.replicate_zero, List.set_cons_zero, List.set_cons_succ, AV.cells, flatAV, List.all_cons, List.all_nil, Bool.and_true, Bool.and_self, List.length_cons, List.length_nil, List.length_set, Nat.reduceAdd, Nat.reduceMul, Nat.reduceLT, Nat.reduceLeDiff, Nat.lt_add_one, Nat.zero_lt_succ, Nat.zero_mul, Nat.zero_le, Nat.one_pos, and_self, List.map_cons, List.map_nil, td22, ty5]; rfl) ?_
  refine wpo_op rfl rfl rfl rfl (by simp only [aop, pairO, Bool.false_eq_true, Bool.true_eq_false, List.toList_toArray, aeval, upd, frame0, ofConst, ↓reduceIte, Nat.reduceEqDiff, List.getD_cons_zero, List.getD_cons_succ, Option.map_some, Option.map_none, aconv, cv_u8, cv_u16, cv_u32, cv_u64, cv_i64_u8, cv_i64_u16, cv_i64_u32, td22, aconvM]; rfl) ?_
  refine wpo_call rfl rfl rfl rfl rfl (by simp only [List.map_cons, List.map_nil, List.nil_append, List.append_nil, List.singleton_append, List.cons_append, aop, pairO, Bool.false_eq_true, Bool.true_eq_false, List.toList_toArray, aeval, upd, frame0, ofConst, ↓reduceIte, Nat.reduceEqDiff, List.getD_cons_zero, List.getD_cons_succ, Option.map_some, Option.map_none, alen, Sl.len, td22]; first | done | rfl) (F17_calls0 nine _ nineS (by decide) _) ?_
  rintro s τ ⟨hs, hτ⟩
  obtain rfl := hτ.symm
  refine wpo_op rfl rfl rfl rfl (by simp only [aop, pairO, Bool.false_eq_true, Bool.true_eq_false, List.toList_toArray, aeval, upd, frame0, ofConst, ↓reduceIte, Nat.reduceEqDiff, List.getD_cons_zero, List.getD_cons_succ, Option.map_some, Option.map_none]; rfl) ?_
  refine wpo_nil ?_
  refine wpc_seq ?_
  refine wpc_region rfl ?_
  refine wpo_op rfl rfl rfl rfl (by simp only [aop, pairO, Bool.false_eq_true, Bool.true_eq_false, List.toList_toArray, aeval, upd, frame0, ofConst, ↓reduceIte, Nat.reduceEqDiff, List.getD_cons_zero, List.getD_cons_succ, Option.map_some, Option.map_none, abuildSlice, alay, List.replicate_succ, List.replicate_zero, List.set_cons_zero, List.set_cons_succ, AV.cells, flatAV, List.all_cons, List.all_nil, Bool.and_true, Bool.and_self, List.length_cons, List.length_nil, List.length_set, Nat.reduceAdd, Nat.reduceMul, Nat.reduceLT, Nat.reduceLeDiff, Nat.lt_add_one, Nat.zero_lt_succ, Nat.zero_mul, Nat.zero_le, Nat.one_pos, and_self, List.map_cons, List.map_nil, td22, ty5]; rfl) ?_
  refine wpo_op rfl rfl rfl rfl (by simp only [aop, pairO, Bool.false_eq_true, Bool.true_eq_false, List.toList_toArray, aeval, upd, frame0, ofConst, ↓reduceIte, Nat.reduceEqDiff, List.getD_cons_zero, List.getD_cons_succ, Option.map_some, Option.map_none, aconv, cv_u8, cv_u16, cv_u32, cv_u64, cv_i64_u8, cv_i64_u16, cv_i64_u32, td22, aconvM]; rfl) ?_
  refine wpo_call rfl rfl rfl rfl rfl (by simp only [List.map_cons, List.map_nil, List.nil_append, List.append_nil, List.singleton_append, List.cons_append, aop, pairO, Bool.false_eq_true, Bool.true_eq_false, List.toList_toArray, aeval, upd, frame0, ofConst, ↓reduceIte, Nat.reduceEqDiff, List.getD_cons_zero, List.getD_cons_succ, Option.map_some, Option.map_none, alen, Sl.len, td22]; first | done | rfl) (F14_calls nine _ nineS (by decide) _) ?_
  rintro _ τ ⟨rfl, hτ⟩
  obtain rfl := hτ.symm
  refine wpo_op rfl rfl rfl rfl (by simp only [aop, pairO, Bool.false_eq_true, Bool.true_eq_false, List.toList_toArray, aeval, upd, frame0, ofConst, ↓reduceIte, Nat.reduceEqDiff, List.getD_cons_zero, List.getD_cons_succ, Option.map_some, Option.map_none, abin', abin, aarith, beq_bv8, beq_bv32, beq_bv64, aeq, astr, isC, reduceCtorEq, cv_u8, cv_u16, cv_u32, cv_u64, cv_i64_u8, cv_i64_u16, cv_i64_u32, xor_u8, xor_u32, xor_u64, and_u8, and_u32, and_u64, or_u8, or_u64, xor_u32_lit, and_u32_lit, and_u64_lit, and_u8_lit, shr_u8, shr_u32, shr_u64, beq_bv, Int.reduceLE, Int.reduceLT, Int.reduceToNat, BitVec.reduceOfInt, td23, sum_nine, decide_true, eq_self]; rfl) ?_
  refine wpo_op rfl rfl rfl rfl (by simp only [aop, pairO, Bool.false_eq_true, Bool.true_eq_false, List.toList_toArray, aeval, upd, frame0, ofConst, ↓reduceIte, Nat.reduceEqDiff, List.getD_cons_zero, List.getD_cons_succ, Option.map_some, Option.map_none]; rfl) ?_
  first | refine wpo_gskip rfl rfl rfl ?_ | refine wpo_gop rfl rfl rfl rfl (by simp only [aop, pairO, Bool.false_eq_true, Bool.true_eq_false, List.toList_toArray, aeval, upd, frame0, ofConst, ↓reduceIte, Nat.reduceEqDiff, List.getD_cons_zero, List.getD_cons_succ, Option.map_some, Option.map_none]; rfl) ?_
  first | refine wpo_gskip rfl rfl rfl ?_ | refine wpo_gop rfl rfl rfl rfl (by simp only [aop, pairO, Bool.false_eq_true, Bool.true_eq_false, List.toList_toArray, aeval, upd, frame0, ofConst, ↓reduceIte, Nat.reduceEqDiff, List.getD_cons_zero, List.getD_cons_succ, Option.map_some, Option.map_none, hs.len td22, bys_length, len_nine]; rfl) ?_
  first | refine wpo_gskip rfl rfl rfl ?_ | refine wpo_gop rfl rfl rfl rfl (by simp only [aop, pairO, Bool.false_eq_true, Bool.true_eq_false, List.toList_toArray, aeval, upd, frame0, ofConst, ↓reduceIte, Nat.reduceEqDiff, List.getD_cons_zero, List.getD_cons_succ, Option.map_some, Option.map_none, abin', abin, aarith, beq_bv8, beq_bv32, beq_bv64, aeq, astr, isC, reduceCtorEq, cv_u8, cv_u16, cv_u32, cv_u64, cv_i64_u8, cv_i64_u16, cv_i64_u32, xor_u8, xor_u32, xor_u64, and_u8, and_u32, and_u64, or_u8, or_u64, xor_u32_lit, and_u32_lit, and_u64_lit, and_u8_lit, shr_u8, shr_u32, shr_u64, beq_bv, Int.reduceLE, Int.reduceLT, Int.reduceToNat, BitVec.reduceOfInt, td3, Int.reduceBEq, beq_self_eq_true]; rfl) ?_
  refine wpo_op rfl rfl rfl rfl (by simp only [aop, pairO, Bool.false_eq_true, Bool.true_eq_false, List.toList_toArray, aeval, upd, frame0, ofConst, ↓reduceIte, Nat.reduceEqDiff, List.getD_cons_zero, List.getD_cons_succ, Option.map_some, Option.map_none, apick]; rfl) ?_
  refine wpo_op rfl rfl rfl rfl (by simp only [aop, pairO, Bool.false_eq_true, Bool.true_eq_false, List.toList_toArray, aeval, upd, frame0, ofConst, ↓reduceIte, Nat.reduceEqDiff, List.getD_cons_zero, List.getD_cons_succ, Option.map_some, Option.map_none]; rfl) ?_
  first | refine wpo_gskip rfl rfl rfl ?_ | refine wpo_gop rfl rfl rfl rfl (by simp only [aop, pairO, Bool.false_eq_true, Bool.true_eq_false, List.toList_toArray, aeval, upd, frame0, ofConst, ↓reduceIte, Nat.reduceEqDiff, List.getD_cons_zero, List.getD_cons_succ, Option.map_some, Option.map_none]; rfl) ?_
  refine wpo_gcall rfl rfl rfl rfl rfl (by simp only [List.map_cons, List.map_nil, List.nil_append, List.append_nil, List.singleton_append, List.cons_append, aop, pairO, Bool.false_eq_true, Bool.true_eq_false, List.toList_toArray, aeval, upd, frame0, ofConst, ↓reduceIte, Nat.reduceEqDiff, List.getD_cons_zero, List.getD_cons_succ, Option.map_some, Option.map_none, alen, Sl.len, td22]; first | done | rfl) (F19_calls (seal_ nine) s hs (by decide +kernel) _) ?_
  rintro _ τ ⟨rfl, hτ⟩
  obtain rfl := hτ.symm
  refine wpo_op rfl rfl rfl rfl (by simp only [aop, pairO, Bool.false_eq_true, Bool.true_eq_false, List.toList_toArray, aeval, upd, frame0, ofConst, ↓reduceIte, Nat.reduceEqDiff, List.getD_cons_zero, List.getD_cons_succ, Option.map_some, Option.map_none, apick, fits_nine]; rfl) ?_
  refine wpo_op rfl rfl rfl rfl (by simp only [aop, pairO, Bool.false_eq_true, Bool.true_eq_false, List.toList_toArray, aeval, upd, frame0, ofConst, ↓reduceIte, Nat.reduceEqDiff, List.getD_cons_zero, List.getD_cons_succ, Option.map_some, Option.map_none]; rfl) ?_
  first | refine wpo_gskip rfl rfl rfl ?_ | refine wpo_gop rfl rfl rfl rfl (by simp only [aop, pairO, Bool.false_eq_true, Bool.true_eq_false, List.toList_toArray, aeval, upd, frame0, ofConst, ↓reduceIte, Nat.reduceEqDiff, List.getD_cons_zero, List.getD_cons_succ, Option.map_some, Option.map_none, abuildSlice, alay, List.replicate_succ, List.replicate_zero, List.set_cons_zero, List.set_cons_succ, AV.cells, flatAV, List.all_cons, List.all_nil, Bool.and_true, Bool.and_self, List.length_cons, List.length_nil, List.length_set, Nat.reduceAdd, Nat.reduceMul, Nat.reduceLT, Nat.reduceLeDiff, Nat.lt_add_one, Nat.zero_lt_succ, Nat.zero_mul, Nat.zero_le, Nat.one_pos, and_self, List.map_cons, List.map_nil, td22, ty5]; rfl) ?_
  refine wpo_gcall rfl rfl rfl rfl rfl (by simp only [List.map_cons, List.map_nil, List.nil_append, List.append_nil, List.singleton_append, List.cons_append, aop, pairO, Bool.false_eq_true, Bool.true_eq_false, List.toList_toArray, aeval, upd, frame0, ofConst, ↓reduceIte, Nat.reduceEqDiff, List.getD_cons_zero, List.getD_cons_succ, Option.map_some, Option.map_none, alen, Sl.len, td22]; first | done | rfl) (F19_calls [1#8, 2#8, 3#8] _ threeS (by decide) _) ?_
  rintro _ τ ⟨rfl, hτ⟩
  obtain rfl := hτ.symm
  first | refine wpo_gskip rfl rfl rfl ?_ | refine wpo_gop rfl rfl rfl rfl (by simp only [aop, pairO, Bool.false_eq_true, Bool.true_eq_false, List.toList_toArray, aeval, upd, frame0, ofConst, ↓reduceIte, Nat.reduceEqDiff, List.getD_cons_zero, List.getD_cons_succ, Option.map_some, Option.map_none, aun, not_u32, IntKind.signed, Bool.false_eq_true, fits_three, Bool.not_false]; rfl) ?_
  refine wpo_op rfl rfl rfl rfl (by simp only [aop, pairO, Bool.false_eq_true, Bool.true_eq_false, List.toList_toArray, aeval, upd, frame0, ofConst, ↓reduceIte, Nat.reduceEqDiff, List.getD_cons_zero, List.getD_cons_succ, Option.map_some, Option.map_none, apick]; rfl) ?_
  refine wpo_op rfl rfl rfl rfl (by simp only [aop, pairO, Bool.false_eq_true, Bool.true_eq_false, List.toList_toArray, aeval, upd, frame0, ofConst, ↓reduceIte, Nat.reduceEqDiff, List.getD_cons_zero, List.getD_cons_succ, Option.map_some, Option.map_none]; rfl) ?_
  refine wpo_gcall rfl rfl rfl rfl rfl (by simp only [List.map_cons, List.map_nil, List.nil_append, List.append_nil, List.singleton_append, List.cons_append, aop, pairO, Bool.false_eq_true, Bool.true_eq_false, List.toList_toArray, aeval, upd, frame0, ofConst, ↓reduceIte, Nat.reduceEqDiff, List.getD_cons_zero, List.getD_cons_succ, Option.map_some, Option.map_none, alen, Sl.len, td23]; first | done | rfl) (F13_calls0 258#32 _) ?_
  rintro _ τ ⟨rfl, hτ⟩
  obtain rfl := hτ.symm
  first | refine wpo_gskip rfl rfl rfl ?_ | refine wpo_gop rfl rfl rfl rfl (by simp only [aop, pairO, Bool.false_eq_true, Bool.true_eq_false, List.toList_toArray, aeval, upd, frame0, ofConst, ↓reduceIte, Nat.reduceEqDiff, List.getD_cons_zero, List.getD_cons_succ, Option.map_some, Option.map_none, abuild, aplace, afill, repl, AV.cells, flatAV, List.all_cons, List.all_nil, Bool.and_true, List.length_cons, List.length_nil, List.take_zero, List.take_succ_cons, List.nil_append, List.cons_append, List.drop_succ_cons, List.drop_zero, List.drop_nil, List.append_nil, Nat.reduceAdd, Nat.reduceMul, Nat.zero_mul, Nat.zero_add, and_self, List.map_cons, List.map_nil, Option.isSome_some, Nat.reduceLeDiff, Nat.le_refl, ty25, td25, ty5, td25, sz5]; rfl) ?_
  have e21 : aeqAgg ty .eql 25 (bys (four 258#32)) [.int .u8 2, .int .u8 1, .int .u8 0, .int .u8 0] = some (.bool true) := by
    have := aeqAgg_bys (Ty := ty) (op := .eql) (l := four 258#32) (m := [2#8, 1#8, 0#8, 0#8]) td25 td5 sz5 rfl rfl
    rw [four_258] at this ⊢
    exact this
  first | refine wpo_gskip rfl rfl rfl ?_ | refine wpo_gop rfl rfl rfl rfl (by simp only [aop, pairO, Bool.false_eq_true, Bool.true_eq_false, List.toList_toArray, aeval, upd, frame0, ofConst, ↓reduceIte, Nat.reduceEqDiff, List.getD_cons_zero, List.getD_cons_succ, Option.map_some, Option.map_none, abin', e21]; rfl) ?_
  refine wpo_op rfl rfl rfl rfl (by simp only [aop, pairO, Bool.false_eq_true, Bool.true_eq_false, List.toList_toArray, aeval, upd, frame0, ofConst, ↓reduceIte, Nat.reduceEqDiff, List.getD_cons_zero, List.getD_cons_succ, Option.map_some, Option.map_none, apick]; rfl) ?_
  refine wpo_op rfl rfl rfl rfl (by simp only [aop, pairO, Bool.false_eq_true, Bool.true_eq_false, List.toList_toArray, aeval, upd, frame0, ofConst, ↓reduceIte, Nat.reduceEqDiff, List.getD_cons_zero, List.getD_cons_succ, Option.map_some, Option.map_none]; rfl) ?_
  refine wpo_nil ?_
  refine wpc_ret ?_
  refine ⟨_, by rw [show Try.f12.results.toList = [.tmp 0] from rfl]; simp only [ares, aresL, aresOne, aload, acells, acut, isAggTD, List.getElem?_append_right, Nat.le_refl, Nat.sub_self, List.getElem?_cons_zero, AV.cells, List.length_cons, List.length_nil, Nat.reduceAdd, List.drop_zero, List.take_succ_cons, List.take_zero, aop, pairO, Bool.false_eq_true, Bool.true_eq_false, List.toList_toArray, aeval, upd, frame0, ofConst, ↓reduceIte, Nat.reduceEqDiff, List.getD_cons_zero, List.getD_cons_succ, Option.map_some, Option.map_none]; rfl, ?_⟩
  exact ⟨rfl, rfl⟩
end Go.Proofs.Ytnjijefhnmnjgaa.Ck
