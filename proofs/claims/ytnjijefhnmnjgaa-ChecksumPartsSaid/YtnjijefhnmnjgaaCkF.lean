/- ChecksumParts, walked. -/
import Derived.Test.YtnjijefhnmnjgaaCkE
import Derived.Test.YtnjijefhnmnjgaaCkM
namespace Go.Proofs.Ytnjijefhnmnjgaa.Ck
open Go Go.Va Go.Proofs.Ytnjijefhnmnjgaa.Va
set_option linter.unusedVariables false
set_option linter.unusedSimpArgs false
set_option maxRecDepth 20000

theorem parts_a (a b : List (BitVec 8)) (x y : AV) (hx : Sl 1 (bys a) x) (hy : Sl 1 (bys b) y) (hA : decide ((a.length : Int) > 1000) = true) (σ : St) : ACall Try.prog 4 [x, y] σ (fun r _ => r = .bool true) := by
  refine acall_intro tyOk (fun _ => false) Try.func4 (by decide) rfl (Nat.le_of_ble_eq_true rfl) ?_
  refine wpc_seq ?_
  refine wpc_region rfl ?_
  refine wpo_op rfl rfl rfl rfl (by simp only [aop, pairO, Bool.false_eq_true, Bool.true_eq_false, List.toList_toArray, aeval, upd, frame0, ofConst, ↓reduceIte, Nat.reduceEqDiff, List.getD_cons_zero, List.getD_cons_succ, Option.map_some, Option.map_none]; rfl) ?_
  refine wpo_nil ?_
  refine wpc_seq ?_
  refine wpc_seq ?_
  refine wpc_region rfl ?_
  refine wpo_op rfl rfl rfl rfl (by simp only [aop, pairO, Bool.false_eq_true, Bool.true_eq_false, List.toList_toArray, aeval, upd, frame0, ofConst, ↓reduceIte, Nat.reduceEqDiff, List.getD_cons_zero, List.getD_cons_succ, Option.map_some, Option.map_none]; rfl) ?_
  refine wpo_op rfl rfl rfl rfl (by simp only [aop, pairO, Bool.false_eq_true, Bool.true_eq_false, List.toList_toArray, aeval, upd, frame0, ofConst, ↓reduceIte, Nat.reduceEqDiff, List.getD_cons_zero, List.getD_cons_succ, Option.map_some, Option.map_none, hx.len td22, bys_length]; rfl) ?_
  refine wpo_op rfl rfl rfl rfl (by simp only [aop, pairO, Bool.false_eq_true, Bool.true_eq_false, List.toList_toArray, aeval, upd, frame0, ofConst, ↓reduceIte, Nat.reduceEqDiff, List.getD_cons_zero, List.getD_cons_succ, Option.map_some, Option.map_none, abin', abin, aarith, beq_bv8, beq_bv32, beq_bv64, aeq, astr, isC, reduceCtorEq, cv_u8, cv_u16, cv_u32, cv_u64, cv_i64_u8, cv_i64_u16, cv_i64_u32, xor_u8, xor_u32, xor_u64, and_u8, and_u32, and_u64, or_u8, or_u64, xor_u32_lit, and_u32_lit, and_u64_lit, and_u8_lit, shr_u8, shr_u32, shr_u64, beq_bv, Int.reduceLE, Int.reduceLT, Int.reduceToNat, BitVec.reduceOfInt, td3, hA]; rfl) ?_
  refine wpo_op rfl rfl rfl rfl (by simp only [aop, pairO, Bool.false_eq_true, Bool.true_eq_false, List.toList_toArray, aeval, upd, frame0, ofConst, ↓reduceIte, Nat.reduceEqDiff, List.getD_cons_zero, List.getD_cons_succ, Option.map_some, Option.map_none]; rfl) ?_
  first | refine wpo_gskip rfl rfl rfl ?_ | refine wpo_gop rfl rfl rfl rfl (by simp only [aop, pairO, Bool.false_eq_true, Bool.true_eq_false, List.toList_toArray, aeval, upd, frame0, ofConst, ↓reduceIte, Nat.reduceEqDiff, List.getD_cons_zero, List.getD_cons_succ, Option.map_some, Option.map_none]; rfl) ?_
  first | refine wpo_gskip rfl rfl rfl ?_ | refine wpo_gop rfl rfl rfl rfl (by simp only [aop, pairO, Bool.false_eq_true, Bool.true_eq_false, List.toList_toArray, aeval, upd, frame0, ofConst, ↓reduceIte, Nat.reduceEqDiff, List.getD_cons_zero, List.getD_cons_succ, Option.map_some, Option.map_none, hy.len td22, bys_length]; rfl) ?_
  first | refine wpo_gskip rfl rfl rfl ?_ | refine wpo_gop rfl rfl rfl rfl (by simp only [aop, pairO, Bool.false_eq_true, Bool.true_eq_false, List.toList_toArray, aeval, upd, frame0, ofConst, ↓reduceIte, Nat.reduceEqDiff, List.getD_cons_zero, List.getD_cons_succ, Option.map_some, Option.map_none, abin', abin, aarith, beq_bv8, beq_bv32, beq_bv64, aeq, astr, isC, reduceCtorEq, cv_u8, cv_u16, cv_u32, cv_u64, cv_i64_u8, cv_i64_u16, cv_i64_u32, xor_u8, xor_u32, xor_u64, and_u8, and_u32, and_u64, or_u8, or_u64, xor_u32_lit, and_u32_lit, and_u64_lit, and_u8_lit, shr_u8, shr_u32, shr_u64, beq_bv, Int.reduceLE, Int.reduceLT, Int.reduceToNat, BitVec.reduceOfInt, td3]; rfl) ?_
  refine wpo_op rfl rfl rfl rfl (by simp only [aop, pairO, Bool.false_eq_true, Bool.true_eq_false, List.toList_toArray, aeval, upd, frame0, ofConst, ↓reduceIte, Nat.reduceEqDiff, List.getD_cons_zero, List.getD_cons_succ, Option.map_some, Option.map_none, apick]; rfl) ?_
  refine wpo_nil ?_
  refine wpc_cond (by simp only [aop, pairO, Bool.false_eq_true, Bool.true_eq_false, List.toList_toArray, aeval, upd, frame0, ofConst, ↓reduceIte, Nat.reduceEqDiff, List.getD_cons_zero, List.getD_cons_succ, Option.map_some, Option.map_none]; rfl) (fun hb0 => ?_) (fun hb0 => ?_)
  ·
    refine wpc_seq ?_
    refine wpc_region rfl ?_
    refine wpo_call rfl rfl rfl rfl rfl (by simp only [List.map_cons, List.map_nil, List.nil_append, List.append_nil, List.singleton_append, List.cons_append, aop, pairO, Bool.false_eq_true, Bool.true_eq_false, List.toList_toArray, aeval, upd, frame0, ofConst, ↓reduceIte, Nat.reduceEqDiff, List.getD_cons_zero, List.getD_cons_succ, Option.map_some, Option.map_none, alen, Sl.len]; first | done | rfl) (F12_calls _) ?_
    rintro _ τ ⟨rfl, hτ⟩
    obtain rfl := hτ.symm
    refine wpo_op rfl rfl rfl rfl (by simp only [aop, pairO, Bool.false_eq_true, Bool.true_eq_false, List.toList_toArray, aeval, upd, frame0, ofConst, ↓reduceIte, Nat.reduceEqDiff, List.getD_cons_zero, List.getD_cons_succ, Option.map_some, Option.map_none]; rfl) ?_
    refine wpo_nil ?_
    refine wpc_ret ?_
    refine ⟨_, by rw [show Try.f4.results.toList = [.tmp 4] from rfl]; simp only [ares, aresL, aresOne, aload, acells, acut, isAggTD, List.getElem?_append_right, Nat.le_refl, Nat.sub_self, List.getElem?_cons_zero, AV.cells, List.length_cons, List.length_nil, Nat.reduceAdd, List.drop_zero, List.take_succ_cons, List.take_zero, aop, pairO, Bool.false_eq_true, Bool.true_eq_false, List.toList_toArray, aeval, upd, frame0, ofConst, ↓reduceIte, Nat.reduceEqDiff, List.getD_cons_zero, List.getD_cons_succ, Option.map_some, Option.map_none]; rfl, ?_⟩
    rfl
  ·
    exact absurd hb0 (by simp)
theorem parts_b (a b : List (BitVec 8)) (x y : AV) (hx : Sl 1 (bys a) x) (hy : Sl 1 (bys b) y) (hA : decide ((a.length : Int) > 1000) = false) (hB : decide ((b.length : Int) > 1000) = true) (σ : St) : ACall Try.prog 4 [x, y] σ (fun r _ => r = .bool true) := by
  refine acall_intro tyOk (fun _ => false) Try.func4 (by decide) rfl (Nat.le_of_ble_eq_true rfl) ?_
  refine wpc_seq ?_
  refine wpc_region rfl ?_
  refine wpo_op rfl rfl rfl rfl (by simp only [aop, pairO, Bool.false_eq_true, Bool.true_eq_false, List.toList_toArray, aeval, upd, frame0, ofConst, ↓reduceIte, Nat.reduceEqDiff, List.getD_cons_zero, List.getD_cons_succ, Option.map_some, Option.map_none]; rfl) ?_
  refine wpo_nil ?_
  refine wpc_seq ?_
  refine wpc_seq ?_
  refine wpc_region rfl ?_
  refine wpo_op rfl rfl rfl rfl (by simp only [aop, pairO, Bool.false_eq_true, Bool.true_eq_false, List.toList_toArray, aeval, upd, frame0, ofConst, ↓reduceIte, Nat.reduceEqDiff, List.getD_cons_zero, List.getD_cons_succ, Option.map_some, Option.map_none]; rfl) ?_
  refine wpo_op rfl rfl rfl rfl (by simp only [aop, pairO, Bool.false_eq_true, Bool.true_eq_false, List.toList_toArray, aeval, upd, frame0, ofConst, ↓reduceIte, Nat.reduceEqDiff, List.getD_cons_zero, List.getD_cons_succ, Option.map_some, Option.map_none, hx.len td22, bys_length]; rfl) ?_
  refine wpo_op rfl rfl rfl rfl (by simp only [aop, pairO, Bool.false_eq_true, Bool.true_eq_false, List.toList_toArray, aeval, upd, frame0, ofConst, ↓reduceIte, Nat.reduceEqDiff, List.getD_cons_zero, List.getD_cons_succ, Option.map_some, Option.map_none, abin', abin, aarith, beq_bv8, beq_bv32, beq_bv64, aeq, astr, isC, reduceCtorEq, cv_u8, cv_u16, cv_u32, cv_u64, cv_i64_u8, cv_i64_u16, cv_i64_u32, xor_u8, xor_u32, xor_u64, and_u8, and_u32, and_u64, or_u8, or_u64, xor_u32_lit, and_u32_lit, and_u64_lit, and_u8_lit, shr_u8, shr_u32, shr_u64, beq_bv, Int.reduceLE, Int.reduceLT, Int.reduceToNat, BitVec.reduceOfInt, td3, hA]; rfl) ?_
  refine wpo_op rfl rfl rfl rfl (by simp only [aop, pairO, Bool.false_eq_true, Bool.true_eq_false, List.toList_toArray, aeval, upd, frame0, ofConst, ↓reduceIte, Nat.reduceEqDiff, List.getD_cons_zero, List.getD_cons_succ, Option.map_some, Option.map_none]; rfl) ?_
  first | refine wpo_gskip rfl rfl rfl ?_ | refine wpo_gop rfl rfl rfl rfl (by simp only [aop, pairO, Bool.false_eq_true, Bool.true_eq_false, List.toList_toArray, aeval, upd, frame0, ofConst, ↓reduceIte, Nat.reduceEqDiff, List.getD_cons_zero, List.getD_cons_succ, Option.map_some, Option.map_none]; rfl) ?_
  first | refine wpo_gskip rfl rfl rfl ?_ | refine wpo_gop rfl rfl rfl rfl (by simp only [aop, pairO, Bool.false_eq_true, Bool.true_eq_false, List.toList_toArray, aeval, upd, frame0, ofConst, ↓reduceIte, Nat.reduceEqDiff, List.getD_cons_zero, List.getD_cons_succ, Option.map_some, Option.map_none, hy.len td22, bys_length]; rfl) ?_
  first | refine wpo_gskip rfl rfl rfl ?_ | refine wpo_gop rfl rfl rfl rfl (by simp only [aop, pairO, Bool.false_eq_true, Bool.true_eq_false, List.toList_toArray, aeval, upd, frame0, ofConst, ↓reduceIte, Nat.reduceEqDiff, List.getD_cons_zero, List.getD_cons_succ, Option.map_some, Option.map_none, abin', abin, aarith, beq_bv8, beq_bv32, beq_bv64, aeq, astr, isC, reduceCtorEq, cv_u8, cv_u16, cv_u32, cv_u64, cv_i64_u8, cv_i64_u16, cv_i64_u32, xor_u8, xor_u32, xor_u64, and_u8, and_u32, and_u64, or_u8, or_u64, xor_u32_lit, and_u32_lit, and_u64_lit, and_u8_lit, shr_u8, shr_u32, shr_u64, beq_bv, Int.reduceLE, Int.reduceLT, Int.reduceToNat, BitVec.reduceOfInt, td3, hB]; rfl) ?_
  refine wpo_op rfl rfl rfl rfl (by simp only [aop, pairO, Bool.false_eq_true, Bool.true_eq_false, List.toList_toArray, aeval, upd, frame0, ofConst, ↓reduceIte, Nat.reduceEqDiff, List.getD_cons_zero, List.getD_cons_succ, Option.map_some, Option.map_none, apick]; rfl) ?_
  refine wpo_nil ?_
  refine wpc_cond (by simp only [aop, pairO, Bool.false_eq_true, Bool.true_eq_false, List.toList_toArray, aeval, upd, frame0, ofConst, ↓reduceIte, Nat.reduceEqDiff, List.getD_cons_zero, List.getD_cons_succ, Option.map_some, Option.map_none]; rfl) (fun hb0 => ?_) (fun hb0 => ?_)
  ·
    refine wpc_seq ?_
    refine wpc_region rfl ?_
    refine wpo_call rfl rfl rfl rfl rfl (by simp only [List.map_cons, List.map_nil, List.nil_append, List.append_nil, List.singleton_append, List.cons_append, aop, pairO, Bool.false_eq_true, Bool.true_eq_false, List.toList_toArray, aeval, upd, frame0, ofConst, ↓reduceIte, Nat.reduceEqDiff, List.getD_cons_zero, List.getD_cons_succ, Option.map_some, Option.map_none, alen, Sl.len]; first | done | rfl) (F12_calls _) ?_
    rintro _ τ ⟨rfl, hτ⟩
    obtain rfl := hτ.symm
    refine wpo_op rfl rfl rfl rfl (by simp only [aop, pairO, Bool.false_eq_true, Bool.true_eq_false, List.toList_toArray, aeval, upd, frame0, ofConst, ↓reduceIte, Nat.reduceEqDiff, List.getD_cons_zero, List.getD_cons_succ, Option.map_some, Option.map_none]; rfl) ?_
    refine wpo_nil ?_
    refine wpc_ret ?_
    refine ⟨_, by rw [show Try.f4.results.toList = [.tmp 4] from rfl]; simp only [ares, aresL, aresOne, aload, acells, acut, isAggTD, List.getElem?_append_right, Nat.le_refl, Nat.sub_self, List.getElem?_cons_zero, AV.cells, List.length_cons, List.length_nil, Nat.reduceAdd, List.drop_zero, List.take_succ_cons, List.take_zero, aop, pairO, Bool.false_eq_true, Bool.true_eq_false, List.toList_toArray, aeval, upd, frame0, ofConst, ↓reduceIte, Nat.reduceEqDiff, List.getD_cons_zero, List.getD_cons_succ, Option.map_some, Option.map_none]; rfl, ?_⟩
    rfl
  ·
    exact absurd hb0 (by simp)
theorem parts_c (a b : List (BitVec 8)) (x y : AV) (hx : Sl 1 (bys a) x) (hy : Sl 1 (bys b) y) (hA : decide ((a.length : Int) > 1000) = false) (hB : decide ((b.length : Int) > 1000) = false) (σ : St) : ACall Try.prog 4 [x, y] σ (fun r _ => r = .bool true) := by
  have la : a.length ≤ 1000 := by have := of_decide_eq_false hA; omega
  have lb : b.length ≤ 1000 := by have := of_decide_eq_false hB; omega
  refine acall_intro tyOk (fun _ => false) Try.func4 (by decide) rfl (Nat.le_of_ble_eq_true rfl) ?_
  refine wpc_seq ?_
  refine wpc_region rfl ?_
  refine wpo_op rfl rfl rfl rfl (by simp only [aop, pairO, Bool.false_eq_true, Bool.true_eq_false, List.toList_toArray, aeval, upd, frame0, ofConst, ↓reduceIte, Nat.reduceEqDiff, List.getD_cons_zero, List.getD_cons_succ, Option.map_some, Option.map_none]; rfl) ?_
  refine wpo_nil ?_
  refine wpc_seq ?_
  refine wpc_seq ?_
  refine wpc_region rfl ?_
  refine wpo_op rfl rfl rfl rfl (by simp only [aop, pairO, Bool.false_eq_true, Bool.true_eq_false, List.toList_toArray, aeval, upd, frame0, ofConst, ↓reduceIte, Nat.reduceEqDiff, List.getD_cons_zero, List.getD_cons_succ, Option.map_some, Option.map_none]; rfl) ?_
  refine wpo_op rfl rfl rfl rfl (by simp only [aop, pairO, Bool.false_eq_true, Bool.true_eq_false, List.toList_toArray, aeval, upd, frame0, ofConst, ↓reduceIte, Nat.reduceEqDiff, List.getD_cons_zero, List.getD_cons_succ, Option.map_some, Option.map_none, hx.len td22, bys_length]; rfl) ?_
  refine wpo_op rfl rfl rfl rfl (by simp only [aop, pairO, Bool.false_eq_true, Bool.true_eq_false, List.toList_toArray, aeval, upd, frame0, ofConst, ↓reduceIte, Nat.reduceEqDiff, List.getD_cons_zero, List.getD_cons_succ, Option.map_some, Option.map_none, abin', abin, aarith, beq_bv8, beq_bv32, beq_bv64, aeq, astr, isC, reduceCtorEq, cv_u8, cv_u16, cv_u32, cv_u64, cv_i64_u8, cv_i64_u16, cv_i64_u32, xor_u8, xor_u32, xor_u64, and_u8, and_u32, and_u64, or_u8, or_u64, xor_u32_lit, and_u32_lit, and_u64_lit, and_u8_lit, shr_u8, shr_u32, shr_u64, beq_bv, Int.reduceLE, Int.reduceLT, Int.reduceToNat, BitVec.reduceOfInt, td3, hA]; rfl) ?_
  refine wpo_op rfl rfl rfl rfl (by simp only [aop, pairO, Bool.false_eq_true, Bool.true_eq_false, List.toList_toArray, aeval, upd, frame0, ofConst, ↓reduceIte, Nat.reduceEqDiff, List.getD_cons_zero, List.getD_cons_succ, Option.map_some, Option.map_none]; rfl) ?_
  first | refine wpo_gskip rfl rfl rfl ?_ | refine wpo_gop rfl rfl rfl rfl (by simp only [aop, pairO, Bool.false_eq_true, Bool.true_eq_false, List.toList_toArray, aeval, upd, frame0, ofConst, ↓reduceIte, Nat.reduceEqDiff, List.getD_cons_zero, List.getD_cons_succ, Option.map_some, Option.map_none]; rfl) ?_
  first | refine wpo_gskip rfl rfl rfl ?_ | refine wpo_gop rfl rfl rfl rfl (by simp only [aop, pairO, Bool.false_eq_true, Bool.true_eq_false, List.toList_toArray, aeval, upd, frame0, ofConst, ↓reduceIte, Nat.reduceEqDiff, List.getD_cons_zero, List.getD_cons_succ, Option.map_some, Option.map_none, hy.len td22, bys_length]; rfl) ?_
  first | refine wpo_gskip rfl rfl rfl ?_ | refine wpo_gop rfl rfl rfl rfl (by simp only [aop, pairO, Bool.false_eq_true, Bool.true_eq_false, List.toList_toArray, aeval, upd, frame0, ofConst, ↓reduceIte, Nat.reduceEqDiff, List.getD_cons_zero, List.getD_cons_succ, Option.map_some, Option.map_none, abin', abin, aarith, beq_bv8, beq_bv32, beq_bv64, aeq, astr, isC, reduceCtorEq, cv_u8, cv_u16, cv_u32, cv_u64, cv_i64_u8, cv_i64_u16, cv_i64_u32, xor_u8, xor_u32, xor_u64, and_u8, and_u32, and_u64, or_u8, or_u64, xor_u32_lit, and_u32_lit, and_u64_lit, and_u8_lit, shr_u8, shr_u32, shr_u64, beq_bv, Int.reduceLE, Int.reduceLT, Int.reduceToNat, BitVec.reduceOfInt, td3, hB]; rfl) ?_
  refine wpo_op rfl rfl rfl rfl (by simp only [aop, pairO, Bool.false_eq_true, Bool.true_eq_false, List.toList_toArray, aeval, upd, frame0, ofConst, ↓reduceIte, Nat.reduceEqDiff, List.getD_cons_zero, List.getD_cons_succ, Option.map_some, Option.map_none, apick]; rfl) ?_
  refine wpo_nil ?_
  refine wpc_cond (by simp only [aop, pairO, Bool.false_eq_true, Bool.true_eq_false, List.toList_toArray, aeval, upd, frame0, ofConst, ↓reduceIte, Nat.reduceEqDiff, List.getD_cons_zero, List.getD_cons_succ, Option.map_some, Option.map_none]; rfl) (fun hb0 => ?_) (fun hb0 => ?_)
  ·
    exact absurd hb0 (by simp)
  ·
    refine wpc_skip ?_
    refine wpc_seq ?_
    refine wpc_region rfl ?_
    refine wpo_op rfl rfl rfl rfl (by simp only [aop, pairO, Bool.false_eq_true, Bool.true_eq_false, List.toList_toArray, aeval, upd, frame0, ofConst, ↓reduceIte, Nat.reduceEqDiff, List.getD_cons_zero, List.getD_cons_succ, Option.map_some, Option.map_none, abuildSlice, alay, List.replicate_succ, List.replicate_zero, List.set_cons_zero, List.set_cons_succ, AV.cells, flatAV, List.all_cons, List.all_nil, Bool.and_true, Bool.and_self, List.length_cons, List.length_nil, List.length_set, Nat.reduceAdd, Nat.reduceMul, Nat.reduceLT, Nat.reduceLeDiff, Nat.lt_add_one, Nat.zero_lt_succ, Nat.zero_mul, Nat.zero_le, Nat.one_pos, and_self, List.map_cons, List.map_nil, td22, ty5]; rfl) ?_
    refine wpo_op rfl rfl rfl rfl (by simp only [aop, pairO, Bool.false_eq_true, Bool.true_eq_false, List.toList_toArray, aeval, upd, frame0, ofConst, ↓reduceIte, Nat.reduceEqDiff, List.getD_cons_zero, List.getD_cons_succ, Option.map_some, Option.map_none]; rfl) ?_
    obtain ⟨a1, σ1, e1, p1, l1, o1, n1⟩ := Ap.append (Ty := ty) (T := 22) (U := 22) (σ0 := σ) (σ := σ) (a := .sl .full 1 []) (es := []) (.inr (.inl rfl)) (St.Le.refl σ) (Nat.le_refl _) td22 ty5 rfl (by decide) (hx.src td22) (by simp only [List.length_nil, bys_length]; omega)
    refine wpo_op rfl rfl rfl rfl (by simp only [aop, pairO, Bool.false_eq_true, Bool.true_eq_false, List.toList_toArray, aeval, upd, frame0, ofConst, ↓reduceIte, Nat.reduceEqDiff, List.getD_cons_zero, List.getD_cons_succ, Option.map_some, Option.map_none, e1]; rfl) ?_
    refine wpo_op rfl rfl rfl rfl (by simp only [aop, pairO, Bool.false_eq_true, Bool.true_eq_false, List.toList_toArray, aeval, upd, frame0, ofConst, ↓reduceIte, Nat.reduceEqDiff, List.getD_cons_zero, List.getD_cons_succ, Option.map_some, Option.map_none]; rfl) ?_
    obtain ⟨a2, σ2, e2, p2, l2, o2, n2⟩ := Ap.append (Ty := ty) (T := 22) (U := 22) p1 l1 n1 td22 ty5 rfl (by decide) (hy.src td22) (by simp only [List.nil_append, bys_length]; omega)
    have s2 : Sl 1 (bys (a ++ b)) a2 := by rw [bys_append]; exact p2.sl
    refine wpo_op rfl rfl rfl rfl (by simp only [aop, pairO, Bool.false_eq_true, Bool.true_eq_false, List.toList_toArray, aeval, upd, frame0, ofConst, ↓reduceIte, Nat.reduceEqDiff, List.getD_cons_zero, List.getD_cons_succ, Option.map_some, Option.map_none, e2]; rfl) ?_
    refine wpo_op rfl rfl rfl rfl (by simp only [aop, pairO, Bool.false_eq_true, Bool.true_eq_false, List.toList_toArray, aeval, upd, frame0, ofConst, ↓reduceIte, Nat.reduceEqDiff, List.getD_cons_zero, List.getD_cons_succ, Option.map_some, Option.map_none]; rfl) ?_
    refine wpo_nil ?_
    refine wpc_seq ?_
    refine wpc_region rfl ?_
    refine wpo_op rfl rfl rfl rfl (by simp only [aop, pairO, Bool.false_eq_true, Bool.true_eq_false, List.toList_toArray, aeval, upd, frame0, ofConst, ↓reduceIte, Nat.reduceEqDiff, List.getD_cons_zero, List.getD_cons_succ, Option.map_some, Option.map_none]; rfl) ?_
    refine wpo_call rfl rfl rfl rfl rfl (by simp only [List.map_cons, List.map_nil, List.nil_append, List.append_nil, List.singleton_append, List.cons_append, aop, pairO, Bool.false_eq_true, Bool.true_eq_false, List.toList_toArray, aeval, upd, frame0, ofConst, ↓reduceIte, Nat.reduceEqDiff, List.getD_cons_zero, List.getD_cons_succ, Option.map_some, Option.map_none, alen, Sl.len, td22]; first | done | rfl) (F14_calls a x hx (by omega) _) ?_
    rintro _ τ ⟨rfl, hτ⟩
    obtain rfl := hτ.symm
    refine wpo_op rfl rfl rfl rfl (by simp only [aop, pairO, Bool.false_eq_true, Bool.true_eq_false, List.toList_toArray, aeval, upd, frame0, ofConst, ↓reduceIte, Nat.reduceEqDiff, List.getD_cons_zero, List.getD_cons_succ, Option.map_some, Option.map_none]; rfl) ?_
    refine wpo_call rfl rfl rfl rfl rfl (by simp only [List.map_cons, List.map_nil, List.nil_append, List.append_nil, List.singleton_append, List.cons_append, aop, pairO, Bool.false_eq_true, Bool.true_eq_false, List.toList_toArray, aeval, upd, frame0, ofConst, ↓reduceIte, Nat.reduceEqDiff, List.getD_cons_zero, List.getD_cons_succ, Option.map_some, Option.map_none, alen, Sl.len, td23, td22]; first | done | rfl) (F21_calls (sum a) b y hy (by omega) _) ?_
    rintro _ τ ⟨rfl, hτ⟩
    obtain rfl := hτ.symm
    refine wpo_op rfl rfl rfl rfl (by simp only [aop, pairO, Bool.false_eq_true, Bool.true_eq_false, List.toList_toArray, aeval, upd, frame0, ofConst, ↓reduceIte, Nat.reduceEqDiff, List.getD_cons_zero, List.getD_cons_succ, Option.map_some, Option.map_none]; rfl) ?_
    refine wpo_call rfl rfl rfl rfl rfl (by simp only [List.map_cons, List.map_nil, List.nil_append, List.append_nil, List.singleton_append, List.cons_append, aop, pairO, Bool.false_eq_true, Bool.true_eq_false, List.toList_toArray, aeval, upd, frame0, ofConst, ↓reduceIte, Nat.reduceEqDiff, List.getD_cons_zero, List.getD_cons_succ, Option.map_some, Option.map_none, alen, Sl.len, td22]; first | done | rfl) (F14_calls (a ++ b) a2 s2 (by simp; omega) _) ?_
    rintro _ τ ⟨rfl, hτ⟩
    obtain rfl := hτ.symm
    refine wpo_op rfl rfl rfl rfl (by simp only [aop, pairO, Bool.false_eq_true, Bool.true_eq_false, List.toList_toArray, aeval, upd, frame0, ofConst, ↓reduceIte, Nat.reduceEqDiff, List.getD_cons_zero, List.getD_cons_succ, Option.map_some, Option.map_none, abin', abin, aarith, beq_bv8, beq_bv32, beq_bv64, aeq, astr, isC, reduceCtorEq, cv_u8, cv_u16, cv_u32, cv_u64, cv_i64_u8, cv_i64_u16, cv_i64_u32, xor_u8, xor_u32, xor_u64, and_u8, and_u32, and_u64, or_u8, or_u64, xor_u32_lit, and_u32_lit, and_u64_lit, and_u8_lit, shr_u8, shr_u32, shr_u64, beq_bv, Int.reduceLE, Int.reduceLT, Int.reduceToNat, BitVec.reduceOfInt, td23, more_sum, decide_true]; rfl) ?_
    refine wpo_op rfl rfl rfl rfl (by simp only [aop, pairO, Bool.false_eq_true, Bool.true_eq_false, List.toList_toArray, aeval, upd, frame0, ofConst, ↓reduceIte, Nat.reduceEqDiff, List.getD_cons_zero, List.getD_cons_succ, Option.map_some, Option.map_none]; rfl) ?_
    first | refine wpo_gskip rfl rfl rfl ?_ | refine wpo_gop rfl rfl rfl rfl (by simp only [aop, pairO, Bool.false_eq_true, Bool.true_eq_false, List.toList_toArray, aeval, upd, frame0, ofConst, ↓reduceIte, Nat.reduceEqDiff, List.getD_cons_zero, List.getD_cons_succ, Option.map_some, Option.map_none]; rfl) ?_
    refine wpo_gcall rfl rfl rfl rfl rfl (by simp only [List.map_cons, List.map_nil, List.nil_append, List.append_nil, List.singleton_append, List.cons_append, aop, pairO, Bool.false_eq_true, Bool.true_eq_false, List.toList_toArray, aeval, upd, frame0, ofConst, ↓reduceIte, Nat.reduceEqDiff, List.getD_cons_zero, List.getD_cons_succ, Option.map_some, Option.map_none, alen, Sl.len, td23, td22]; first | done | rfl) (F21_calls 0#32 (a ++ b) a2 s2 (by simp; omega) _) ?_
    rintro _ τ ⟨rfl, hτ⟩
    obtain rfl := hτ.symm
    first | refine wpo_gskip rfl rfl rfl ?_ | refine wpo_gop rfl rfl rfl rfl (by simp only [aop, pairO, Bool.false_eq_true, Bool.true_eq_false, List.toList_toArray, aeval, upd, frame0, ofConst, ↓reduceIte, Nat.reduceEqDiff, List.getD_cons_zero, List.getD_cons_succ, Option.map_some, Option.map_none]; rfl) ?_
    refine wpo_gcall rfl rfl rfl rfl rfl (by simp only [List.map_cons, List.map_nil, List.nil_append, List.append_nil, List.singleton_append, List.cons_append, aop, pairO, Bool.false_eq_true, Bool.true_eq_false, List.toList_toArray, aeval, upd, frame0, ofConst, ↓reduceIte, Nat.reduceEqDiff, List.getD_cons_zero, List.getD_cons_succ, Option.map_some, Option.map_none, alen, Sl.len, td22]; first | done | rfl) (F15_calls (a ++ b) a2 s2 (by simp; omega) _) ?_
    rintro _ τ ⟨rfl, hτ⟩
    obtain rfl := hτ.symm
    first | refine wpo_gskip rfl rfl rfl ?_ | refine wpo_gop rfl rfl rfl rfl (by simp only [aop, pairO, Bool.false_eq_true, Bool.true_eq_false, List.toList_toArray, aeval, upd, frame0, ofConst, ↓reduceIte, Nat.reduceEqDiff, List.getD_cons_zero, List.getD_cons_succ, Option.map_some, Option.map_none, abin', abin, aarith, beq_bv8, beq_bv32, beq_bv64, aeq, astr, isC, reduceCtorEq, cv_u8, cv_u16, cv_u32, cv_u64, cv_i64_u8, cv_i64_u16, cv_i64_u32, xor_u8, xor_u32, xor_u64, and_u8, and_u32, and_u64, or_u8, or_u64, xor_u32_lit, and_u32_lit, and_u64_lit, and_u8_lit, shr_u8, shr_u32, shr_u64, beq_bv, Int.reduceLE, Int.reduceLT, Int.reduceToNat, BitVec.reduceOfInt, td23, rsum_eq, show more 0#32 (a ++ b) = sum (a ++ b) from rfl, decide_true]; rfl) ?_
    refine wpo_op rfl rfl rfl rfl (by simp only [aop, pairO, Bool.false_eq_true, Bool.true_eq_false, List.toList_toArray, aeval, upd, frame0, ofConst, ↓reduceIte, Nat.reduceEqDiff, List.getD_cons_zero, List.getD_cons_succ, Option.map_some, Option.map_none, apick]; rfl) ?_
    refine wpo_op rfl rfl rfl rfl (by simp only [aop, pairO, Bool.false_eq_true, Bool.true_eq_false, List.toList_toArray, aeval, upd, frame0, ofConst, ↓reduceIte, Nat.reduceEqDiff, List.getD_cons_zero, List.getD_cons_succ, Option.map_some, Option.map_none]; rfl) ?_
    refine wpo_gcall rfl rfl rfl rfl rfl (by simp only [List.map_cons, List.map_nil, List.nil_append, List.append_nil, List.singleton_append, List.cons_append, aop, pairO, Bool.false_eq_true, Bool.true_eq_false, List.toList_toArray, aeval, upd, frame0, ofConst, ↓reduceIte, Nat.reduceEqDiff, List.getD_cons_zero, List.getD_cons_succ, Option.map_some, Option.map_none, alen, Sl.len]; first | done | rfl) (F12_calls _) ?_
    rintro _ τ ⟨rfl, hτ⟩
    obtain rfl := hτ.symm
    refine wpo_op rfl rfl rfl rfl (by simp only [aop, pairO, Bool.false_eq_true, Bool.true_eq_false, List.toList_toArray, aeval, upd, frame0, ofConst, ↓reduceIte, Nat.reduceEqDiff, List.getD_cons_zero, List.getD_cons_succ, Option.map_some, Option.map_none, apick]; rfl) ?_
    refine wpo_op rfl rfl rfl rfl (by simp only [aop, pairO, Bool.false_eq_true, Bool.true_eq_false, List.toList_toArray, aeval, upd, frame0, ofConst, ↓reduceIte, Nat.reduceEqDiff, List.getD_cons_zero, List.getD_cons_succ, Option.map_some, Option.map_none]; rfl) ?_
    refine wpo_nil ?_
    refine wpc_ret ?_
    refine ⟨_, by rw [show Try.f4.results.toList = [.tmp 4] from rfl]; simp only [ares, aresL, aresOne, aload, acells, acut, isAggTD, List.getElem?_append_right, Nat.le_refl, Nat.sub_self, List.getElem?_cons_zero, AV.cells, List.length_cons, List.length_nil, Nat.reduceAdd, List.drop_zero, List.take_succ_cons, List.take_zero, aop, pairO, Bool.false_eq_true, Bool.true_eq_false, List.toList_toArray, aeval, upd, frame0, ofConst, ↓reduceIte, Nat.reduceEqDiff, List.getD_cons_zero, List.getD_cons_succ, Option.map_some, Option.map_none]; rfl, ?_⟩
    rfl
theorem parts (a b : List (BitVec 8)) (x y : AV) (hx : Sl 1 (bys a) x) (hy : Sl 1 (bys b) y) (σ : St) : ACall Try.prog 4 [x, y] σ (fun r _ => r = .bool true) := by
  cases hA : decide ((a.length : Int) > 1000) with
  | true => exact parts_a a b x y hx hy hA σ
  | false =>
    cases hB : decide ((b.length : Int) > 1000) with
    | true => exact parts_b a b x y hx hy hA hB σ
    | false => exact parts_c a b x y hx hy hA hB σ
theorem parts_w (a : List (BitVec 8)) (x : AV) (hx : Sl 1 (bys a) x) (_ : a.length ≤ 140737488351232) (b : List (BitVec 8)) (y : AV) (hy : Sl 1 (bys b) y) (_ : b.length ≤ 140737488351232) (σ : St) : ACall Try.prog 4 [x, y] σ (fun r _ => r = .bool true) := parts a b x y hx hy σ
end Go.Proofs.Ytnjijefhnmnjgaa.Ck
