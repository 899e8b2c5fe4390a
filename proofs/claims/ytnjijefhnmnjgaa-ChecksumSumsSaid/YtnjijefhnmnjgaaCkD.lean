/- checksum: the document's sealed bytes; whether two rows of bytes are the same. -/
import Derived.Test.YtnjijefhnmnjgaaCkC
namespace Go.Proofs.Ytnjijefhnmnjgaa.Ck
open Go Go.Va Go.Proofs.Ytnjijefhnmnjgaa.Va
set_option linter.unusedVariables false
set_option linter.unusedSimpArgs false
set_option maxRecDepth 20000
def rdiv (n : BitVec 32) : Nat → BitVec 32
  | 0 => n
  | k + 1 => rdiv n k / 256#32
def rfour (n : BitVec 32) : Nat → List (BitVec 8)
  | 0 => []
  | k + 1 => rfour n k ++ [(rdiv n k % 256#32).setWidth 8]
theorem rfour_len (n : BitVec 32) : ∀ k, (rfour n k).length = k
  | 0 => rfl
  | k + 1 => by simp [rfour, rfour_len n k]
def rseal (b : List (BitVec 8)) : List (BitVec 8) := b ++ rfour (rsum b) 4
def rfits (b : List (BitVec 8)) : Bool := decide (4 ≤ b.length) && decide (rseal (b.take (b.length - 4)) = b)

theorem F16_calls (x y : List (BitVec 8)) (a b : AV) (ha : Sl 1 (bys x) a) (hb : Sl 1 (bys y) b) (hx : x.length ≤ 1000000) (hy : y.length ≤ 1000000) (σ : St) : ACall Try.prog 16 [a, b] σ (fun r σ' => r = .bool (decide (x = y)) ∧ σ' = σ) := by
  refine acall_intro tyOk (fun _ => false) Try.func16 (by decide) rfl (Nat.le_of_ble_eq_true rfl) ?_
  refine wpc_seq ?_
  refine wpc_region rfl ?_
  refine wpo_op rfl rfl rfl rfl (by simp only [aop, pairO, Bool.false_eq_true, Bool.true_eq_false, List.toList_toArray, aeval, upd_same, upd_other, ne_eq, not_false_eq_true, frame0, ofConst, ↓reduceIte, Nat.reduceEqDiff, List.getD_cons_zero, List.getD_cons_succ, Option.map_some, Option.map_none]; rfl) ?_
  refine wpo_nil ?_
  refine wpc_seq ?_
  refine wpc_seq ?_
  refine wpc_region rfl ?_
  refine wpo_op rfl rfl rfl rfl (by simp only [aop, pairO, Bool.false_eq_true, Bool.true_eq_false, List.toList_toArray, aeval, upd_same, upd_other, ne_eq, not_false_eq_true, frame0, ofConst, ↓reduceIte, Nat.reduceEqDiff, List.getD_cons_zero, List.getD_cons_succ, Option.map_some, Option.map_none]; rfl) ?_
  refine wpo_op rfl rfl rfl rfl (by simp only [aop, pairO, Bool.false_eq_true, Bool.true_eq_false, List.toList_toArray, aeval, upd_same, upd_other, ne_eq, not_false_eq_true, frame0, ofConst, ↓reduceIte, Nat.reduceEqDiff, List.getD_cons_zero, List.getD_cons_succ, Option.map_some, Option.map_none, ha.len td22, bys_length]; rfl) ?_
  refine wpo_op rfl rfl rfl rfl (by simp only [aop, pairO, Bool.false_eq_true, Bool.true_eq_false, List.toList_toArray, aeval, upd_same, upd_other, ne_eq, not_false_eq_true, frame0, ofConst, ↓reduceIte, Nat.reduceEqDiff, List.getD_cons_zero, List.getD_cons_succ, Option.map_some, Option.map_none]; rfl) ?_
  refine wpo_op rfl rfl rfl rfl (by simp only [aop, pairO, Bool.false_eq_true, Bool.true_eq_false, List.toList_toArray, aeval, upd_same, upd_other, ne_eq, not_false_eq_true, frame0, ofConst, ↓reduceIte, Nat.reduceEqDiff, List.getD_cons_zero, List.getD_cons_succ, Option.map_some, Option.map_none, hb.len td22, bys_length]; rfl) ?_
  refine wpo_op rfl rfl rfl rfl (by simp only [aop, pairO, Bool.false_eq_true, Bool.true_eq_false, List.toList_toArray, aeval, upd_same, upd_other, ne_eq, not_false_eq_true, frame0, ofConst, ↓reduceIte, Nat.reduceEqDiff, List.getD_cons_zero, List.getD_cons_succ, Option.map_some, Option.map_none, abin', abin, aarith, beq_bv8, beq_bv32, beq_bv64, aeq, astr, isC, reduceCtorEq, cv_u8, cv_u16, cv_u32, cv_u64, cv_i64_u8, cv_i64_u16, cv_i64_u32, xor_u8, xor_u32, xor_u64, and_u8, and_u32, and_u64, or_u8, or_u64, xor_u32_lit, and_u32_lit, and_u64_lit, and_u8_lit, shr_u8, shr_u32, shr_u64, beq_bv, Int.reduceLE, Int.reduceLT, Int.reduceToNat, BitVec.reduceOfInt, td3]; rfl) ?_
  refine wpo_nil ?_
  refine wpc_cond (by simp only [aop, pairO, Bool.false_eq_true, Bool.true_eq_false, List.toList_toArray, aeval, upd_same, upd_other, ne_eq, not_false_eq_true, frame0, ofConst, ↓reduceIte, Nat.reduceEqDiff, List.getD_cons_zero, List.getD_cons_succ, Option.map_some, Option.map_none]; rfl) (fun hb0 => ?_) (fun hb0 => ?_)
  ·
    have hne : x.length ≠ y.length := by
      intro he
      rw [he] at hb0
      simp at hb0
    refine wpc_seq ?_
    refine wpc_region rfl ?_
    refine wpo_op rfl rfl rfl rfl (by simp only [aop, pairO, Bool.false_eq_true, Bool.true_eq_false, List.toList_toArray, aeval, upd_same, upd_other, ne_eq, not_false_eq_true, frame0, ofConst, ↓reduceIte, Nat.reduceEqDiff, List.getD_cons_zero, List.getD_cons_succ, Option.map_some, Option.map_none]; rfl) ?_
    refine wpo_nil ?_
    refine wpc_ret ?_
    refine ⟨_, by rw [show Try.f16.results.toList = [.tmp 4] from rfl]; simp only [ares, aresL, aresOne, aload, acells, acut, isAggTD, List.getElem?_append_right, Nat.le_refl, Nat.sub_self, List.getElem?_cons_zero, AV.cells, List.length_cons, List.length_nil, Nat.reduceAdd, List.drop_zero, List.take_succ_cons, List.take_zero, aop, pairO, Bool.false_eq_true, Bool.true_eq_false, List.toList_toArray, aeval, upd_same, upd_other, ne_eq, not_false_eq_true, frame0, ofConst, ↓reduceIte, Nat.reduceEqDiff, List.getD_cons_zero, List.getD_cons_succ, Option.map_some, Option.map_none]; rfl, ?_⟩
    refine ⟨?_, rfl⟩
    rw [decide_eq_false (fun he => hne (by rw [he]))]
  ·
    have hl : x.length = y.length := by
      have : ((x.length : Int) == (y.length : Int)) = true := by simpa [bne] using hb0
      have := eq_of_beq this
      omega
    refine wpc_skip ?_
    refine wpc_seq ?_
    refine wpc_seq ?_
    refine wpc_region rfl ?_
    refine wpo_op rfl rfl rfl rfl (by simp only [aop, pairO, Bool.false_eq_true, Bool.true_eq_false, List.toList_toArray, aeval, upd_same, upd_other, ne_eq, not_false_eq_true, frame0, ofConst, ↓reduceIte, Nat.reduceEqDiff, List.getD_cons_zero, List.getD_cons_succ, Option.map_some, Option.map_none]; rfl) ?_
    refine wpo_nil ?_
    refine wpc_block ?_
    refine wpc_for tyOk x.length (fun i fr σ' => i ≤ x.length ∧ fr 0 = a ∧ fr 1 = b ∧ fr 5 = .int .i64 i ∧ x.take i = y.take i ∧ σ' = σ) 0 ⟨by omega, rfl, rfl, rfl, by simp, rfl⟩ ?_
    rintro i fr τ ⟨hi, h0, h1, h5, heq, hτ⟩
    obtain rfl := hτ.symm
    refine wpc_seq ?_
    refine wpc_seq ?_
    refine wpc_region rfl ?_
    refine wpo_op rfl rfl rfl rfl (by simp only [aop, pairO, Bool.false_eq_true, Bool.true_eq_false, List.toList_toArray, aeval, upd_same, upd_other, ne_eq, not_false_eq_true, frame0, ofConst, ↓reduceIte, Nat.reduceEqDiff, List.getD_cons_zero, List.getD_cons_succ, Option.map_some, Option.map_none, h5]; rfl) ?_
    refine wpo_op rfl rfl rfl rfl (by simp only [aop, pairO, Bool.false_eq_true, Bool.true_eq_false, List.toList_toArray, aeval, upd_same, upd_other, ne_eq, not_false_eq_true, frame0, ofConst, ↓reduceIte, Nat.reduceEqDiff, List.getD_cons_zero, List.getD_cons_succ, Option.map_some, Option.map_none, h0]; rfl) ?_
    refine wpo_op rfl rfl rfl rfl (by simp only [aop, pairO, Bool.false_eq_true, Bool.true_eq_false, List.toList_toArray, aeval, upd_same, upd_other, ne_eq, not_false_eq_true, frame0, ofConst, ↓reduceIte, Nat.reduceEqDiff, List.getD_cons_zero, List.getD_cons_succ, Option.map_some, Option.map_none, ha.len td22, bys_length]; rfl) ?_
    refine wpo_op rfl rfl rfl rfl (by simp only [aop, pairO, Bool.false_eq_true, Bool.true_eq_false, List.toList_toArray, aeval, upd_same, upd_other, ne_eq, not_false_eq_true, frame0, ofConst, ↓reduceIte, Nat.reduceEqDiff, List.getD_cons_zero, List.getD_cons_succ, Option.map_some, Option.map_none, abin', abin, aarith, beq_bv8, beq_bv32, beq_bv64, aeq, astr, isC, reduceCtorEq, cv_u8, cv_u16, cv_u32, cv_u64, cv_i64_u8, cv_i64_u16, cv_i64_u32, xor_u8, xor_u32, xor_u64, and_u8, and_u32, and_u64, or_u8, or_u64, xor_u32_lit, and_u32_lit, and_u64_lit, and_u8_lit, shr_u8, shr_u32, shr_u64, beq_bv, Int.reduceLE, Int.reduceLT, Int.reduceToNat, BitVec.reduceOfInt, td3]; rfl) ?_
    refine wpo_nil ?_
    refine wpc_cond (by simp only [aop, pairO, Bool.false_eq_true, Bool.true_eq_false, List.toList_toArray, aeval, upd_same, upd_other, ne_eq, not_false_eq_true, frame0, ofConst, ↓reduceIte, Nat.reduceEqDiff, List.getD_cons_zero, List.getD_cons_succ, Option.map_some, Option.map_none]; rfl) (fun hb1 => ?_) (fun hb1 => ?_)
    ·
      have hlt : i < x.length := by have := of_decide_eq_true hb1; omega
      have hlt2 : i < y.length := by omega
      refine wpc_skip ?_
      refine wpc_seq ?_
      refine wpc_block ?_
      refine wpc_seq ?_
      refine wpc_draw0 tyOk mixed rfl (by decide +kernel) ?_
      refine wpd0_op rfl rfl rfl (by simp only [aop, pairO, Bool.false_eq_true, Bool.true_eq_false, List.toList_toArray, aeval, upd_same, upd_other, ne_eq, not_false_eq_true, frame0, ofConst, ↓reduceIte, Nat.reduceEqDiff, List.getD_cons_zero, List.getD_cons_succ, Option.map_some, Option.map_none, h0]; rfl) ?_
      refine wpd0_op rfl rfl rfl (by simp only [aop, pairO, Bool.false_eq_true, Bool.true_eq_false, List.toList_toArray, aeval, upd_same, upd_other, ne_eq, not_false_eq_true, frame0, ofConst, ↓reduceIte, Nat.reduceEqDiff, List.getD_cons_zero, List.getD_cons_succ, Option.map_some, Option.map_none, h5]; rfl) ?_
      refine wpd0_op rfl rfl rfl (by simp only [aop, pairO, Bool.false_eq_true, Bool.true_eq_false, List.toList_toArray, aeval, upd_same, upd_other, ne_eq, not_false_eq_true, frame0, ofConst, ↓reduceIte, Nat.reduceEqDiff, List.getD_cons_zero, List.getD_cons_succ, Option.map_some, Option.map_none, ha.at8 td22 sz5 (List.getElem?_eq_getElem hlt)]; rfl) ?_
      refine wpd0_op rfl rfl rfl (by simp only [aop, pairO, Bool.false_eq_true, Bool.true_eq_false, List.toList_toArray, aeval, upd_same, upd_other, ne_eq, not_false_eq_true, frame0, ofConst, ↓reduceIte, Nat.reduceEqDiff, List.getD_cons_zero, List.getD_cons_succ, Option.map_some, Option.map_none, aload, acells, acut, isAggTD, AV.cells, List.getElem?_cons_zero, List.getElem?_append_right, Nat.le_refl, Nat.sub_self, ty5]; rfl) ?_
      refine wpd0_op rfl rfl rfl (by simp only [aop, pairO, Bool.false_eq_true, Bool.true_eq_false, List.toList_toArray, aeval, upd_same, upd_other, ne_eq, not_false_eq_true, frame0, ofConst, ↓reduceIte, Nat.reduceEqDiff, List.getD_cons_zero, List.getD_cons_succ, Option.map_some, Option.map_none, h1]; rfl) ?_
      refine wpd0_op rfl rfl rfl (by simp only [aop, pairO, Bool.false_eq_true, Bool.true_eq_false, List.toList_toArray, aeval, upd_same, upd_other, ne_eq, not_false_eq_true, frame0, ofConst, ↓reduceIte, Nat.reduceEqDiff, List.getD_cons_zero, List.getD_cons_succ, Option.map_some, Option.map_none, h5]; rfl) ?_
      refine wpd0_op rfl rfl rfl (by simp only [aop, pairO, Bool.false_eq_true, Bool.true_eq_false, List.toList_toArray, aeval, upd_same, upd_other, ne_eq, not_false_eq_true, frame0, ofConst, ↓reduceIte, Nat.reduceEqDiff, List.getD_cons_zero, List.getD_cons_succ, Option.map_some, Option.map_none, hb.at8 td22 sz5 (List.getElem?_eq_getElem hlt2)]; rfl) ?_
      refine wpd0_op rfl rfl rfl (by simp only [aop, pairO, Bool.false_eq_true, Bool.true_eq_false, List.toList_toArray, aeval, upd_same, upd_other, ne_eq, not_false_eq_true, frame0, ofConst, ↓reduceIte, Nat.reduceEqDiff, List.getD_cons_zero, List.getD_cons_succ, Option.map_some, Option.map_none, aload, acells, acut, isAggTD, AV.cells, List.getElem?_cons_zero, List.getElem?_append_right, Nat.le_refl, Nat.sub_self, ty5]; rfl) ?_
      refine wpd0_op rfl rfl rfl (by simp only [aop, pairO, Bool.false_eq_true, Bool.true_eq_false, List.toList_toArray, aeval, upd_same, upd_other, ne_eq, not_false_eq_true, frame0, ofConst, ↓reduceIte, Nat.reduceEqDiff, List.getD_cons_zero, List.getD_cons_succ, Option.map_some, Option.map_none, abin', abin, aarith, beq_bv8, beq_bv32, beq_bv64, aeq, astr, isC, reduceCtorEq, cv_u8, cv_u16, cv_u32, cv_u64, cv_i64_u8, cv_i64_u16, cv_i64_u32, xor_u8, xor_u32, xor_u64, and_u8, and_u32, and_u64, or_u8, or_u64, xor_u32_lit, and_u32_lit, and_u64_lit, and_u8_lit, shr_u8, shr_u32, shr_u64, beq_bv, Int.reduceLE, Int.reduceLT, Int.reduceToNat, BitVec.reduceOfInt, td5, bne, beq_bv]; rfl) ?_
      refine wpd0_nil ?_
      refine wpc_cond (by simp only [aop, pairO, Bool.false_eq_true, Bool.true_eq_false, List.toList_toArray, aeval, upd_same, upd_other, ne_eq, not_false_eq_true, frame0, ofConst, ↓reduceIte, Nat.reduceEqDiff, List.getD_cons_zero, List.getD_cons_succ, Option.map_some, Option.map_none]; rfl) (fun hb2 => ?_) (fun hb2 => ?_)
      ·
        have hne : x[i] ≠ y[i] := by simpa using hb2
        refine wpc_seq ?_
        refine wpc_region rfl ?_
        refine wpo_op rfl rfl rfl rfl (by simp only [aop, pairO, Bool.false_eq_true, Bool.true_eq_false, List.toList_toArray, aeval, upd_same, upd_other, ne_eq, not_false_eq_true, frame0, ofConst, ↓reduceIte, Nat.reduceEqDiff, List.getD_cons_zero, List.getD_cons_succ, Option.map_some, Option.map_none]; rfl) ?_
        refine wpo_nil ?_
        refine wpc_ret ?_
        refine ⟨_, by rw [show Try.f16.results.toList = [.tmp 4] from rfl]; simp only [ares, aresL, aresOne, aload, acells, acut, isAggTD, List.getElem?_append_right, Nat.le_refl, Nat.sub_self, List.getElem?_cons_zero, AV.cells, List.length_cons, List.length_nil, Nat.reduceAdd, List.drop_zero, List.take_succ_cons, List.take_zero, aop, pairO, Bool.false_eq_true, Bool.true_eq_false, List.toList_toArray, aeval, upd_same, upd_other, ne_eq, not_false_eq_true, frame0, ofConst, ↓reduceIte, Nat.reduceEqDiff, List.getD_cons_zero, List.getD_cons_succ, Option.map_some, Option.map_none]; rfl, ?_⟩
        refine ⟨?_, rfl⟩
        rw [decide_eq_false (fun he => hne (by subst he; rfl))]
      ·
        have hee : x[i] = y[i] := by simpa using hb2
        refine wpc_skip ?_
        refine wpc_region rfl ?_
        refine wpo_op rfl rfl rfl rfl (by simp only [aop, pairO, Bool.false_eq_true, Bool.true_eq_false, List.toList_toArray, aeval, upd_same, upd_other, ne_eq, not_false_eq_true, frame0, ofConst, ↓reduceIte, Nat.reduceEqDiff, List.getD_cons_zero, List.getD_cons_succ, Option.map_some, Option.map_none, h5]; rfl) ?_
        refine wpo_op rfl rfl rfl rfl (by simp only [aop, pairO, Bool.false_eq_true, Bool.true_eq_false, List.toList_toArray, aeval, upd_same, upd_other, ne_eq, not_false_eq_true, frame0, ofConst, ↓reduceIte, Nat.reduceEqDiff, List.getD_cons_zero, List.getD_cons_succ, Option.map_some, Option.map_none, abin', abin, aarith, beq_bv8, beq_bv32, beq_bv64, aeq, astr, isC, reduceCtorEq, cv_u8, cv_u16, cv_u32, cv_u64, cv_i64_u8, cv_i64_u16, cv_i64_u32, xor_u8, xor_u32, xor_u64, and_u8, and_u32, and_u64, or_u8, or_u64, xor_u32_lit, and_u32_lit, and_u64_lit, and_u8_lit, shr_u8, shr_u32, shr_u64, beq_bv, Int.reduceLE, Int.reduceLT, Int.reduceToNat, BitVec.reduceOfInt, td3]; rfl) ?_
        refine wpo_op rfl rfl rfl rfl (by simp only [aop, pairO, Bool.false_eq_true, Bool.true_eq_false, List.toList_toArray, aeval, upd_same, upd_other, ne_eq, not_false_eq_true, frame0, ofConst, ↓reduceIte, Nat.reduceEqDiff, List.getD_cons_zero, List.getD_cons_succ, Option.map_some, Option.map_none]; rfl) ?_
        refine wpo_nil ?_
        refine ⟨hlt, hlt, by simp only [upd, ↓reduceIte, Nat.reduceEqDiff, h0], by simp only [upd, ↓reduceIte, Nat.reduceEqDiff, h1], by simp only [upd, ↓reduceIte, Nat.reduceEqDiff, h5]; rw [wrap_i64_id (by omega) (by omega)]; rfl, ?_, rfl⟩
        rw [List.take_succ_eq_append_getElem hlt, List.take_succ_eq_append_getElem hlt2, heq, hee]
    ·
      have hge : ¬ (i:Int) < x.length := of_decide_eq_false hb1
      obtain rfl : i = x.length := by omega
      refine wpc_exit ?_
      refine at_ rfl ?_
      refine wpc_seq ?_
      refine wpc_region rfl ?_
      refine wpo_op rfl rfl rfl rfl (by simp only [aop, pairO, Bool.false_eq_true, Bool.true_eq_false, List.toList_toArray, aeval, upd_same, upd_other, ne_eq, not_false_eq_true, frame0, ofConst, ↓reduceIte, Nat.reduceEqDiff, List.getD_cons_zero, List.getD_cons_succ, Option.map_some, Option.map_none]; rfl) ?_
      refine wpo_nil ?_
      refine wpc_ret ?_
      refine ⟨_, by rw [show Try.f16.results.toList = [.tmp 4] from rfl]; simp only [ares, aresL, aresOne, aload, acells, acut, isAggTD, List.getElem?_append_right, Nat.le_refl, Nat.sub_self, List.getElem?_cons_zero, AV.cells, List.length_cons, List.length_nil, Nat.reduceAdd, List.drop_zero, List.take_succ_cons, List.take_zero, aop, pairO, Bool.false_eq_true, Bool.true_eq_false, List.toList_toArray, aeval, upd_same, upd_other, ne_eq, not_false_eq_true, frame0, ofConst, ↓reduceIte, Nat.reduceEqDiff, List.getD_cons_zero, List.getD_cons_succ, Option.map_some, Option.map_none]; rfl, ?_⟩
      refine ⟨?_, rfl⟩
      rw [List.take_length, hl, List.take_length] at heq
      rw [decide_eq_true heq]
theorem F18_calls (b : List (BitVec 8)) (a : AV) (ha : Sl 1 (bys b) a) (hb : b.length ≤ 1000000) (σ : St) : ACall Try.prog 18 [a] σ (fun r σ' => Sl 1 (bys (rseal b)) r ∧ σ.Le σ') := by
  refine acall_intro tyOk (fun _ => false) Try.func18 (by decide) rfl (Nat.le_of_ble_eq_true rfl) ?_
  refine wpc_seq ?_
  refine wpc_region rfl ?_
  refine wpo_op rfl rfl rfl rfl (by simp only [aop, pairO, Bool.false_eq_true, Bool.true_eq_false, List.toList_toArray, aeval, upd_same, upd_other, ne_eq, not_false_eq_true, frame0, ofConst, ↓reduceIte, Nat.reduceEqDiff, List.getD_cons_zero, List.getD_cons_succ, Option.map_some, Option.map_none]; rfl) ?_
  refine wpo_nil ?_
  refine wpc_seq ?_
  refine wpc_region rfl ?_
  refine wpo_op rfl rfl rfl rfl (by simp only [aop, pairO, Bool.false_eq_true, Bool.true_eq_false, List.toList_toArray, aeval, upd_same, upd_other, ne_eq, not_false_eq_true, frame0, ofConst, ↓reduceIte, Nat.reduceEqDiff, List.getD_cons_zero, List.getD_cons_succ, Option.map_some, Option.map_none]; rfl) ?_
  refine wpo_nil ?_
  refine wpc_seq ?_
  refine wpc_region rfl ?_
  refine wpo_op rfl rfl rfl rfl (by simp only [aop, pairO, Bool.false_eq_true, Bool.true_eq_false, List.toList_toArray, aeval, upd_same, upd_other, ne_eq, not_false_eq_true, frame0, ofConst, ↓reduceIte, Nat.reduceEqDiff, List.getD_cons_zero, List.getD_cons_succ, Option.map_some, Option.map_none]; rfl) ?_
  refine wpo_op rfl rfl rfl rfl (by simp only [aop, pairO, Bool.false_eq_true, Bool.true_eq_false, List.toList_toArray, aeval, upd_same, upd_other, ne_eq, not_false_eq_true, frame0, ofConst, ↓reduceIte, Nat.reduceEqDiff, List.getD_cons_zero, List.getD_cons_succ, Option.map_some, Option.map_none]; rfl) ?_
  obtain ⟨a1, σ1, e1, p1, l1, o1, n1⟩ := Ap.append (Ty := ty) (T := 22) (U := 22) (sz := 1) (σ0 := σ) (σ := σ) (a := .nils) (es := []) (.inl ⟨rfl, rfl⟩) (St.Le.refl σ) (Nat.le_refl _) td22 ty5 rfl (by decide) (ha.src td22) (by simp only [List.length_nil, bys_length]; omega)
  refine wpo_op rfl rfl rfl rfl (by simp only [aop, pairO, Bool.false_eq_true, Bool.true_eq_false, List.toList_toArray, aeval, upd_same, upd_other, ne_eq, not_false_eq_true, frame0, ofConst, ↓reduceIte, Nat.reduceEqDiff, List.getD_cons_zero, List.getD_cons_succ, Option.map_some, Option.map_none, e1]; rfl) ?_
  refine wpo_op rfl rfl rfl rfl (by simp only [aop, pairO, Bool.false_eq_true, Bool.true_eq_false, List.toList_toArray, aeval, upd_same, upd_other, ne_eq, not_false_eq_true, frame0, ofConst, ↓reduceIte, Nat.reduceEqDiff, List.getD_cons_zero, List.getD_cons_succ, Option.map_some, Option.map_none]; rfl) ?_
  refine wpo_nil ?_
  refine wpc_seq ?_
  refine wpc_region rfl ?_
  refine wpo_op rfl rfl rfl rfl (by simp only [aop, pairO, Bool.false_eq_true, Bool.true_eq_false, List.toList_toArray, aeval, upd_same, upd_other, ne_eq, not_false_eq_true, frame0, ofConst, ↓reduceIte, Nat.reduceEqDiff, List.getD_cons_zero, List.getD_cons_succ, Option.map_some, Option.map_none]; rfl) ?_
  refine wpo_call rfl rfl rfl rfl rfl (by simp only [List.map_cons, List.map_nil, List.nil_append, List.append_nil, List.singleton_append, List.cons_append, aop, pairO, Bool.false_eq_true, Bool.true_eq_false, List.toList_toArray, aeval, upd_same, upd_other, ne_eq, not_false_eq_true, frame0, ofConst, ↓reduceIte, Nat.reduceEqDiff, List.getD_cons_zero, List.getD_cons_succ, Option.map_some, Option.map_none, alen, Sl.len, td22]; first | done | rfl) (F15_calls b a ha hb _) ?_
  rintro _ τ ⟨rfl, hτ⟩
  obtain rfl := hτ.symm
  refine wpo_op rfl rfl rfl rfl (by simp only [aop, pairO, Bool.false_eq_true, Bool.true_eq_false, List.toList_toArray, aeval, upd_same, upd_other, ne_eq, not_false_eq_true, frame0, ofConst, ↓reduceIte, Nat.reduceEqDiff, List.getD_cons_zero, List.getD_cons_succ, Option.map_some, Option.map_none]; rfl) ?_
  refine wpo_nil ?_
  refine wpc_seq ?_
  refine wpc_seq ?_
  refine wpc_region rfl ?_
  refine wpo_op rfl rfl rfl rfl (by simp only [aop, pairO, Bool.false_eq_true, Bool.true_eq_false, List.toList_toArray, aeval, upd_same, upd_other, ne_eq, not_false_eq_true, frame0, ofConst, ↓reduceIte, Nat.reduceEqDiff, List.getD_cons_zero, List.getD_cons_succ, Option.map_some, Option.map_none]; rfl) ?_
  refine wpo_nil ?_
  refine wpc_block ?_
  refine wpc_for tyOk 4 (fun i fr σ' => i ≤ 4 ∧ (∃ a', fr 3 = a' ∧ Ap 1 σ σ' (bys (b ++ rfour (rsum b) i)) a') ∧ fr 4 = .int .u32 (rdiv (rsum b) i).toNat ∧ fr 5 = .int .i64 i ∧ σ.Le σ' ∧ σ.opn.length ≤ σ'.opn.length) 0 ⟨by omega, ⟨a1, rfl, by simpa [rfour] using p1⟩, rfl, rfl, l1, n1⟩ ?_
  rintro i fr σ2 ⟨hi, ⟨a2, h3, p2⟩, h4, h5, l2, n2⟩
  refine wpc_seq ?_
  refine wpc_seq ?_
  refine wpc_region rfl ?_
  refine wpo_op rfl rfl rfl rfl (by simp only [aop, pairO, Bool.false_eq_true, Bool.true_eq_false, List.toList_toArray, aeval, upd_same, upd_other, ne_eq, not_false_eq_true, frame0, ofConst, ↓reduceIte, Nat.reduceEqDiff, List.getD_cons_zero, List.getD_cons_succ, Option.map_some, Option.map_none, h5]; rfl) ?_
  refine wpo_op rfl rfl rfl rfl (by simp only [aop, pairO, Bool.false_eq_true, Bool.true_eq_false, List.toList_toArray, aeval, upd_same, upd_other, ne_eq, not_false_eq_true, frame0, ofConst, ↓reduceIte, Nat.reduceEqDiff, List.getD_cons_zero, List.getD_cons_succ, Option.map_some, Option.map_none, abin', abin, aarith, beq_bv8, beq_bv32, beq_bv64, aeq, astr, isC, reduceCtorEq, cv_u8, cv_u16, cv_u32, cv_u64, cv_i64_u8, cv_i64_u16, cv_i64_u32, xor_u8, xor_u32, xor_u64, and_u8, and_u32, and_u64, or_u8, or_u64, xor_u32_lit, and_u32_lit, and_u64_lit, and_u8_lit, shr_u8, shr_u32, shr_u64, beq_bv, Int.reduceLE, Int.reduceLT, Int.reduceToNat, BitVec.reduceOfInt, td3]; rfl) ?_
  refine wpo_nil ?_
  refine wpc_cond (by simp only [aop, pairO, Bool.false_eq_true, Bool.true_eq_false, List.toList_toArray, aeval, upd_same, upd_other, ne_eq, not_false_eq_true, frame0, ofConst, ↓reduceIte, Nat.reduceEqDiff, List.getD_cons_zero, List.getD_cons_succ, Option.map_some, Option.map_none]; rfl) (fun hb0 => ?_) (fun hb0 => ?_)
  ·
    have hlt : i < 4 := by have := of_decide_eq_true hb0; omega
    refine wpc_skip ?_
    refine wpc_seq ?_
    refine wpc_block ?_
    refine wpc_seq ?_
    refine wpc_region rfl ?_
    refine wpo_op rfl rfl rfl rfl (by simp only [aop, pairO, Bool.false_eq_true, Bool.true_eq_false, List.toList_toArray, aeval, upd_same, upd_other, ne_eq, not_false_eq_true, frame0, ofConst, ↓reduceIte, Nat.reduceEqDiff, List.getD_cons_zero, List.getD_cons_succ, Option.map_some, Option.map_none, h3]; rfl) ?_
    refine wpo_op rfl rfl rfl rfl (by simp only [aop, pairO, Bool.false_eq_true, Bool.true_eq_false, List.toList_toArray, aeval, upd_same, upd_other, ne_eq, not_false_eq_true, frame0, ofConst, ↓reduceIte, Nat.reduceEqDiff, List.getD_cons_zero, List.getD_cons_succ, Option.map_some, Option.map_none, h4]; rfl) ?_
    refine wpo_op rfl rfl rfl rfl (by simp only [aop, pairO, Bool.false_eq_true, Bool.true_eq_false, List.toList_toArray, aeval, upd_same, upd_other, ne_eq, not_false_eq_true, frame0, ofConst, ↓reduceIte, Nat.reduceEqDiff, List.getD_cons_zero, List.getD_cons_succ, Option.map_some, Option.map_none, abin', abin, aarith, beq_bv8, beq_bv32, beq_bv64, aeq, astr, isC, reduceCtorEq, cv_u8, cv_u16, cv_u32, cv_u64, cv_i64_u8, cv_i64_u16, cv_i64_u32, xor_u8, xor_u32, xor_u64, and_u8, and_u32, and_u64, or_u8, or_u64, xor_u32_lit, and_u32_lit, and_u64_lit, and_u8_lit, shr_u8, shr_u32, shr_u64, beq_bv, Int.reduceLE, Int.reduceLT, Int.reduceToNat, BitVec.reduceOfInt, td23, rem32, quo32, Int.reduceLT, BitVec.reduceOfInt, Int.reduceEq, if_false]; rfl) ?_
    refine wpo_op rfl rfl rfl rfl (by simp only [aop, pairO, Bool.false_eq_true, Bool.true_eq_false, List.toList_toArray, aeval, upd_same, upd_other, ne_eq, not_false_eq_true, frame0, ofConst, ↓reduceIte, Nat.reduceEqDiff, List.getD_cons_zero, List.getD_cons_succ, Option.map_some, Option.map_none, aconv, cv_u8, cv_u16, cv_u32, cv_u64, cv_i64_u8, cv_i64_u16, cv_i64_u32, td23, td5]; rfl) ?_
    refine wpo_op rfl rfl rfl rfl (by simp only [aop, pairO, Bool.false_eq_true, Bool.true_eq_false, List.toList_toArray, aeval, upd_same, upd_other, ne_eq, not_false_eq_true, frame0, ofConst, ↓reduceIte, Nat.reduceEqDiff, List.getD_cons_zero, List.getD_cons_succ, Option.map_some, Option.map_none, abuildSlice, alay, List.replicate_succ, List.replicate_zero, List.set_cons_zero, List.set_cons_succ, AV.cells, flatAV, List.all_cons, List.all_nil, Bool.and_true, Bool.and_self, List.length_cons, List.length_nil, List.length_set, Nat.reduceAdd, Nat.reduceMul, Nat.reduceLT, Nat.reduceLeDiff, Nat.lt_add_one, Nat.zero_lt_succ, Nat.zero_mul, Nat.zero_le, Nat.one_pos, and_self, List.map_cons, List.map_nil, td22, ty5]; rfl) ?_
    obtain ⟨a3, σ3, e2, p3, l3, o3, n3⟩ := Ap.append (Ty := ty) (T := 22) (U := 22) p2 l2 n2 td22 ty5 rfl (by decide) (y := .sl .full 1 [.int .u8 (((rdiv (rsum b) i % 256#32).setWidth 8).toNat : Int)]) (ys := [.int .u8 (((rdiv (rsum b) i % 256#32).setWidth 8).toNat : Int)]) ((Sl.sl _ _ _).src td22) (by simp only [bys_length, List.length_append, rfour_len, List.length_cons, List.length_nil]; omega)
    refine wpo_op rfl rfl rfl rfl (by simp only [aop, pairO, Bool.false_eq_true, Bool.true_eq_false, List.toList_toArray, aeval, upd_same, upd_other, ne_eq, not_false_eq_true, frame0, ofConst, ↓reduceIte, Nat.reduceEqDiff, List.getD_cons_zero, List.getD_cons_succ, Option.map_some, Option.map_none, e2]; rfl) ?_
    refine wpo_op rfl rfl rfl rfl (by simp only [aop, pairO, Bool.false_eq_true, Bool.true_eq_false, List.toList_toArray, aeval, upd_same, upd_other, ne_eq, not_false_eq_true, frame0, ofConst, ↓reduceIte, Nat.reduceEqDiff, List.getD_cons_zero, List.getD_cons_succ, Option.map_some, Option.map_none]; rfl) ?_
    refine wpo_nil ?_
    refine wpc_region rfl ?_
    refine wpo_op rfl rfl rfl rfl (by simp only [aop, pairO, Bool.false_eq_true, Bool.true_eq_false, List.toList_toArray, aeval, upd_same, upd_other, ne_eq, not_false_eq_true, frame0, ofConst, ↓reduceIte, Nat.reduceEqDiff, List.getD_cons_zero, List.getD_cons_succ, Option.map_some, Option.map_none, h4]; rfl) ?_
    refine wpo_op rfl rfl rfl rfl (by simp only [aop, pairO, Bool.false_eq_true, Bool.true_eq_false, List.toList_toArray, aeval, upd_same, upd_other, ne_eq, not_false_eq_true, frame0, ofConst, ↓reduceIte, Nat.reduceEqDiff, List.getD_cons_zero, List.getD_cons_succ, Option.map_some, Option.map_none, abin', abin, aarith, beq_bv8, beq_bv32, beq_bv64, aeq, astr, isC, reduceCtorEq, cv_u8, cv_u16, cv_u32, cv_u64, cv_i64_u8, cv_i64_u16, cv_i64_u32, xor_u8, xor_u32, xor_u64, and_u8, and_u32, and_u64, or_u8, or_u64, xor_u32_lit, and_u32_lit, and_u64_lit, and_u8_lit, shr_u8, shr_u32, shr_u64, beq_bv, Int.reduceLE, Int.reduceLT, Int.reduceToNat, BitVec.reduceOfInt, td23, rem32, quo32, Int.reduceLT, BitVec.reduceOfInt, Int.reduceEq, if_false]; rfl) ?_
    refine wpo_op rfl rfl rfl rfl (by simp only [aop, pairO, Bool.false_eq_true, Bool.true_eq_false, List.toList_toArray, aeval, upd_same, upd_other, ne_eq, not_false_eq_true, frame0, ofConst, ↓reduceIte, Nat.reduceEqDiff, List.getD_cons_zero, List.getD_cons_succ, Option.map_some, Option.map_none]; rfl) ?_
    refine wpo_nil ?_
    refine wpc_region rfl ?_
    refine wpo_op rfl rfl rfl rfl (by simp only [aop, pairO, Bool.false_eq_true, Bool.true_eq_false, List.toList_toArray, aeval, upd_same, upd_other, ne_eq, not_false_eq_true, frame0, ofConst, ↓reduceIte, Nat.reduceEqDiff, List.getD_cons_zero, List.getD_cons_succ, Option.map_some, Option.map_none, h5]; rfl) ?_
    refine wpo_op rfl rfl rfl rfl (by simp only [aop, pairO, Bool.false_eq_true, Bool.true_eq_false, List.toList_toArray, aeval, upd_same, upd_other, ne_eq, not_false_eq_true, frame0, ofConst, ↓reduceIte, Nat.reduceEqDiff, List.getD_cons_zero, List.getD_cons_succ, Option.map_some, Option.map_none, abin', abin, aarith, beq_bv8, beq_bv32, beq_bv64, aeq, astr, isC, reduceCtorEq, cv_u8, cv_u16, cv_u32, cv_u64, cv_i64_u8, cv_i64_u16, cv_i64_u32, xor_u8, xor_u32, xor_u64, and_u8, and_u32, and_u64, or_u8, or_u64, xor_u32_lit, and_u32_lit, and_u64_lit, and_u8_lit, shr_u8, shr_u32, shr_u64, beq_bv, Int.reduceLE, Int.reduceLT, Int.reduceToNat, BitVec.reduceOfInt, td3]; rfl) ?_
    refine wpo_op rfl rfl rfl rfl (by simp only [aop, pairO, Bool.false_eq_true, Bool.true_eq_false, List.toList_toArray, aeval, upd_same, upd_other, ne_eq, not_false_eq_true, frame0, ofConst, ↓reduceIte, Nat.reduceEqDiff, List.getD_cons_zero, List.getD_cons_succ, Option.map_some, Option.map_none]; rfl) ?_
    refine wpo_nil ?_
    refine ⟨hlt, hlt, ⟨a3, by simp only [upd, ↓reduceIte, Nat.reduceEqDiff], by rw [rfour, ← List.append_assoc, bys_append]; exact p3⟩, by simp only [upd, ↓reduceIte, Nat.reduceEqDiff]; rfl, by simp only [upd, ↓reduceIte, Nat.reduceEqDiff, h5]; rw [wrap_i64_id (by omega) (by omega)]; rfl, l3, Nat.le_trans n2 n3⟩
  ·
    have hge : ¬ (i:Int) < 4 := of_decide_eq_false hb0
    obtain rfl : i = 4 := by omega
    refine wpc_exit ?_
    refine at_ rfl ?_
    refine wpc_seq ?_
    refine wpc_region rfl ?_
    refine wpo_op rfl rfl rfl rfl (by simp only [aop, pairO, Bool.false_eq_true, Bool.true_eq_false, List.toList_toArray, aeval, upd_same, upd_other, ne_eq, not_false_eq_true, frame0, ofConst, ↓reduceIte, Nat.reduceEqDiff, List.getD_cons_zero, List.getD_cons_succ, Option.map_some, Option.map_none, h3]; rfl) ?_
    refine wpo_op rfl rfl rfl rfl (by simp only [aop, pairO, Bool.false_eq_true, Bool.true_eq_false, List.toList_toArray, aeval, upd_same, upd_other, ne_eq, not_false_eq_true, frame0, ofConst, ↓reduceIte, Nat.reduceEqDiff, List.getD_cons_zero, List.getD_cons_succ, Option.map_some, Option.map_none]; rfl) ?_
    refine wpo_nil ?_
    refine wpc_ret ?_
    refine ⟨_, by rw [show Try.f18.results.toList = [.tmp 2] from rfl]; simp only [ares, aresL, aresOne, aload, acells, acut, isAggTD, List.getElem?_append_right, Nat.le_refl, Nat.sub_self, List.getElem?_cons_zero, AV.cells, List.length_cons, List.length_nil, Nat.reduceAdd, List.drop_zero, List.take_succ_cons, List.take_zero, aop, pairO, Bool.false_eq_true, Bool.true_eq_false, List.toList_toArray, aeval, upd_same, upd_other, ne_eq, not_false_eq_true, frame0, ofConst, ↓reduceIte, Nat.reduceEqDiff, List.getD_cons_zero, List.getD_cons_succ, Option.map_some, Option.map_none]; rfl, ?_⟩
    exact ⟨p2.sl, l2⟩
theorem F18_calls0 (b : List (BitVec 8)) (a : AV) (ha : Sl 1 (bys b) a) (hb : b.length ≤ 1000000) (σ : St) : ACall Try.prog 18 [a] σ (fun r σ' => Sl 1 (bys (rseal b)) r ∧ σ' = σ) :=
  ((F18_calls b a ha hb σ).forget fun _ _ h => h.2).mono fun a σ' ⟨h1, a0, σ1, ⟨h2, _⟩, h3⟩ => ⟨by rw [h3]; exact h2.detok (bys_detok _), h1⟩
theorem F20_calls (b : List (BitVec 8)) (a : AV) (ha : Sl 1 (bys b) a) (hb : b.length ≤ 1000000) (σ : St) : ACall Try.prog 20 [a] σ (fun r σ' => r = .bool (rfits b) ∧ σ' = σ) := by
  refine acall_intro tyOk (fun _ => false) Try.func20 (by decide) rfl (Nat.le_of_ble_eq_true rfl) ?_
  refine wpc_seq ?_
  refine wpc_region rfl ?_
  refine wpo_op rfl rfl rfl rfl (by simp only [aop, pairO, Bool.false_eq_true, Bool.true_eq_false, List.toList_toArray, aeval, upd_same, upd_other, ne_eq, not_false_eq_true, frame0, ofConst, ↓reduceIte, Nat.reduceEqDiff, List.getD_cons_zero, List.getD_cons_succ, Option.map_some, Option.map_none]; rfl) ?_
  refine wpo_nil ?_
  refine wpc_seq ?_
  refine wpc_region rfl ?_
  refine wpo_op rfl rfl rfl rfl (by simp only [aop, pairO, Bool.false_eq_true, Bool.true_eq_false, List.toList_toArray, aeval, upd_same, upd_other, ne_eq, not_false_eq_true, frame0, ofConst, ↓reduceIte, Nat.reduceEqDiff, List.getD_cons_zero, List.getD_cons_succ, Option.map_some, Option.map_none]; rfl) ?_
  refine wpo_op rfl rfl rfl rfl (by simp only [aop, pairO, Bool.false_eq_true, Bool.true_eq_false, List.toList_toArray, aeval, upd_same, upd_other, ne_eq, not_false_eq_true, frame0, ofConst, ↓reduceIte, Nat.reduceEqDiff, List.getD_cons_zero, List.getD_cons_succ, Option.map_some, Option.map_none, ha.len td22, bys_length]; rfl) ?_
  refine wpo_op rfl rfl rfl rfl (by simp only [aop, pairO, Bool.false_eq_true, Bool.true_eq_false, List.toList_toArray, aeval, upd_same, upd_other, ne_eq, not_false_eq_true, frame0, ofConst, ↓reduceIte, Nat.reduceEqDiff, List.getD_cons_zero, List.getD_cons_succ, Option.map_some, Option.map_none, abin', abin, aarith, beq_bv8, beq_bv32, beq_bv64, aeq, astr, isC, reduceCtorEq, cv_u8, cv_u16, cv_u32, cv_u64, cv_i64_u8, cv_i64_u16, cv_i64_u32, xor_u8, xor_u32, xor_u64, and_u8, and_u32, and_u64, or_u8, or_u64, xor_u32_lit, and_u32_lit, and_u64_lit, and_u8_lit, shr_u8, shr_u32, shr_u64, beq_bv, Int.reduceLE, Int.reduceLT, Int.reduceToNat, BitVec.reduceOfInt, td3, wrap_i64_id (show -9223372036854775808 ≤ (b.length:Int) - 4 by omega) (by omega)]; rfl) ?_
  refine wpo_op rfl rfl rfl rfl (by simp only [aop, pairO, Bool.false_eq_true, Bool.true_eq_false, List.toList_toArray, aeval, upd_same, upd_other, ne_eq, not_false_eq_true, frame0, ofConst, ↓reduceIte, Nat.reduceEqDiff, List.getD_cons_zero, List.getD_cons_succ, Option.map_some, Option.map_none]; rfl) ?_
  refine wpo_nil ?_
  refine wpc_seq ?_
  refine wpc_seq ?_
  refine wpc_region rfl ?_
  refine wpo_op rfl rfl rfl rfl (by simp only [aop, pairO, Bool.false_eq_true, Bool.true_eq_false, List.toList_toArray, aeval, upd_same, upd_other, ne_eq, not_false_eq_true, frame0, ofConst, ↓reduceIte, Nat.reduceEqDiff, List.getD_cons_zero, List.getD_cons_succ, Option.map_some, Option.map_none]; rfl) ?_
  refine wpo_op rfl rfl rfl rfl (by simp only [aop, pairO, Bool.false_eq_true, Bool.true_eq_false, List.toList_toArray, aeval, upd_same, upd_other, ne_eq, not_false_eq_true, frame0, ofConst, ↓reduceIte, Nat.reduceEqDiff, List.getD_cons_zero, List.getD_cons_succ, Option.map_some, Option.map_none, abin', abin, aarith, beq_bv8, beq_bv32, beq_bv64, aeq, astr, isC, reduceCtorEq, cv_u8, cv_u16, cv_u32, cv_u64, cv_i64_u8, cv_i64_u16, cv_i64_u32, xor_u8, xor_u32, xor_u64, and_u8, and_u32, and_u64, or_u8, or_u64, xor_u32_lit, and_u32_lit, and_u64_lit, and_u8_lit, shr_u8, shr_u32, shr_u64, beq_bv, Int.reduceLE, Int.reduceLT, Int.reduceToNat, BitVec.reduceOfInt, td3]; rfl) ?_
  refine wpo_nil ?_
  refine wpc_cond (by simp only [aop, pairO, Bool.false_eq_true, Bool.true_eq_false, List.toList_toArray, aeval, upd_same, upd_other, ne_eq, not_false_eq_true, frame0, ofConst, ↓reduceIte, Nat.reduceEqDiff, List.getD_cons_zero, List.getD_cons_succ, Option.map_some, Option.map_none]; rfl) (fun hb0 => ?_) (fun hb0 => ?_)
  ·
    have hlt : b.length < 4 := by have := of_decide_eq_true hb0; omega
    refine wpc_seq ?_
    refine wpc_region rfl ?_
    refine wpo_op rfl rfl rfl rfl (by simp only [aop, pairO, Bool.false_eq_true, Bool.true_eq_false, List.toList_toArray, aeval, upd_same, upd_other, ne_eq, not_false_eq_true, frame0, ofConst, ↓reduceIte, Nat.reduceEqDiff, List.getD_cons_zero, List.getD_cons_succ, Option.map_some, Option.map_none]; rfl) ?_
    refine wpo_nil ?_
    refine wpc_ret ?_
    refine ⟨_, by rw [show Try.f20.results.toList = [.tmp 2] from rfl]; simp only [ares, aresL, aresOne, aload, acells, acut, isAggTD, List.getElem?_append_right, Nat.le_refl, Nat.sub_self, List.getElem?_cons_zero, AV.cells, List.length_cons, List.length_nil, Nat.reduceAdd, List.drop_zero, List.take_succ_cons, List.take_zero, aop, pairO, Bool.false_eq_true, Bool.true_eq_false, List.toList_toArray, aeval, upd_same, upd_other, ne_eq, not_false_eq_true, frame0, ofConst, ↓reduceIte, Nat.reduceEqDiff, List.getD_cons_zero, List.getD_cons_succ, Option.map_some, Option.map_none]; rfl, ?_⟩
    refine ⟨?_, rfl⟩
    simp only [rfits, AV.bool.injEq]
    rw [decide_eq_false (by omega)]
    rfl
  ·
    have hge : 4 ≤ b.length := by have := of_decide_eq_false hb0; omega
    have hl4 : (rseal (b.take (b.length - 4))).length = b.length := by simp [rseal, rfour_len]; omega
    obtain ⟨a1, e1, s1⟩ := ha.cut (σ := σ) (Ty := ty) (T := 22) (lo := none) (hi := some (.int .i64 ((b.length:Int) - 4))) (l := 0) (m := b.length - 4) td22 sz5 (by decide) rfl (by simp only [abnd]; rw [if_pos (by omega)]; congr 1; omega) (by omega) (by simp)
    rw [List.drop_zero, bys_take] at s1
    refine wpc_skip ?_
    refine wpc_seq ?_
    refine wpc_region rfl ?_
    refine wpo_op rfl rfl rfl rfl (by simp only [aop, pairO, Bool.false_eq_true, Bool.true_eq_false, List.toList_toArray, aeval, upd_same, upd_other, ne_eq, not_false_eq_true, frame0, ofConst, ↓reduceIte, Nat.reduceEqDiff, List.getD_cons_zero, List.getD_cons_succ, Option.map_some, Option.map_none]; rfl) ?_
    refine wpo_op rfl rfl rfl rfl (by simp only [aop, pairO, Bool.false_eq_true, Bool.true_eq_false, List.toList_toArray, aeval, upd_same, upd_other, ne_eq, not_false_eq_true, frame0, ofConst, ↓reduceIte, Nat.reduceEqDiff, List.getD_cons_zero, List.getD_cons_succ, Option.map_some, Option.map_none]; rfl) ?_
    refine wpo_op rfl rfl rfl rfl (by simp only [aop, pairO, Bool.false_eq_true, Bool.true_eq_false, List.toList_toArray, aeval, upd_same, upd_other, ne_eq, not_false_eq_true, frame0, ofConst, ↓reduceIte, Nat.reduceEqDiff, List.getD_cons_zero, List.getD_cons_succ, Option.map_some, Option.map_none, e1]; rfl) ?_
    refine wpo_call rfl rfl rfl rfl rfl (by simp only [List.map_cons, List.map_nil, List.nil_append, List.append_nil, List.singleton_append, List.cons_append, aop, pairO, Bool.false_eq_true, Bool.true_eq_false, List.toList_toArray, aeval, upd_same, upd_other, ne_eq, not_false_eq_true, frame0, ofConst, ↓reduceIte, Nat.reduceEqDiff, List.getD_cons_zero, List.getD_cons_succ, Option.map_some, Option.map_none, alen, Sl.len, td22]; first | done | rfl) (F18_calls0 (b.take (b.length - 4)) a1 s1 (by simp; omega) _) ?_
    rintro s τ ⟨hs, hτ⟩
    obtain rfl := hτ.symm
    refine wpo_op rfl rfl rfl rfl (by simp only [aop, pairO, Bool.false_eq_true, Bool.true_eq_false, List.toList_toArray, aeval, upd_same, upd_other, ne_eq, not_false_eq_true, frame0, ofConst, ↓reduceIte, Nat.reduceEqDiff, List.getD_cons_zero, List.getD_cons_succ, Option.map_some, Option.map_none]; rfl) ?_
    refine wpo_nil ?_
    refine wpc_seq ?_
    refine wpc_seq ?_
    refine wpc_region rfl ?_
    refine wpo_op rfl rfl rfl rfl (by simp only [aop, pairO, Bool.false_eq_true, Bool.true_eq_false, List.toList_toArray, aeval, upd_same, upd_other, ne_eq, not_false_eq_true, frame0, ofConst, ↓reduceIte, Nat.reduceEqDiff, List.getD_cons_zero, List.getD_cons_succ, Option.map_some, Option.map_none]; rfl) ?_
    refine wpo_nil ?_
    refine wpc_block ?_
    refine wpc_for tyOk b.length (fun i fr σ' => i ≤ b.length ∧ fr 0 = a ∧ fr 4 = s ∧ fr 5 = .int .i64 i ∧ (rseal (b.take (b.length - 4))).take i = b.take i ∧ σ' = σ) 0 ⟨by omega, rfl, rfl, rfl, by simp, rfl⟩ ?_
    rintro i fr τ ⟨hi, h0, h4, h5, heq, hτ⟩
    obtain rfl := hτ.symm
    refine wpc_seq ?_
    refine wpc_seq ?_
    refine wpc_region rfl ?_
    refine wpo_op rfl rfl rfl rfl (by simp only [aop, pairO, Bool.false_eq_true, Bool.true_eq_false, List.toList_toArray, aeval, upd_same, upd_other, ne_eq, not_false_eq_true, frame0, ofConst, ↓reduceIte, Nat.reduceEqDiff, List.getD_cons_zero, List.getD_cons_succ, Option.map_some, Option.map_none, h5]; rfl) ?_
    refine wpo_op rfl rfl rfl rfl (by simp only [aop, pairO, Bool.false_eq_true, Bool.true_eq_false, List.toList_toArray, aeval, upd_same, upd_other, ne_eq, not_false_eq_true, frame0, ofConst, ↓reduceIte, Nat.reduceEqDiff, List.getD_cons_zero, List.getD_cons_succ, Option.map_some, Option.map_none, h0]; rfl) ?_
    refine wpo_op rfl rfl rfl rfl (by simp only [aop, pairO, Bool.false_eq_true, Bool.true_eq_false, List.toList_toArray, aeval, upd_same, upd_other, ne_eq, not_false_eq_true, frame0, ofConst, ↓reduceIte, Nat.reduceEqDiff, List.getD_cons_zero, List.getD_cons_succ, Option.map_some, Option.map_none, ha.len td22, bys_length]; rfl) ?_
    refine wpo_op rfl rfl rfl rfl (by simp only [aop, pairO, Bool.false_eq_true, Bool.true_eq_false, List.toList_toArray, aeval, upd_same, upd_other, ne_eq, not_false_eq_true, frame0, ofConst, ↓reduceIte, Nat.reduceEqDiff, List.getD_cons_zero, List.getD_cons_succ, Option.map_some, Option.map_none, abin', abin, aarith, beq_bv8, beq_bv32, beq_bv64, aeq, astr, isC, reduceCtorEq, cv_u8, cv_u16, cv_u32, cv_u64, cv_i64_u8, cv_i64_u16, cv_i64_u32, xor_u8, xor_u32, xor_u64, and_u8, and_u32, and_u64, or_u8, or_u64, xor_u32_lit, and_u32_lit, and_u64_lit, and_u8_lit, shr_u8, shr_u32, shr_u64, beq_bv, Int.reduceLE, Int.reduceLT, Int.reduceToNat, BitVec.reduceOfInt, td3]; rfl) ?_
    refine wpo_nil ?_
    refine wpc_cond (by simp only [aop, pairO, Bool.false_eq_true, Bool.true_eq_false, List.toList_toArray, aeval, upd_same, upd_other, ne_eq, not_false_eq_true, frame0, ofConst, ↓reduceIte, Nat.reduceEqDiff, List.getD_cons_zero, List.getD_cons_succ, Option.map_some, Option.map_none]; rfl) (fun hb1 => ?_) (fun hb1 => ?_)
    ·
      have hlt : i < b.length := by have := of_decide_eq_true hb1; omega
      have hlt2 : i < (rseal (b.take (b.length - 4))).length := by omega
      refine wpc_skip ?_
      refine wpc_seq ?_
      refine wpc_block ?_
      refine wpc_seq ?_
      refine wpc_draw0 tyOk mixed rfl (by decide +kernel) ?_
      refine wpd0_op rfl rfl rfl (by simp only [aop, pairO, Bool.false_eq_true, Bool.true_eq_false, List.toList_toArray, aeval, upd_same, upd_other, ne_eq, not_false_eq_true, frame0, ofConst, ↓reduceIte, Nat.reduceEqDiff, List.getD_cons_zero, List.getD_cons_succ, Option.map_some, Option.map_none, h4]; rfl) ?_
      refine wpd0_op rfl rfl rfl (by simp only [aop, pairO, Bool.false_eq_true, Bool.true_eq_false, List.toList_toArray, aeval, upd_same, upd_other, ne_eq, not_false_eq_true, frame0, ofConst, ↓reduceIte, Nat.reduceEqDiff, List.getD_cons_zero, List.getD_cons_succ, Option.map_some, Option.map_none, h5]; rfl) ?_
      refine wpd0_op rfl rfl rfl (by simp only [aop, pairO, Bool.false_eq_true, Bool.true_eq_false, List.toList_toArray, aeval, upd_same, upd_other, ne_eq, not_false_eq_true, frame0, ofConst, ↓reduceIte, Nat.reduceEqDiff, List.getD_cons_zero, List.getD_cons_succ, Option.map_some, Option.map_none, hs.at8 td22 sz5 (List.getElem?_eq_getElem hlt2)]; rfl) ?_
      refine wpd0_op rfl rfl rfl (by simp only [aop, pairO, Bool.false_eq_true, Bool.true_eq_false, List.toList_toArray, aeval, upd_same, upd_other, ne_eq, not_false_eq_true, frame0, ofConst, ↓reduceIte, Nat.reduceEqDiff, List.getD_cons_zero, List.getD_cons_succ, Option.map_some, Option.map_none, aload, acells, acut, isAggTD, AV.cells, List.getElem?_cons_zero, List.getElem?_append_right, Nat.le_refl, Nat.sub_self, ty5]; rfl) ?_
      refine wpd0_op rfl rfl rfl (by simp only [aop, pairO, Bool.false_eq_true, Bool.true_eq_false, List.toList_toArray, aeval, upd_same, upd_other, ne_eq, not_false_eq_true, frame0, ofConst, ↓reduceIte, Nat.reduceEqDiff, List.getD_cons_zero, List.getD_cons_succ, Option.map_some, Option.map_none, h0]; rfl) ?_
      refine wpd0_op rfl rfl rfl (by simp only [aop, pairO, Bool.false_eq_true, Bool.true_eq_false, List.toList_toArray, aeval, upd_same, upd_other, ne_eq, not_false_eq_true, frame0, ofConst, ↓reduceIte, Nat.reduceEqDiff, List.getD_cons_zero, List.getD_cons_succ, Option.map_some, Option.map_none, h5]; rfl) ?_
      refine wpd0_op rfl rfl rfl (by simp only [aop, pairO, Bool.false_eq_true, Bool.true_eq_false, List.toList_toArray, aeval, upd_same, upd_other, ne_eq, not_false_eq_true, frame0, ofConst, ↓reduceIte, Nat.reduceEqDiff, List.getD_cons_zero, List.getD_cons_succ, Option.map_some, Option.map_none, ha.at8 td22 sz5 (List.getElem?_eq_getElem hlt)]; rfl) ?_
      refine wpd0_op rfl rfl rfl (by simp only [aop, pairO, Bool.false_eq_true, Bool.true_eq_false, List.toList_toArray, aeval, upd_same, upd_other, ne_eq, not_false_eq_true, frame0, ofConst, ↓reduceIte, Nat.reduceEqDiff, List.getD_cons_zero, List.getD_cons_succ, Option.map_some, Option.map_none, aload, acells, acut, isAggTD, AV.cells, List.getElem?_cons_zero, List.getElem?_append_right, Nat.le_refl, Nat.sub_self, ty5]; rfl) ?_
      refine wpd0_op rfl rfl rfl (by simp only [aop, pairO, Bool.false_eq_true, Bool.true_eq_false, List.toList_toArray, aeval, upd_same, upd_other, ne_eq, not_false_eq_true, frame0, ofConst, ↓reduceIte, Nat.reduceEqDiff, List.getD_cons_zero, List.getD_cons_succ, Option.map_some, Option.map_none, abin', abin, aarith, beq_bv8, beq_bv32, beq_bv64, aeq, astr, isC, reduceCtorEq, cv_u8, cv_u16, cv_u32, cv_u64, cv_i64_u8, cv_i64_u16, cv_i64_u32, xor_u8, xor_u32, xor_u64, and_u8, and_u32, and_u64, or_u8, or_u64, xor_u32_lit, and_u32_lit, and_u64_lit, and_u8_lit, shr_u8, shr_u32, shr_u64, beq_bv, Int.reduceLE, Int.reduceLT, Int.reduceToNat, BitVec.reduceOfInt, td5, bne, beq_bv]; rfl) ?_
      refine wpd0_nil ?_
      refine wpc_cond (by simp only [aop, pairO, Bool.false_eq_true, Bool.true_eq_false, List.toList_toArray, aeval, upd_same, upd_other, ne_eq, not_false_eq_true, frame0, ofConst, ↓reduceIte, Nat.reduceEqDiff, List.getD_cons_zero, List.getD_cons_succ, Option.map_some, Option.map_none]; rfl) (fun hb2 => ?_) (fun hb2 => ?_)
      ·
        have hne : (rseal (b.take (b.length - 4)))[i] ≠ b[i] := by simpa using hb2
        refine wpc_seq ?_
        refine wpc_region rfl ?_
        refine wpo_op rfl rfl rfl rfl (by simp only [aop, pairO, Bool.false_eq_true, Bool.true_eq_false, List.toList_toArray, aeval, upd_same, upd_other, ne_eq, not_false_eq_true, frame0, ofConst, ↓reduceIte, Nat.reduceEqDiff, List.getD_cons_zero, List.getD_cons_succ, Option.map_some, Option.map_none]; rfl) ?_
        refine wpo_nil ?_
        refine wpc_ret ?_
        refine ⟨_, by rw [show Try.f20.results.toList = [.tmp 2] from rfl]; simp only [ares, aresL, aresOne, aload, acells, acut, isAggTD, List.getElem?_append_right, Nat.le_refl, Nat.sub_self, List.getElem?_cons_zero, AV.cells, List.length_cons, List.length_nil, Nat.reduceAdd, List.drop_zero, List.take_succ_cons, List.take_zero, aop, pairO, Bool.false_eq_true, Bool.true_eq_false, List.toList_toArray, aeval, upd_same, upd_other, ne_eq, not_false_eq_true, frame0, ofConst, ↓reduceIte, Nat.reduceEqDiff, List.getD_cons_zero, List.getD_cons_succ, Option.map_some, Option.map_none]; rfl, ?_⟩
        refine ⟨?_, rfl⟩
        simp only [rfits, AV.bool.injEq]
        rw [decide_eq_true hge, decide_eq_false (fun he => hne (by simp only [he]))]
        rfl
      ·
        have hee : (rseal (b.take (b.length - 4)))[i] = b[i] := by simpa using hb2
        refine wpc_skip ?_
        refine wpc_region rfl ?_
        refine wpo_op rfl rfl rfl rfl (by simp only [aop, pairO, Bool.false_eq_true, Bool.true_eq_false, List.toList_toArray, aeval, upd_same, upd_other, ne_eq, not_false_eq_true, frame0, ofConst, ↓reduceIte, Nat.reduceEqDiff, List.getD_cons_zero, List.getD_cons_succ, Option.map_some, Option.map_none, h5]; rfl) ?_
        refine wpo_op rfl rfl rfl rfl (by simp only [aop, pairO, Bool.false_eq_true, Bool.true_eq_false, List.toList_toArray, aeval, upd_same, upd_other, ne_eq, not_false_eq_true, frame0, ofConst, ↓reduceIte, Nat.reduceEqDiff, List.getD_cons_zero, List.getD_cons_succ, Option.map_some, Option.map_none, abin', abin, aarith, beq_bv8, beq_bv32, beq_bv64, aeq, astr, isC, reduceCtorEq, cv_u8, cv_u16, cv_u32, cv_u64, cv_i64_u8, cv_i64_u16, cv_i64_u32, xor_u8, xor_u32, xor_u64, and_u8, and_u32, and_u64, or_u8, or_u64, xor_u32_lit, and_u32_lit, and_u64_lit, and_u8_lit, shr_u8, shr_u32, shr_u64, beq_bv, Int.reduceLE, Int.reduceLT, Int.reduceToNat, BitVec.reduceOfInt, td3]; rfl) ?_
        refine wpo_op rfl rfl rfl rfl (by simp only [aop, pairO, Bool.false_eq_true, Bool.true_eq_false, List.toList_toArray, aeval, upd_same, upd_other, ne_eq, not_false_eq_true, frame0, ofConst, ↓reduceIte, Nat.reduceEqDiff, List.getD_cons_zero, List.getD_cons_succ, Option.map_some, Option.map_none]; rfl) ?_
        refine wpo_nil ?_
        refine ⟨hlt, hlt, by simp only [upd, ↓reduceIte, Nat.reduceEqDiff, h0], by simp only [upd, ↓reduceIte, Nat.reduceEqDiff, h4], by simp only [upd, ↓reduceIte, Nat.reduceEqDiff, h5]; rw [wrap_i64_id (by omega) (by omega)]; rfl, ?_, rfl⟩
        rw [List.take_succ_eq_append_getElem hlt, List.take_succ_eq_append_getElem hlt2, heq, hee]
    ·
      have hge : ¬ (i:Int) < b.length := of_decide_eq_false hb1
      obtain rfl : i = b.length := by omega
      refine wpc_exit ?_
      refine at_ rfl ?_
      refine wpc_seq ?_
      refine wpc_region rfl ?_
      refine wpo_op rfl rfl rfl rfl (by simp only [aop, pairO, Bool.false_eq_true, Bool.true_eq_false, List.toList_toArray, aeval, upd_same, upd_other, ne_eq, not_false_eq_true, frame0, ofConst, ↓reduceIte, Nat.reduceEqDiff, List.getD_cons_zero, List.getD_cons_succ, Option.map_some, Option.map_none]; rfl) ?_
      refine wpo_nil ?_
      refine wpc_ret ?_
      refine ⟨_, by rw [show Try.f20.results.toList = [.tmp 2] from rfl]; simp only [ares, aresL, aresOne, aload, acells, acut, isAggTD, List.getElem?_append_right, Nat.le_refl, Nat.sub_self, List.getElem?_cons_zero, AV.cells, List.length_cons, List.length_nil, Nat.reduceAdd, List.drop_zero, List.take_succ_cons, List.take_zero, aop, pairO, Bool.false_eq_true, Bool.true_eq_false, List.toList_toArray, aeval, upd_same, upd_other, ne_eq, not_false_eq_true, frame0, ofConst, ↓reduceIte, Nat.reduceEqDiff, List.getD_cons_zero, List.getD_cons_succ, Option.map_some, Option.map_none]; rfl, ?_⟩
      refine ⟨?_, rfl⟩
      simp only [rfits, AV.bool.injEq]
      rw [List.take_of_length_le (Nat.le_of_eq hl4), List.take_length] at heq
      rw [decide_eq_true (show 4 ≤ b.length by omega), decide_eq_true heq]
      rfl
end Go.Proofs.Ytnjijefhnmnjgaa.Ck
