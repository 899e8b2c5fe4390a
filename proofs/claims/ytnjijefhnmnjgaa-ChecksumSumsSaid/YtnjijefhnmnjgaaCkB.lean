/- checksum: sealed bytes, whether they fit; the document's words for both. -/
import Derived.Test.YtnjijefhnmnjgaaCkA
import Derived.Test.YtnjijefhnmnjgaaVaS
namespace Go.Proofs.Ytnjijefhnmnjgaa.Ck
open Go Go.Va Go.Proofs.Ytnjijefhnmnjgaa.Va
set_option linter.unusedVariables false
set_option linter.unusedSimpArgs false
set_option maxRecDepth 20000

theorem F17_calls (b : List (BitVec 8)) (a : AV) (ha : Sl 1 (bys b) a) (hb : b.length ≤ 1000000) (σ : St) : ACall Try.prog 17 [a] σ (fun r σ' => Sl 1 (bys (seal_ b)) r ∧ σ.Le σ') := by
  refine acall_intro tyOk (fun _ => false) Try.func17 (by decide) rfl (Nat.le_of_ble_eq_true rfl) ?_
  refine wpc_seq ?_
  refine wpc_region rfl ?_
  refine wpo_op rfl rfl rfl rfl (by simp only [aop, pairO, Bool.false_eq_true, Bool.true_eq_false, List.toList_toArray, aeval, upd_same, upd_other, ne_eq, not_false_eq_true, frame0, ofConst, ↓reduceIte, Nat.reduceEqDiff, List.getD_cons_zero, List.getD_cons_succ, Option.map_some, Option.map_none]; rfl) ?_
  refine wpo_nil ?_
  refine wpc_seq ?_
  refine wpc_region rfl ?_
  refine wpo_op rfl rfl rfl rfl (by simp only [aop, pairO, Bool.false_eq_true, Bool.true_eq_false, List.toList_toArray, aeval, upd_same, upd_other, ne_eq, not_false_eq_true, frame0, ofConst, ↓reduceIte, Nat.reduceEqDiff, List.getD_cons_zero, List.getD_cons_succ, Option.map_some, Option.map_none]; rfl) ?_
  refine wpo_call rfl rfl rfl rfl rfl (by simp only [List.map_cons, List.map_nil, List.nil_append, List.append_nil, List.singleton_append, List.cons_append, aop, pairO, Bool.false_eq_true, Bool.true_eq_false, List.toList_toArray, aeval, upd_same, upd_other, ne_eq, not_false_eq_true, frame0, ofConst, ↓reduceIte, Nat.reduceEqDiff, List.getD_cons_zero, List.getD_cons_succ, Option.map_some, Option.map_none, alen, Sl.len, td22]; first | done | rfl) (F14_calls b a ha (by omega) _) ?_
  rintro _ τ ⟨rfl, hτ⟩
  obtain rfl := hτ.symm
  refine wpo_call rfl rfl rfl rfl rfl (by simp only [List.map_cons, List.map_nil, List.nil_append, List.append_nil, List.singleton_append, List.cons_append, aop, pairO, Bool.false_eq_true, Bool.true_eq_false, List.toList_toArray, aeval, upd_same, upd_other, ne_eq, not_false_eq_true, frame0, ofConst, ↓reduceIte, Nat.reduceEqDiff, List.getD_cons_zero, List.getD_cons_succ, Option.map_some, Option.map_none, alen, Sl.len, td23]; first | done | rfl) (F13_calls0 (sum b) _) ?_
  rintro _ τ ⟨rfl, hτ⟩
  obtain rfl := hτ.symm
  refine wpo_op rfl rfl rfl rfl (by simp only [aop, pairO, Bool.false_eq_true, Bool.true_eq_false, List.toList_toArray, aeval, upd_same, upd_other, ne_eq, not_false_eq_true, frame0, ofConst, ↓reduceIte, Nat.reduceEqDiff, List.getD_cons_zero, List.getD_cons_succ, Option.map_some, Option.map_none, aalloc, ty25]; rfl) ?_
  refine wpo_st rfl rfl rfl (by simp only [aop, pairO, Bool.false_eq_true, Bool.true_eq_false, List.toList_toArray, aeval, upd_same, upd_other, ne_eq, not_false_eq_true, frame0, ofConst, ↓reduceIte, Nat.reduceEqDiff, List.getD_cons_zero, List.getD_cons_succ, Option.map_some, Option.map_none, astore, repl, AV.cells, flatAV, List.all_cons, List.all_nil, Bool.and_true, List.length_cons, List.length_nil, List.length_append, List.getElem?_append_right, List.getElem?_cons_zero, Nat.le_refl, Nat.sub_self, Nat.reduceAdd, and_self, List.take_zero, List.nil_append, List.drop_succ_cons, List.drop_zero, List.drop_nil, List.append_nil, List.set_append_right, List.set_cons_zero, ty25, bys_length, show (four (sum b)).length = 4 from rfl, Nat.zero_add]; rfl) ?_
  refine wpo_nil ?_
  refine wpc_seq ?_
  refine wpc_drawS tyOk mixed [2, 4] rfl (by decide +kernel) rfl rfl ?_
  refine wpdS_op rfl rfl rfl rfl (fun τ => by simp only [aop, pairO, Bool.false_eq_true, Bool.true_eq_false, List.toList_toArray, aeval, upd_same, upd_other, ne_eq, not_false_eq_true, frame0, ofConst, ↓reduceIte, Nat.reduceEqDiff, List.getD_cons_zero, List.getD_cons_succ, Option.map_some, Option.map_none, abuildSlice, alay, List.replicate_succ, List.replicate_zero, List.set_cons_zero, List.set_cons_succ, AV.cells, flatAV, List.all_cons, List.all_nil, Bool.and_true, Bool.and_self, List.length_cons, List.length_nil, List.length_set, Nat.reduceAdd, Nat.reduceMul, Nat.reduceLT, Nat.reduceLeDiff, Nat.lt_add_one, Nat.zero_lt_succ, Nat.zero_mul, Nat.zero_le, Nat.one_pos, and_self, List.map_cons, List.map_nil, td22, ty5, abuildSlice, ty5, List.replicate_zero]; rfl) ?_
  refine wpdS_op rfl rfl rfl rfl (fun τ => by simp only [aop, pairO, Bool.false_eq_true, Bool.true_eq_false, List.toList_toArray, aeval, upd_same, upd_other, ne_eq, not_false_eq_true, frame0, ofConst, ↓reduceIte, Nat.reduceEqDiff, List.getD_cons_zero, List.getD_cons_succ, Option.map_some, Option.map_none]; rfl) ?_
  obtain ⟨a1, σ1, e1, p1, l1, o1, n1⟩ := Ap.append (Ty := ty) (T := 22) (U := 22) (σ0 := σ) (a := .sl .full 1 []) (es := []) (.inr (.inl rfl)) (St.Le.push σ (bys (four (sum b)))) (Nat.le_refl _) td22 ty5 rfl (by decide) (ha.src td22) (by simp only [List.length_nil, bys_length]; omega)
  refine wpdS_in rfl rfl rfl rfl (by simp only [aop, pairO, Bool.false_eq_true, Bool.true_eq_false, List.toList_toArray, aeval, upd_same, upd_other, ne_eq, not_false_eq_true, frame0, ofConst, ↓reduceIte, Nat.reduceEqDiff, List.getD_cons_zero, List.getD_cons_succ, Option.map_some, Option.map_none, e1]; rfl) ?_
  refine wpdS_op rfl rfl rfl rfl (fun τ => by simp only [aop, pairO, Bool.false_eq_true, Bool.true_eq_false, List.toList_toArray, aeval, upd_same, upd_other, ne_eq, not_false_eq_true, frame0, ofConst, ↓reduceIte, Nat.reduceEqDiff, List.getD_cons_zero, List.getD_cons_succ, Option.map_some, Option.map_none, aslice, td25, abnd, sz5]; rfl) ?_
  obtain ⟨a2, σ2, e2, p2, l2, o2, n2⟩ := Ap.append (Ty := ty) (T := 22) (U := 22) p1 l1 n1 td22 ty5 rfl (by decide) (y := .msl σ.objs.length 0 4) (ys := bys (four (sum b))) (by simp [srcOf, td22, o1]; exact ⟨Nat.le_refl 4, rfl⟩) (by simp only [List.nil_append, List.length_append, bys_length, List.length_nil]; simp only [four, List.length_cons, List.length_nil]; omega)
  refine wpdS_in rfl rfl rfl rfl (by simp only [aop, pairO, Bool.false_eq_true, Bool.true_eq_false, List.toList_toArray, aeval, upd_same, upd_other, ne_eq, not_false_eq_true, frame0, ofConst, ↓reduceIte, Nat.reduceEqDiff, List.getD_cons_zero, List.getD_cons_succ, Option.map_some, Option.map_none, e2]; rfl) ?_
  refine wpdS_op rfl rfl rfl rfl (fun τ => by simp only [aop, pairO, Bool.false_eq_true, Bool.true_eq_false, List.toList_toArray, aeval, upd_same, upd_other, ne_eq, not_false_eq_true, frame0, ofConst, ↓reduceIte, Nat.reduceEqDiff, List.getD_cons_zero, List.getD_cons_succ, Option.map_some, Option.map_none]; rfl) ?_
  refine wpdS_nil ?_
  refine wpc_ret ?_
  refine ⟨_, by rw [show Try.f17.results.toList = [.tmp 2] from rfl]; simp only [ares, aresL, aresOne, aload, acells, acut, isAggTD, List.getElem?_append_right, Nat.le_refl, Nat.sub_self, List.getElem?_cons_zero, AV.cells, List.length_cons, List.length_nil, Nat.reduceAdd, List.drop_zero, List.take_succ_cons, List.take_zero, aop, pairO, Bool.false_eq_true, Bool.true_eq_false, List.toList_toArray, aeval, upd_same, upd_other, ne_eq, not_false_eq_true, frame0, ofConst, ↓reduceIte, Nat.reduceEqDiff, List.getD_cons_zero, List.getD_cons_succ, Option.map_some, Option.map_none]; rfl, ?_⟩
  exact ⟨by rw [seal_, bys_append]; exact p2.sl, l2⟩
theorem F17_calls0 (b : List (BitVec 8)) (a : AV) (ha : Sl 1 (bys b) a) (hb : b.length ≤ 1000000) (σ : St) : ACall Try.prog 17 [a] σ (fun r σ' => Sl 1 (bys (seal_ b)) r ∧ σ' = σ) :=
  ((F17_calls b a ha hb σ).forget fun _ _ h => h.2).mono fun a σ' ⟨h1, a0, σ1, ⟨h2, _⟩, h3⟩ => ⟨by rw [h3]; exact h2.detok (bys_detok _), h1⟩
theorem F19_calls (b : List (BitVec 8)) (a : AV) (ha : Sl 1 (bys b) a) (hb : b.length ≤ 1000000) (σ : St) : ACall Try.prog 19 [a] σ (fun r σ' => r = .bool (fits b) ∧ σ' = σ) := by
  refine acall_intro tyOk (fun _ => false) Try.func19 (by decide) rfl (Nat.le_of_ble_eq_true rfl) ?_
  refine wpc_seq ?_
  refine wpc_region rfl ?_
  refine wpo_op rfl rfl rfl rfl (by simp only [aop, pairO, Bool.false_eq_true, Bool.true_eq_false, List.toList_toArray, aeval, upd_same, upd_other, ne_eq, not_false_eq_true, frame0, ofConst, ↓reduceIte, Nat.reduceEqDiff, List.getD_cons_zero, List.getD_cons_succ, Option.map_some, Option.map_none]; rfl) ?_
  refine wpo_nil ?_
  refine wpc_seq ?_
  refine wpc_region rfl ?_
  refine wpo_op rfl rfl rfl rfl (by simp only [aop, pairO, Bool.false_eq_true, Bool.true_eq_false, List.toList_toArray, aeval, upd_same, upd_other, ne_eq, not_false_eq_true, frame0, ofConst, ↓reduceIte, Nat.reduceEqDiff, List.getD_cons_zero, List.getD_cons_succ, Option.map_some, Option.map_none]; rfl) ?_
  refine wpo_op rfl rfl rfl rfl (by simp only [aop, pairO, Bool.false_eq_true, Bool.true_eq_false, List.toList_toArray, aeval, upd_same, upd_other, ne_eq, not_false_eq_true, frame0, ofConst, ↓reduceIte, Nat.reduceEqDiff, List.getD_cons_zero, List.getD_cons_succ, Option.map_some, Option.map_none, ha.len td22, bys_length]; rfl) ?_
  refine wpo_op rfl rfl rfl rfl (by simp only [aop, pairO, Bool.false_eq_true, Bool.true_eq_false, List.toList_toArray, aeval, upd_same, upd_other, ne_eq, not_false_eq_true, frame0, ofConst, ↓reduceIte, Nat.reduceEqDiff, List.getD_cons_zero, List.getD_cons_succ, Option.map_some, Option.map_none, abin', abin, aarith, beq_bv8, beq_bv32, beq_bv64, aeq, astr, isC, reduceCtorEq, cv_u8, cv_u16, cv_u32, cv_u64, cv_i64_u8, cv_i64_u16, cv_i64_u32, xor_u8, xor_u32, xor_u64, and_u8, and_u32, and_u64, or_u8, or_u64, xor_u32_lit, and_u32_lit, and_u64_lit, and_u8_lit, shr_u8, shr_u32, shr_u64, beq_bv, Int.reduceLE, Int.reduceLT, Int.reduceToNat, BitVec.reduceOfInt, td3, wrap_i64_id (show -9223372036854775808 ≤ (b.length:Int) - 4 by omega) (by omega)]; rfl) ?_
  refine wpo_op rfl rfl rfl rfl (by simp only [aop, pairO, Bool.false_eq_true, Bool.true_eq_false, List.toList_toArray, aeval, upd_same, upd_other, ne_eq, not_false_eq_true, frame0, ofConst, ↓reduceIte, Nat.reduceEqDiff, List.getD_cons_zero, List.getD_cons_succ, Option.map_some, Option.map_none]; rfl) ?_
  refine wpo_nil ?_
  refine wpc_seq ?_
  refine wpc_seq ?_
  refine wpc_region rfl ?_
  refine wpo_op rfl rfl rfl rfl (by simp only [aop, pairO, Bool.false_eq_true, Bool.true_eq_false, List.toList_toArray, aeval, upd_same, upd_other, ne_eq, not_false_eq_true, frame0, ofConst, ↓reduceIte, Nat.reduceEqDiff, List.getD_cons_zero, List.getD_cons_succ, Option.map_some, Option.map_none]; rfl) ?_
  refine wpo_op rfl rfl rfl rfl (by simp only [aop, pairO, Bool.false_eq_true, Bool.true_eq_false, List.toList_toArray, aeval, upd_same, upd_other, ne_eq, not_false_eq_true, frame0, ofConst, ↓reduceIte, Nat.reduceEqDiff, List.getD_cons_zero, List.getD_cons_succ, Option.map_some, Option.map_none, abin', abin, aarith, beq_bv8, beq_bv32, beq_bv64, aeq, astr, isC, reduceCtorEq, cv_u8, cv_u16, cv_u32, cv_u64, cv_i64_u8, cv_i64_u16, cv_i64_u32, xor_u8, xor_u32, xor_u64, and_u8, and_u32, and_u64, or_u8, or_u64, xor_u32_lit, and_u32_lit, and_u64_lit, and_u8_lit, shr_u8, shr_u32, shr_u64, beq_bv, Int.reduceLE, Int.reduceLT, Int.reduceToNat, BitVec.reduceOfInt, td3]; rfl) ?_
  refine wpo_nil ?_
  refine wpc_cond (by simp only [aop, pairO, Bool.false_eq_true, Bool.true_eq_false, List.toList_toArray, aeval, upd_same, upd_other, ne_eq, not_false_eq_true, frame0, ofConst, ↓reduceIte, Nat.reduceEqDiff, List.getD_cons_zero, List.getD_cons_succ, Option.map_some, Option.map_none]; rfl) (fun hb0 => ?_) (fun hb0 => ?_)
  ·
    have hlt : b.length < 4 := by have := of_decide_eq_true hb0; omega
    refine wpc_seq ?_
    refine wpc_region rfl ?_
    refine wpo_op rfl rfl rfl rfl (by simp only [aop, pairO, Bool.false_eq_true, Bool.true_eq_false, List.toList_toArray, aeval, upd_same, upd_other, ne_eq, not_false_eq_true, frame0, ofConst, ↓reduceIte, Nat.reduceEqDiff, List.getD_cons_zero, List.getD_cons_succ, Option.map_some, Option.map_none]; rfl) ?_
    refine wpo_nil ?_
    refine wpc_ret ?_
    refine ⟨_, by rw [show Try.f19.results.toList = [.tmp 2] from rfl]; simp only [ares, aresL, aresOne, aload, acells, acut, isAggTD, List.getElem?_append_right, Nat.le_refl, Nat.sub_self, List.getElem?_cons_zero, AV.cells, List.length_cons, List.length_nil, Nat.reduceAdd, List.drop_zero, List.take_succ_cons, List.take_zero, aop, pairO, Bool.false_eq_true, Bool.true_eq_false, List.toList_toArray, aeval, upd_same, upd_other, ne_eq, not_false_eq_true, frame0, ofConst, ↓reduceIte, Nat.reduceEqDiff, List.getD_cons_zero, List.getD_cons_succ, Option.map_some, Option.map_none]; rfl, ?_⟩
    refine ⟨?_, rfl⟩
    simp only [fits, AV.bool.injEq]
    rw [decide_eq_false (by omega)]
    rfl
  ·
    have hge : 4 ≤ b.length := by have := of_decide_eq_false hb0; omega
    have hl4 : (b.drop (b.length - 4)).length = 4 := by simp; omega
    obtain ⟨a1, e1, s1⟩ := ha.cut (σ := σ) (Ty := ty) (T := 22) (lo := none) (hi := some (.int .i64 ((b.length:Int) - 4))) (l := 0) (m := b.length - 4) td22 sz5 (by decide) rfl (by simp only [abnd]; rw [if_pos (by omega)]; congr 1; omega) (by omega) (by simp)
    obtain ⟨a2, e2, s2⟩ := ha.cut (σ := σ) (Ty := ty) (T := 22) (lo := some (.int .i64 ((b.length:Int) - 4))) (hi := none) (l := b.length - 4) (m := b.length) td22 sz5 (by decide) (by simp only [abnd]; rw [if_pos (by omega)]; congr 1; omega) (by simp [abnd]) (by omega) (by simp)
    rw [List.drop_zero] at s1
    rw [bys_take] at s1
    rw [bys_take, bys_drop, List.take_length] at s2
    have e3 := s2.arr (Ty := ty) (T := 25) td25 sz5 (by decide) (by rw [bys_length]; exact hl4) (bys_flat _)
    have e4 : aload ty 25 (.fptr (bys (b.drop (b.length - 4))) 0) σ = some (.agg (bys (b.drop (b.length - 4)))) := by
      simp only [aload, acells, acut, ty25, isAggTD, if_true, bys_length, hl4, Nat.zero_add, Nat.le_refl, List.drop_zero]
      rw [List.take_of_length_le (by rw [bys_length, hl4]; decide)]
    refine wpc_skip ?_
    refine wpc_seq ?_
    refine wpc_draw0 tyOk mixed rfl (by decide +kernel) ?_
    refine wpd0_op rfl rfl rfl (by simp only [aop, pairO, Bool.false_eq_true, Bool.true_eq_false, List.toList_toArray, aeval, upd_same, upd_other, ne_eq, not_false_eq_true, frame0, ofConst, ↓reduceIte, Nat.reduceEqDiff, List.getD_cons_zero, List.getD_cons_succ, Option.map_some, Option.map_none]; rfl) ?_
    refine wpd0_op rfl rfl rfl (by simp only [aop, pairO, Bool.false_eq_true, Bool.true_eq_false, List.toList_toArray, aeval, upd_same, upd_other, ne_eq, not_false_eq_true, frame0, ofConst, ↓reduceIte, Nat.reduceEqDiff, List.getD_cons_zero, List.getD_cons_succ, Option.map_some, Option.map_none]; rfl) ?_
    refine wpd0_op rfl rfl rfl (by simp only [aop, pairO, Bool.false_eq_true, Bool.true_eq_false, List.toList_toArray, aeval, upd_same, upd_other, ne_eq, not_false_eq_true, frame0, ofConst, ↓reduceIte, Nat.reduceEqDiff, List.getD_cons_zero, List.getD_cons_succ, Option.map_some, Option.map_none, e1]; rfl) ?_
    refine wpd0_call rfl rfl rfl rfl (by simp only [List.map_cons, List.map_nil, List.nil_append, List.append_nil, List.singleton_append, List.cons_append, aop, pairO, Bool.false_eq_true, Bool.true_eq_false, List.toList_toArray, aeval, upd_same, upd_other, ne_eq, not_false_eq_true, frame0, ofConst, ↓reduceIte, Nat.reduceEqDiff, List.getD_cons_zero, List.getD_cons_succ, Option.map_some, Option.map_none, alen, Sl.len, td22]; first | done | rfl) (F14_calls (b.take (b.length - 4)) a1 s1 (by simp; omega) _) ?_
    refine wpd0_call rfl rfl rfl rfl (by simp only [List.map_cons, List.map_nil, List.nil_append, List.append_nil, List.singleton_append, List.cons_append, aop, pairO, Bool.false_eq_true, Bool.true_eq_false, List.toList_toArray, aeval, upd_same, upd_other, ne_eq, not_false_eq_true, frame0, ofConst, ↓reduceIte, Nat.reduceEqDiff, List.getD_cons_zero, List.getD_cons_succ, Option.map_some, Option.map_none, alen, Sl.len, td23]; first | done | rfl) (F13_calls0 _ _) ?_
    refine wpd0_op rfl rfl rfl (by simp only [aop, pairO, Bool.false_eq_true, Bool.true_eq_false, List.toList_toArray, aeval, upd_same, upd_other, ne_eq, not_false_eq_true, frame0, ofConst, ↓reduceIte, Nat.reduceEqDiff, List.getD_cons_zero, List.getD_cons_succ, Option.map_some, Option.map_none]; rfl) ?_
    refine wpd0_op rfl rfl rfl (by simp only [aop, pairO, Bool.false_eq_true, Bool.true_eq_false, List.toList_toArray, aeval, upd_same, upd_other, ne_eq, not_false_eq_true, frame0, ofConst, ↓reduceIte, Nat.reduceEqDiff, List.getD_cons_zero, List.getD_cons_succ, Option.map_some, Option.map_none]; rfl) ?_
    refine wpd0_op rfl rfl rfl (by simp only [aop, pairO, Bool.false_eq_true, Bool.true_eq_false, List.toList_toArray, aeval, upd_same, upd_other, ne_eq, not_false_eq_true, frame0, ofConst, ↓reduceIte, Nat.reduceEqDiff, List.getD_cons_zero, List.getD_cons_succ, Option.map_some, Option.map_none, e2]; rfl) ?_
    refine wpd0_op rfl rfl rfl (by simp only [aop, pairO, Bool.false_eq_true, Bool.true_eq_false, List.toList_toArray, aeval, upd_same, upd_other, ne_eq, not_false_eq_true, frame0, ofConst, ↓reduceIte, Nat.reduceEqDiff, List.getD_cons_zero, List.getD_cons_succ, Option.map_some, Option.map_none, e3]; rfl) ?_
    refine wpd0_op rfl rfl rfl (by simp only [aop, pairO, Bool.false_eq_true, Bool.true_eq_false, List.toList_toArray, aeval, upd_same, upd_other, ne_eq, not_false_eq_true, frame0, ofConst, ↓reduceIte, Nat.reduceEqDiff, List.getD_cons_zero, List.getD_cons_succ, Option.map_some, Option.map_none, e4]; rfl) ?_
    refine wpd0_op rfl rfl rfl (by simp only [aop, pairO, Bool.false_eq_true, Bool.true_eq_false, List.toList_toArray, aeval, upd_same, upd_other, ne_eq, not_false_eq_true, frame0, ofConst, ↓reduceIte, Nat.reduceEqDiff, List.getD_cons_zero, List.getD_cons_succ, Option.map_some, Option.map_none, abin', aeqAgg_bys td25 td5 sz5 (show (four (sum (b.take (b.length - 4)))).length = 4 from rfl) hl4, aeq]; rfl) ?_
    refine wpd0_op rfl rfl rfl (by simp only [aop, pairO, Bool.false_eq_true, Bool.true_eq_false, List.toList_toArray, aeval, upd_same, upd_other, ne_eq, not_false_eq_true, frame0, ofConst, ↓reduceIte, Nat.reduceEqDiff, List.getD_cons_zero, List.getD_cons_succ, Option.map_some, Option.map_none]; rfl) ?_
    refine wpd0_nil ?_
    refine wpc_ret ?_
    refine ⟨_, by rw [show Try.f19.results.toList = [.tmp 2] from rfl]; simp only [ares, aresL, aresOne, aload, acells, acut, isAggTD, List.getElem?_append_right, Nat.le_refl, Nat.sub_self, List.getElem?_cons_zero, AV.cells, List.length_cons, List.length_nil, Nat.reduceAdd, List.drop_zero, List.take_succ_cons, List.take_zero, aop, pairO, Bool.false_eq_true, Bool.true_eq_false, List.toList_toArray, aeval, upd_same, upd_other, ne_eq, not_false_eq_true, frame0, ofConst, ↓reduceIte, Nat.reduceEqDiff, List.getD_cons_zero, List.getD_cons_succ, Option.map_some, Option.map_none]; rfl, ?_⟩
    refine ⟨?_, rfl⟩
    simp only [fits, AV.bool.injEq]
    rw [decide_eq_true hge]
    rfl
end Go.Proofs.Ytnjijefhnmnjgaa.Ck
