/- The sum of checksum, byte by byte or bit by bit: the same; it goes on; it adds up. -/
import Derived.Test.YtnjijefhnmnjgaaCkD
namespace Go.Proofs.Ytnjijefhnmnjgaa.Ck
open Go Go.Va Go.Proofs.Ytnjijefhnmnjgaa.Va
set_option linter.unusedVariables false
set_option linter.unusedSimpArgs false
theorem shr_shr (n : BitVec 32) (k : Nat) : n >>> k >>> 1 = n >>> (k + 1) := by rw [BitVec.shiftRight_add]
theorem and_one (n : BitVec 32) : (n &&& 1#32 = 1#32) ↔ n.getLsbD 0 = true := by
  constructor
  · intro h
    have := congrArg (fun x => x.getLsbD 0) h
    simpa using this
  · intro h
    apply BitVec.eq_of_getLsbD_eq
    intro i hi
    by_cases h0 : i = 0
    · subst h0; simpa using h
    · rw [BitVec.getLsbD_and, BitVec.getLsbD_one]
      simp [h0]
theorem step_eq (n : BitVec 32) : step n = n >>> 1 ^^^ (if n.getLsbD 0 = true then 3988292384#32 else 0#32) := by
  unfold step
  by_cases h : n.getLsbD 0 = true
  · rw [if_pos ((and_one n).2 h), if_pos h]
  · rw [if_neg (fun hh => h ((and_one n).1 hh)), if_neg h, BitVec.xor_zero]
theorem step_xor (a b : BitVec 32) : step (a ^^^ b) = step a ^^^ step b := by
  rw [step_eq, step_eq, step_eq, BitVec.getLsbD_xor, BitVec.ushiftRight_xor_distrib]
  generalize a >>> 1 = x
  generalize b >>> 1 = y
  cases a.getLsbD 0 <;> cases b.getLsbD 0
  · simp
  · simp [BitVec.xor_assoc]
  · simp only [Bool.xor_false, if_true, Bool.false_eq_true, if_false, BitVec.xor_zero]
    rw [BitVec.xor_assoc, BitVec.xor_comm y, BitVec.xor_assoc]
  · simp only [Bool.xor_self, if_true, Bool.false_eq_true, if_false, BitVec.xor_zero]
    rw [BitVec.xor_assoc, ← BitVec.xor_assoc (3988292384#32), BitVec.xor_comm (3988292384#32) y, BitVec.xor_assoc y, BitVec.xor_self, BitVec.xor_zero]
theorem steps_xor (a b : BitVec 32) : ∀ k, steps k (a ^^^ b) = steps k a ^^^ steps k b
  | 0 => rfl
  | k + 1 => by rw [steps, steps_xor a b k, step_xor]; rfl
theorem step_even (n : BitVec 32) (h : n.getLsbD 0 = false) : step n = n >>> 1 := by
  rw [step_eq, h]; simp
theorem steps_even (z : BitVec 32) : ∀ k, (∀ i, i < k → z.getLsbD i = false) → steps k z = z >>> k
  | 0, _ => by simp [steps]
  | k + 1, h => by
    rw [steps, steps_even z k (fun i hi => h i (by omega)), step_even _ (by rw [BitVec.getLsbD_ushiftRight]; exact h _ (by omega)), shr_shr]
theorem steps_byte (n : BitVec 32) (c : BitVec 8) : steps 8 (n ^^^ c.setWidth 32) = more1 n c := by
  have h : n ^^^ c.setWidth 32 = (n >>> 8) <<< 8 ^^^ (n.setWidth 8 ^^^ c).setWidth 32 := by
    apply BitVec.eq_of_getLsbD_eq
    intro i hi
    simp only [BitVec.getLsbD_xor, BitVec.getLsbD_shiftLeft, BitVec.getLsbD_ushiftRight, BitVec.getLsbD_setWidth]
    by_cases h8 : i < 8
    · simp [h8, hi]
    · have e : 8 + (i - 8) = i := by omega
      simp [h8, hi, e, BitVec.getLsbD_of_ge c i (by omega)]
  rw [h, steps_xor, steps_even]
  · unfold more1 column
    congr 1
    apply BitVec.eq_of_getLsbD_eq
    intro i hi
    simp only [BitVec.getLsbD_shiftLeft, BitVec.getLsbD_ushiftRight]
    by_cases h32 : 8 + i < 32
    · simp [h32]
    · simp [h32, BitVec.getLsbD_of_ge n (8 + i) (by omega)]
  · intro i hi
    simp [BitVec.getLsbD_shiftLeft, hi]
theorem half (n : BitVec 32) : n / 2#32 = n >>> 1 := by
  apply BitVec.eq_of_toNat_eq
  rw [BitVec.toNat_udiv, BitVec.toNat_ushiftRight, Nat.shiftRight_eq_div_pow]
  rfl
theorem low (n m : BitVec 32) : n % 2#32 = m % 2#32 ↔ n.getLsbD 0 = m.getLsbD 0 := by
  have e (x : BitVec 32) : x.getLsbD 0 = decide (x.toNat % 2 = 1) := by
    rw [BitVec.getLsbD, Nat.testBit_zero]
  rw [e, e]
  constructor
  · intro h
    have := congrArg BitVec.toNat h
    simp only [BitVec.toNat_umod, BitVec.toNat_ofNat] at this
    have h2 : n.toNat % 2 = m.toNat % 2 := this
    rw [h2]
  · intro h
    apply BitVec.eq_of_toNat_eq
    simp only [BitVec.toNat_umod, BitVec.toNat_ofNat]
    show n.toNat % 2 = m.toNat % 2
    rw [decide_eq_decide] at h
    omega
/-- One bit, as a step. -/
theorem rbit_eq (c : BitVec 8) (k : Nat) (n : BitVec 32) : rbit c k n = n >>> 1 ^^^ (if (c.getLsbD k != n.getLsbD 0) = true then 3988292384#32 else 0#32) := by
  unfold rbit
  have hb : ((c >>> k).setWidth 32).getLsbD 0 = c.getLsbD k := by
    simp
    intro h
    rcases Nat.lt_or_ge k 32 with h1 | h1
    · exact h1
    · rw [BitVec.getLsbD_of_ge c k (by omega)] at h; cases h
  by_cases h : c.getLsbD k = n.getLsbD 0
  · rw [if_pos ((low _ _).2 (by rw [hb]; exact h)), half, h]
    simp
  · rw [if_neg (fun hh => h (by rw [← hb]; exact (low _ _).1 hh)), half]
    have : (c.getLsbD k != n.getLsbD 0) = true := by simpa using h
    rw [this]; simp
theorem rbits_eq (c : BitVec 8) (n : BitVec 32) : ∀ k, steps k (n ^^^ c.setWidth 32) = rbits c n k ^^^ (c.setWidth 32) >>> k
  | 0 => by simp [steps, rbits]
  | k + 1 => by
    have hc : (c.setWidth 32 >>> k).getLsbD 0 = c.getLsbD k := by
      simp only [BitVec.getLsbD_ushiftRight, BitVec.getLsbD_setWidth, Nat.add_zero]
      by_cases h : k < 32
      · simp [h]
      · simp [h, BitVec.getLsbD_of_ge c k (by omega)]
    rw [steps, rbits_eq c n k, rbits, step_eq, rbit_eq, BitVec.getLsbD_xor, hc, BitVec.ushiftRight_xor_distrib, shr_shr]
    generalize rbits c n k >>> 1 = x
    generalize c.setWidth 32 >>> (k + 1) = y
    generalize rbits c n k = r
    have : (r.getLsbD 0 ^^ c.getLsbD k) = (c.getLsbD k != r.getLsbD 0) := by cases r.getLsbD 0 <;> cases c.getLsbD k <;> rfl
    rw [this, BitVec.xor_assoc, BitVec.xor_assoc]
    congr 1
    exact BitVec.xor_comm _ _
theorem rbyte_eq (n : BitVec 32) (c : BitVec 8) : rbyte n c = more1 n c := by
  rw [← steps_byte, rbits_eq]
  have : (c.setWidth 32) >>> 8 = 0#32 := by
    apply BitVec.eq_of_getLsbD_eq
    intro i hi
    simp [BitVec.getLsbD_of_ge c (8 + i) (by omega)]
  rw [this, BitVec.xor_zero]
  rfl
theorem ones_sub (x : BitVec 32) : 4294967295#32 - x = ~~~ x := by
  apply BitVec.eq_of_toNat_eq
  have := x.isLt
  rw [BitVec.toNat_sub, BitVec.toNat_not]
  simp only [BitVec.toNat_ofNat]
  omega
theorem rsum_eq (b : List (BitVec 8)) : rsum b = sum b := by
  unfold rsum sum more
  rw [ones_sub]
  congr 1
  rw [show (~~~ (0#32)) = 4294967295#32 by decide]
  congr 1
  funext n c
  exact rbyte_eq n c
theorem more_sum (a b : List (BitVec 8)) : more (sum a) b = sum (a ++ b) := by
  unfold sum more
  rw [BitVec.not_not, List.foldl_append]
end Go.Proofs.Ytnjijefhnmnjgaa.Ck
