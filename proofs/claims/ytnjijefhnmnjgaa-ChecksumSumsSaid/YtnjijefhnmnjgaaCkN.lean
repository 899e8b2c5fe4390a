/- Sealed bytes: the chapter's words and the program's are the same; four bytes and back; the sum adds up bit by bit. -/
import Derived.Test.YtnjijefhnmnjgaaCkM
namespace Go.Proofs.Ytnjijefhnmnjgaa.Ck
open Go Go.Va Go.Proofs.Ytnjijefhnmnjgaa.Va
set_option linter.unusedVariables false
set_option linter.unusedSimpArgs false
theorem low8 (n : BitVec 32) : (n % 256#32).setWidth 8 = n.setWidth 8 := by
  apply BitVec.eq_of_toNat_eq
  simp only [BitVec.toNat_setWidth, BitVec.toNat_umod, BitVec.toNat_ofNat]
  show n.toNat % 256 % 256 = n.toNat % 256
  omega
theorem by8 (n : BitVec 32) : n / 256#32 = n >>> 8 := by
  apply BitVec.eq_of_toNat_eq
  rw [BitVec.toNat_udiv, BitVec.toNat_ushiftRight, Nat.shiftRight_eq_div_pow]
  rfl
theorem rfour_eq (n : BitVec 32) : rfour n 4 = four n := by
  simp only [rfour, rdiv, four, low8, by8, List.nil_append, List.cons_append, ← BitVec.shiftRight_add]
theorem seal_eq (b : List (BitVec 8)) : seal_ b = rseal b := by
  rw [seal_, rseal, rfour_eq, rsum_eq]
theorem fits_eq (b : List (BitVec 8)) : fits b = rfits b := by
  unfold fits rfits
  by_cases h : 4 ≤ b.length
  · rw [decide_eq_true h, Bool.true_and, Bool.true_and, decide_eq_decide, ← seal_eq, seal_]
    constructor
    · intro e
      rw [e, List.take_append_drop]
    · intro e
      have := congrArg (List.drop (b.length - 4)) e
      rw [List.drop_append_of_le_length (by simp), List.drop_of_length_le (by simp), List.nil_append] at this
      exact this
  · rw [decide_eq_false h]; rfl
theorem digit (n : BitVec 32) : n = (n.setWidth 8).setWidth 32 + (n >>> 8) * 256#32 := by
  apply BitVec.eq_of_toNat_eq
  have := n.isLt
  rw [BitVec.toNat_add, BitVec.toNat_mul, BitVec.toNat_setWidth, BitVec.toNat_setWidth, BitVec.toNat_ushiftRight, Nat.shiftRight_eq_div_pow]
  show n.toNat = (n.toNat % 256 % 4294967296 + n.toNat / 256 * 256 % 4294967296) % 4294967296
  omega
theorem top (n : BitVec 32) : n >>> 24 = ((n >>> 24).setWidth 8).setWidth 32 := by
  apply BitVec.eq_of_getLsbD_eq
  intro i hi
  simp only [BitVec.getLsbD_setWidth, BitVec.getLsbD_ushiftRight, hi, decide_true, Bool.true_and]
  by_cases h : i < 8
  · simp [h]
  · simp [h, BitVec.getLsbD_of_ge n (24 + i) (by omega)]
theorem four_back (n : BitVec 32) : (n.setWidth 8).setWidth 32 + ((n >>> 8).setWidth 8).setWidth 32 * 256#32 + ((n >>> 16).setWidth 8).setWidth 32 * 65536#32 + ((n >>> 24).setWidth 8).setWidth 32 * 16777216#32 = n := by
  have h1 := digit n
  have h2 := digit (n >>> 8)
  have h3 := digit (n >>> 16)
  rw [← BitVec.shiftRight_add] at h2 h3
  rw [← top n]
  rw [show (65536#32 : BitVec 32) = 256#32 * 256#32 by decide, show (16777216#32 : BitVec 32) = 256#32 * 256#32 * 256#32 by decide]
  generalize (n.setWidth 8).setWidth 32 = a at *
  generalize ((n >>> 8).setWidth 8).setWidth 32 = b at *
  generalize ((n >>> 16).setWidth 8).setWidth 32 = c at *
  generalize n >>> 24 = d at *
  generalize n >>> 16 = e at *
  generalize n >>> 8 = f at *
  rw [h1, h2, h3]
  simp only [BitVec.add_mul, BitVec.mul_assoc, BitVec.add_assoc]
/-! three rows together -/
def xor3 (a b c : List (BitVec 8)) : List (BitVec 8) := (List.zip a (List.zip b c)).map fun p => p.1 ^^^ p.2.1 ^^^ p.2.2
theorem column_xor (x y : BitVec 8) : column (x ^^^ y) = column x ^^^ column y := by
  unfold column
  rw [← steps_xor]
  congr 1
theorem more1_xor (n m : BitVec 32) (x y : BitVec 8) : more1 (n ^^^ m) (x ^^^ y) = more1 n x ^^^ more1 m y := by
  unfold more1
  have e : (n ^^^ m).setWidth 8 ^^^ (x ^^^ y) = (n.setWidth 8 ^^^ x) ^^^ (m.setWidth 8 ^^^ y) := by
    have : (n ^^^ m).setWidth 8 = n.setWidth 8 ^^^ m.setWidth 8 := by
      apply BitVec.eq_of_getLsbD_eq
      intro i hi
      simp [hi]
    rw [this]
    ac_rfl
  rw [e, column_xor, BitVec.ushiftRight_xor_distrib]
  ac_rfl
theorem fold_xor : ∀ (a b c : List (BitVec 8)) (n m k : BitVec 32), a.length = b.length → a.length = c.length → (xor3 a b c).foldl more1 (n ^^^ m ^^^ k) = a.foldl more1 n ^^^ b.foldl more1 m ^^^ c.foldl more1 k
  | [], [], [], n, m, k, _, _ => rfl
  | x :: a, y :: b, z :: c, n, m, k, h1, h2 => by
    have ih := fold_xor a b c (more1 n x) (more1 m y) (more1 k z) (by simpa using h1) (by simpa using h2)
    show (xor3 a b c).foldl more1 (more1 (n ^^^ m ^^^ k) (x ^^^ y ^^^ z)) = _
    rw [more1_xor, more1_xor, ih]
    rfl
  | [], _ :: _, _, _, _, _, h1, _ => by simp at h1
  | [], [], _ :: _, _, _, _, _, h2 => by simp at h2
  | _ :: _, [], _, _, _, _, h1, _ => by simp at h1
  | _ :: _, _ :: _, [], _, _, _, _, h2 => by simp at h2
theorem sum_xor3 (a b c : List (BitVec 8)) (h1 : a.length = b.length) (h2 : a.length = c.length) : sum a ^^^ sum b ^^^ sum c = sum (xor3 a b c) := by
  unfold sum more
  have := fold_xor a b c (~~~ 0#32) (~~~ 0#32) (~~~ 0#32) h1 h2
  rw [show ((~~~ 0#32) ^^^ (~~~ 0#32) ^^^ (~~~ 0#32)) = (~~~ 0#32) by decide] at this
  rw [this]
  generalize List.foldl more1 (~~~ 0#32) a = x
  generalize List.foldl more1 (~~~ 0#32) b = y
  generalize List.foldl more1 (~~~ 0#32) c = z
  apply BitVec.eq_of_getLsbD_eq
  intro i hi
  simp [hi]
end Go.Proofs.Ytnjijefhnmnjgaa.Ck
