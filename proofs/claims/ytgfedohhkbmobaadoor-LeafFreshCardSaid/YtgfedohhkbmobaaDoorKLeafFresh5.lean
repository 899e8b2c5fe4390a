/- A blank page torn by a write is told to be torn, or to have no stamp, or it is that page. (part 5 of 7) -/
import Derived.Test.YtgfedohhkbmobaaDoorKLeafFresh4
namespace Go.Va
open Go
set_option linter.unusedVariables false
set_option linter.unusedSimpArgs false
/-- One bit of a csum. -/
def cstep (n : BitVec 32) : BitVec 32 := if n &&& 1#32 = 1#32 then n >>> 1 ^^^ 3988292384#32 else n >>> 1
def csteps : Nat → BitVec 32 → BitVec 32
  | 0, n => n
  | k + 1, n => cstep (csteps k n)
def ccol (c : BitVec 8) : BitVec 32 := csteps 8 (c.setWidth 32)
def cmore1 (n : BitVec 32) (c : BitVec 8) : BitVec 32 := n >>> 8 ^^^ ccol (n.setWidth 8 ^^^ c)
def cmore (s : BitVec 32) (b : List (BitVec 8)) : BitVec 32 := ~~~ (b.foldl cmore1 (~~~ s))
def csum (b : List (BitVec 8)) : BitVec 32 := cmore 0#32 b
def cfour (n : BitVec 32) : List (BitVec 8) := [n.setWidth 8, (n >>> 8).setWidth 8, (n >>> 16).setWidth 8, (n >>> 24).setWidth 8]
def cseal (b : List (BitVec 8)) : List (BitVec 8) := b ++ cfour (csum b)
def cfits (b : List (BitVec 8)) : Bool := decide (4 ≤ b.length) && decide (cfour (csum (b.take (b.length - 4))) = b.drop (b.length - 4))
/-- One bit, as the document has it. -/
def rbit (c : BitVec 8) (k : Nat) (n : BitVec 32) : BitVec 32 := if (c >>> k).setWidth 32 % 2#32 = n % 2#32 then n / 2#32 else n / 2#32 ^^^ 3988292384#32
def rbits (c : BitVec 8) (n : BitVec 32) : Nat → BitVec 32
  | 0 => n
  | k + 1 => rbit c k (rbits c n k)
def rbyte (n : BitVec 32) (c : BitVec 8) : BitVec 32 := rbits c n 8
def rsum (b : List (BitVec 8)) : BitVec 32 := 4294967295#32 - b.foldl rbyte 4294967295#32
def rdiv (n : BitVec 32) : Nat → BitVec 32
  | 0 => n
  | k + 1 => rdiv n k / 256#32
def rfour (n : BitVec 32) : Nat → List (BitVec 8)
  | 0 => []
  | k + 1 => rfour n k ++ [(rdiv n k % 256#32).setWidth 8]
theorem rfour_len (n : BitVec 32) : ∀ k, (rfour n k).length = k
  | 0 => rfl
  | k + 1 => by simp [rfour, rfour_len n k]
def rseal (b : List (BitVec 8)) : List (BitVec 8) := b ++ rfour (rsum b) 4
def rfits (b : List (BitVec 8)) : Bool := decide (4 ≤ b.length) && decide (rseal (b.take (b.length - 4)) = b)

theorem shr_shr (n : BitVec 32) (k : Nat) : n >>> k >>> 1 = n >>> (k + 1) := by rw [BitVec.shiftRight_add]
theorem crc_and_one (n : BitVec 32) : (n &&& 1#32 = 1#32) ↔ n.getLsbD 0 = true := by
  constructor
  · intro h
    have := congrArg (fun x => x.getLsbD 0) h
    simpa using this
  · intro h
    apply BitVec.eq_of_getLsbD_eq
    intro i hi
    by_cases h0 : i = 0
    · subst h0; simpa using h
    · rw [BitVec.getLsbD_and, BitVec.getLsbD_one]
      simp [h0]
theorem crc_step_eq (n : BitVec 32) : cstep n = n >>> 1 ^^^ (if n.getLsbD 0 = true then 3988292384#32 else 0#32) := by
  unfold cstep
  by_cases h : n.getLsbD 0 = true
  · rw [if_pos ((crc_and_one n).2 h), if_pos h]
  · rw [if_neg (fun hh => h ((crc_and_one n).1 hh)), if_neg h, BitVec.xor_zero]
theorem crc_step_xor (a b : BitVec 32) : cstep (a ^^^ b) = cstep a ^^^ cstep b := by
  rw [crc_step_eq, crc_step_eq, crc_step_eq, BitVec.getLsbD_xor, BitVec.ushiftRight_xor_distrib]
  generalize a >>> 1 = x
  generalize b >>> 1 = y
  cases a.getLsbD 0 <;> cases b.getLsbD 0
  · simp
  · simp [BitVec.xor_assoc]
  · simp only [Bool.xor_false, if_true, Bool.false_eq_true, if_false, BitVec.xor_zero]
    rw [BitVec.xor_assoc, BitVec.xor_comm y, BitVec.xor_assoc]
  · simp only [Bool.xor_self, if_true, Bool.false_eq_true, if_false, BitVec.xor_zero]
    rw [BitVec.xor_assoc, ← BitVec.xor_assoc (3988292384#32), BitVec.xor_comm (3988292384#32) y, BitVec.xor_assoc y, BitVec.xor_self, BitVec.xor_zero]
theorem crc_steps_xor (a b : BitVec 32) : ∀ k, csteps k (a ^^^ b) = csteps k a ^^^ csteps k b
  | 0 => rfl
  | k + 1 => by rw [csteps, crc_steps_xor a b k, crc_step_xor]; rfl
theorem crc_step_even (n : BitVec 32) (h : n.getLsbD 0 = false) : cstep n = n >>> 1 := by
  rw [crc_step_eq, h]; simp
theorem crc_steps_even (z : BitVec 32) : ∀ k, (∀ i, i < k → z.getLsbD i = false) → csteps k z = z >>> k
  | 0, _ => by simp [csteps]
  | k + 1, h => by
    rw [csteps, crc_steps_even z k (fun i hi => h i (by omega)), crc_step_even _ (by rw [BitVec.getLsbD_ushiftRight]; exact h _ (by omega)), shr_shr]
theorem crc_steps_byte (n : BitVec 32) (c : BitVec 8) : csteps 8 (n ^^^ c.setWidth 32) = cmore1 n c := by
  have h : n ^^^ c.setWidth 32 = (n >>> 8) <<< 8 ^^^ (n.setWidth 8 ^^^ c).setWidth 32 := by
    apply BitVec.eq_of_getLsbD_eq
    intro i hi
    simp only [BitVec.getLsbD_xor, BitVec.getLsbD_shiftLeft, BitVec.getLsbD_ushiftRight, BitVec.getLsbD_setWidth]
    by_cases h8 : i < 8
    · simp [h8, hi]
    · have e : 8 + (i - 8) = i := by omega
      simp [h8, hi, e, BitVec.getLsbD_of_ge c i (by omega)]
  rw [h, crc_steps_xor, crc_steps_even]
  · unfold cmore1 ccol
    congr 1
    apply BitVec.eq_of_getLsbD_eq
    intro i hi
    simp only [BitVec.getLsbD_shiftLeft, BitVec.getLsbD_ushiftRight]
    by_cases h32 : 8 + i < 32
    · simp [h32]
    · simp [h32, BitVec.getLsbD_of_ge n (8 + i) (by omega)]
  · intro i hi
    simp [BitVec.getLsbD_shiftLeft, hi]
theorem chalf (n : BitVec 32) : n / 2#32 = n >>> 1 := by
  apply BitVec.eq_of_toNat_eq
  rw [BitVec.toNat_udiv, BitVec.toNat_ushiftRight, Nat.shiftRight_eq_div_pow]
  rfl
theorem clow (n m : BitVec 32) : n % 2#32 = m % 2#32 ↔ n.getLsbD 0 = m.getLsbD 0 := by
  have e (x : BitVec 32) : x.getLsbD 0 = decide (x.toNat % 2 = 1) := by
    rw [BitVec.getLsbD, Nat.testBit_zero]
  rw [e, e]
  constructor
  · intro h
    have := congrArg BitVec.toNat h
    simp only [BitVec.toNat_umod, BitVec.toNat_ofNat] at this
    have h2 : n.toNat % 2 = m.toNat % 2 := this
    rw [h2]
  · intro h
    apply BitVec.eq_of_toNat_eq
    simp only [BitVec.toNat_umod, BitVec.toNat_ofNat]
    show n.toNat % 2 = m.toNat % 2
    rw [decide_eq_decide] at h
    omega
/-- One bit, as a cstep. -/
theorem rbit_eq (c : BitVec 8) (k : Nat) (n : BitVec 32) : rbit c k n = n >>> 1 ^^^ (if (c.getLsbD k != n.getLsbD 0) = true then 3988292384#32 else 0#32) := by
  unfold rbit
  have hb : ((c >>> k).setWidth 32).getLsbD 0 = c.getLsbD k := by
    simp
    intro h
    rcases Nat.lt_or_ge k 32 with h1 | h1
    · exact h1
    · rw [BitVec.getLsbD_of_ge c k (by omega)] at h; cases h
  by_cases h : c.getLsbD k = n.getLsbD 0
  · rw [if_pos ((clow _ _).2 (by rw [hb]; exact h)), chalf, h]
    simp
  · rw [if_neg (fun hh => h (by rw [← hb]; exact (clow _ _).1 hh)), chalf]
    have : (c.getLsbD k != n.getLsbD 0) = true := by simpa using h
    rw [this]; simp
theorem rbits_eq (c : BitVec 8) (n : BitVec 32) : ∀ k, csteps k (n ^^^ c.setWidth 32) = rbits c n k ^^^ (c.setWidth 32) >>> k
  | 0 => by simp [csteps, rbits]
  | k + 1 => by
    have hc : (c.setWidth 32 >>> k).getLsbD 0 = c.getLsbD k := by
      simp only [BitVec.getLsbD_ushiftRight, BitVec.getLsbD_setWidth, Nat.add_zero]
      by_cases h : k < 32
      · simp [h]
      · simp [h, BitVec.getLsbD_of_ge c k (by omega)]
    rw [csteps, rbits_eq c n k, rbits, crc_step_eq, rbit_eq, BitVec.getLsbD_xor, hc, BitVec.ushiftRight_xor_distrib, shr_shr]
    generalize rbits c n k >>> 1 = x
    generalize c.setWidth 32 >>> (k + 1) = y
    generalize rbits c n k = r
    have : (r.getLsbD 0 ^^ c.getLsbD k) = (c.getLsbD k != r.getLsbD 0) := by cases r.getLsbD 0 <;> cases c.getLsbD k <;> rfl
    rw [this, BitVec.xor_assoc, BitVec.xor_assoc]
    congr 1
    exact BitVec.xor_comm _ _
theorem rbyte_eq (n : BitVec 32) (c : BitVec 8) : rbyte n c = cmore1 n c := by
  rw [← crc_steps_byte, rbits_eq]
  have : (c.setWidth 32) >>> 8 = 0#32 := by
    apply BitVec.eq_of_getLsbD_eq
    intro i hi
    simp [BitVec.getLsbD_of_ge c (8 + i) (by omega)]
  rw [this, BitVec.xor_zero]
  rfl
theorem ones_sub (x : BitVec 32) : 4294967295#32 - x = ~~~ x := by
  apply BitVec.eq_of_toNat_eq
  have := x.isLt
  rw [BitVec.toNat_sub, BitVec.toNat_not]
  simp only [BitVec.toNat_ofNat]
  omega
theorem rsum_eq (b : List (BitVec 8)) : rsum b = csum b := by
  unfold rsum csum cmore
  rw [ones_sub]
  congr 1
  rw [show (~~~ (0#32)) = 4294967295#32 by decide]
  congr 1
  funext n c
  exact rbyte_eq n c
theorem crc_more_sum (a b : List (BitVec 8)) : cmore (csum a) b = csum (a ++ b) := by
  unfold csum cmore
  rw [BitVec.not_not, List.foldl_append]
theorem low8 (n : BitVec 32) : (n % 256#32).setWidth 8 = n.setWidth 8 := by
  apply BitVec.eq_of_toNat_eq
  simp only [BitVec.toNat_setWidth, BitVec.toNat_umod, BitVec.toNat_ofNat]
  show n.toNat % 256 % 256 = n.toNat % 256
  omega
theorem by8 (n : BitVec 32) : n / 256#32 = n >>> 8 := by
  apply BitVec.eq_of_toNat_eq
  rw [BitVec.toNat_udiv, BitVec.toNat_ushiftRight, Nat.shiftRight_eq_div_pow]
  rfl
theorem rfour_eq (n : BitVec 32) : rfour n 4 = cfour n := by
  simp only [rfour, rdiv, cfour, low8, by8, List.nil_append, List.cons_append, ← BitVec.shiftRight_add]
theorem crc_seal_eq (b : List (BitVec 8)) : cseal b = rseal b := by
  rw [cseal, rseal, rfour_eq, rsum_eq]
theorem crc_fits_eq (b : List (BitVec 8)) : cfits b = rfits b := by
  unfold cfits rfits
  by_cases h : 4 ≤ b.length
  · rw [decide_eq_true h, Bool.true_and, Bool.true_and, decide_eq_decide, ← crc_seal_eq, cseal]
    constructor
    · intro e
      rw [e, List.take_append_drop]
    · intro e
      have := congrArg (List.drop (b.length - 4)) e
      rw [List.drop_append_of_le_length (by simp), List.drop_of_length_le (by simp), List.nil_append] at this
      exact this
  · rw [decide_eq_false h]; rfl
theorem cdigit (n : BitVec 32) : n = (n.setWidth 8).setWidth 32 + (n >>> 8) * 256#32 := by
  apply BitVec.eq_of_toNat_eq
  have := n.isLt
  rw [BitVec.toNat_add, BitVec.toNat_mul, BitVec.toNat_setWidth, BitVec.toNat_setWidth, BitVec.toNat_ushiftRight, Nat.shiftRight_eq_div_pow]
  show n.toNat = (n.toNat % 256 % 4294967296 + n.toNat / 256 * 256 % 4294967296) % 4294967296
  omega
theorem ctop (n : BitVec 32) : n >>> 24 = ((n >>> 24).setWidth 8).setWidth 32 := by
  apply BitVec.eq_of_getLsbD_eq
  intro i hi
  simp only [BitVec.getLsbD_setWidth, BitVec.getLsbD_ushiftRight, hi, decide_true, Bool.true_and]
  by_cases h : i < 8
  · simp [h]
  · simp [h, BitVec.getLsbD_of_ge n (24 + i) (by omega)]
theorem crc_four_back (n : BitVec 32) : (n.setWidth 8).setWidth 32 + ((n >>> 8).setWidth 8).setWidth 32 * 256#32 + ((n >>> 16).setWidth 8).setWidth 32 * 65536#32 + ((n >>> 24).setWidth 8).setWidth 32 * 16777216#32 = n := by
  have h1 := cdigit n
  have h2 := cdigit (n >>> 8)
  have h3 := cdigit (n >>> 16)
  rw [← BitVec.shiftRight_add] at h2 h3
  rw [← ctop n]
  rw [show (65536#32 : BitVec 32) = 256#32 * 256#32 by decide, show (16777216#32 : BitVec 32) = 256#32 * 256#32 * 256#32 by decide]
  generalize (n.setWidth 8).setWidth 32 = a at *
  generalize ((n >>> 8).setWidth 8).setWidth 32 = b at *
  generalize ((n >>> 16).setWidth 8).setWidth 32 = c at *
  generalize n >>> 24 = d at *
  generalize n >>> 16 = e at *
  generalize n >>> 8 = f at *
  rw [h1, h2, h3]
  simp only [BitVec.add_mul, BitVec.mul_assoc, BitVec.add_assoc]
/-! three rows together -/
def xor3 (a b c : List (BitVec 8)) : List (BitVec 8) := (List.zip a (List.zip b c)).map fun p => p.1 ^^^ p.2.1 ^^^ p.2.2
theorem crc_column_xor (x y : BitVec 8) : ccol (x ^^^ y) = ccol x ^^^ ccol y := by
  unfold ccol
  rw [← crc_steps_xor]
  congr 1
theorem crc_more1_xor (n m : BitVec 32) (x y : BitVec 8) : cmore1 (n ^^^ m) (x ^^^ y) = cmore1 n x ^^^ cmore1 m y := by
  unfold cmore1
  have e : (n ^^^ m).setWidth 8 ^^^ (x ^^^ y) = (n.setWidth 8 ^^^ x) ^^^ (m.setWidth 8 ^^^ y) := by
    have : (n ^^^ m).setWidth 8 = n.setWidth 8 ^^^ m.setWidth 8 := by
      apply BitVec.eq_of_getLsbD_eq
      intro i hi
      simp [hi]
    rw [this]
    ac_rfl
  rw [e, crc_column_xor, BitVec.ushiftRight_xor_distrib]
  ac_rfl
theorem crc_fold_xor : ∀ (a b c : List (BitVec 8)) (n m k : BitVec 32), a.length = b.length → a.length = c.length → (xor3 a b c).foldl cmore1 (n ^^^ m ^^^ k) = a.foldl cmore1 n ^^^ b.foldl cmore1 m ^^^ c.foldl cmore1 k
  | [], [], [], n, m, k, _, _ => rfl
  | x :: a, y :: b, z :: c, n, m, k, h1, h2 => by
    have ih := crc_fold_xor a b c (cmore1 n x) (cmore1 m y) (cmore1 k z) (by simpa using h1) (by simpa using h2)
    show (xor3 a b c).foldl cmore1 (cmore1 (n ^^^ m ^^^ k) (x ^^^ y ^^^ z)) = _
    rw [crc_more1_xor, crc_more1_xor, ih]
    rfl
  | [], _ :: _, _, _, _, _, h1, _ => by simp at h1
  | [], [], _ :: _, _, _, _, _, h2 => by simp at h2
  | _ :: _, [], _, _, _, _, h1, _ => by simp at h1
  | _ :: _, _ :: _, [], _, _, _, _, h2 => by simp at h2
theorem crc_sum_xor3 (a b c : List (BitVec 8)) (h1 : a.length = b.length) (h2 : a.length = c.length) : csum a ^^^ csum b ^^^ csum c = csum (xor3 a b c) := by
  unfold csum cmore
  have := crc_fold_xor a b c (~~~ 0#32) (~~~ 0#32) (~~~ 0#32) h1 h2
  rw [show ((~~~ 0#32) ^^^ (~~~ 0#32) ^^^ (~~~ 0#32)) = (~~~ 0#32) by decide] at this
  rw [this]
  generalize List.foldl cmore1 (~~~ 0#32) a = x
  generalize List.foldl cmore1 (~~~ 0#32) b = y
  generalize List.foldl cmore1 (~~~ 0#32) c = z
  apply BitVec.eq_of_getLsbD_eq
  intro i hi
  simp [hi]

/-! ### bit by bit; bits side by side that are turned -/
def bstep (n : BitVec 32) (b : Bool) : BitVec 32 := cstep (n ^^^ (if b = true then 1#32 else 0#32))
theorem shift_split (z : BitVec 32) (k : Nat) : z >>> k = (if z.getLsbD k = true then 1#32 else 0#32) ^^^ (z >>> (k + 1)) <<< 1 := by
  apply BitVec.eq_of_getLsbD_eq
  intro i hi
  simp only [BitVec.getLsbD_xor, BitVec.getLsbD_ushiftRight, BitVec.getLsbD_shiftLeft]
  by_cases h0 : i = 0
  · subst h0
    cases z.getLsbD k <;> simp
  · have e : k + 1 + (i - 1) = k + i := by omega
    have h1 : ¬ i < 1 := by omega
    rw [e]
    have : ((if z.getLsbD k = true then 1#32 else 0#32) : BitVec 32).getLsbD i = false := by
      split <;> simp [BitVec.getLsbD_one, h0]
    rw [this]
    simp [h1, hi]
theorem csteps_bits (n z : BitVec 32) : ∀ k, csteps k (n ^^^ z) = ((List.range k).map z.getLsbD).foldl bstep n ^^^ z >>> k
  | 0 => by simp [csteps]
  | k + 1 => by
    rw [csteps, csteps_bits n z k, List.range_succ, List.map_append, List.foldl_append]
    simp only [List.map_cons, List.map_nil, List.foldl_cons, List.foldl_nil]
    generalize ((List.range k).map z.getLsbD).foldl bstep n = f
    rw [shift_split z k, ← BitVec.xor_assoc, crc_step_xor]
    unfold bstep
    congr 1
    rw [crc_step_even _ (by simp [BitVec.getLsbD_shiftLeft])]
    apply BitVec.eq_of_getLsbD_eq
    intro i hi
    simp only [BitVec.getLsbD_ushiftRight, BitVec.getLsbD_shiftLeft]
    by_cases h : 1 + i < 32
    · have e : 1 + i - 1 = i := by omega
      have h1 : ¬ (1 + i < 1) := by omega
      simp [h, e, h1]
    · have : i = 31 := by omega
      subst this
      simp [BitVec.getLsbD_of_ge z (k + 1 + 31) (by omega)]
def bits8 (c : BitVec 8) : List Bool := (List.range 8).map c.getLsbD
def bits32 (w : BitVec 32) : List Bool := (List.range 32).map w.getLsbD
theorem more1_bits (n : BitVec 32) (c : BitVec 8) : cmore1 n c = (bits8 c).foldl bstep n := by
  rw [← crc_steps_byte, csteps_bits]
  have : (c.setWidth 32) >>> 8 = 0#32 := by
    apply BitVec.eq_of_getLsbD_eq
    intro i hi
    simp [BitVec.getLsbD_of_ge c (8 + i) (by omega)]
  rw [this, BitVec.xor_zero]
  have e : (List.range 8).map (c.setWidth 32 : BitVec 32).getLsbD = bits8 c := by
    unfold bits8
    apply List.map_congr_left
    intro i hi
    have : i < 8 := by simpa using hi
    simp [show i < 32 by omega]
  rw [e]
theorem word_bits (n w : BitVec 32) : csteps 32 (n ^^^ w) = (bits32 w).foldl bstep n := by
  rw [csteps_bits]
  have : w >>> 32 = 0#32 := by
    apply BitVec.eq_of_getLsbD_eq
    intro i hi
    simp [BitVec.getLsbD_of_ge w (32 + i) (by omega)]
  rw [this, BitVec.xor_zero]; rfl
theorem fold_bits : ∀ (b : List (BitVec 8)) (n : BitVec 32), b.foldl cmore1 n = (b.flatMap bits8).foldl bstep n
  | [], n => rfl
  | c :: b, n => by
    rw [List.foldl_cons, fold_bits b, List.flatMap_cons, List.foldl_append, more1_bits]
theorem four_bits (n : BitVec 32) : (cfour n).flatMap bits8 = bits32 n := by
  unfold cfour bits32 bits8
  simp only [List.flatMap_cons, List.flatMap_nil, List.append_nil]
  rw [show List.range 32 = List.range 8 ++ ((List.range 8).map (8 + ·) ++ ((List.range 8).map (16 + ·) ++ (List.range 8).map (24 + ·))) from by decide]
  simp only [List.map_append, List.map_map]
  have key : ∀ k : Nat, ((List.range 8).map ((n >>> k).setWidth 8 : BitVec 8).getLsbD) = (List.range 8).map (n.getLsbD ∘ (k + ·)) := by
    intro k
    apply List.map_congr_left
    intro i hi
    have : i < 8 := by simpa using hi
    simp [this]
  have k0 : ((List.range 8).map (n.setWidth 8 : BitVec 8).getLsbD) = (List.range 8).map n.getLsbD := by
    apply List.map_congr_left
    intro i hi
    have : i < 8 := by simpa using hi
    simp [this]
  rw [k0, key 8, key 16, key 24]
theorem bstep_xor (n m : BitVec 32) (a b : Bool) : bstep (n ^^^ m) (a ^^ b) = bstep n a ^^^ bstep m b := by
  unfold bstep
  rw [← crc_step_xor]
  congr 1
  cases a <;> cases b <;> simp only [Bool.xor_false, Bool.false_xor, Bool.xor_self, Bool.xor_true, Bool.not_false, if_true, Bool.false_eq_true, if_false, BitVec.xor_zero]
  all_goals first
    | ac_rfl
    | rw [BitVec.xor_assoc n 1#32, ← BitVec.xor_assoc 1#32 m, BitVec.xor_comm 1#32 m, BitVec.xor_assoc m, BitVec.xor_self, BitVec.xor_zero]
theorem bfold_xor : ∀ (a b : List Bool) (n m : BitVec 32), a.length = b.length → (List.zipWith (· ^^ ·) a b).foldl bstep (n ^^^ m) = a.foldl bstep n ^^^ b.foldl bstep m
  | [], [], _, _, _ => rfl
  | x :: a, y :: b, n, m, h => by
    simp only [List.zipWith_cons_cons, List.foldl_cons, bstep_xor]
    exact bfold_xor a b _ _ (by simpa using h)
  | [], _ :: _, _, _, h => by simp at h
  | _ :: _, [], _, _, h => by simp at h
theorem cstep_inj {n : BitVec 32} (h : cstep n = 0#32) : n = 0#32 := by
  rw [crc_step_eq] at h
  by_cases h0 : n.getLsbD 0 = true
  · rw [if_pos h0] at h
    have := congrArg (fun x => x.getLsbD 31) h
    simp [BitVec.getLsbD_of_ge n 32 (by omega)] at this
  · rw [if_neg h0, BitVec.xor_zero] at h
    apply BitVec.eq_of_getLsbD_eq
    intro i hi
    rcases Nat.eq_zero_or_pos i with hz | hz
    · subst hz; simpa using h0
    · have := congrArg (fun x => x.getLsbD (i - 1)) h
      simp only [BitVec.getLsbD_ushiftRight] at this
      rw [show 1 + (i - 1) = i by omega] at this
      simpa using this
theorem csteps_inj : ∀ {k : Nat} {n : BitVec 32}, csteps k n = 0#32 → n = 0#32
  | 0, n, h => h
  | k + 1, n, h => csteps_inj (k := k) (cstep_inj h)
theorem bfold_zeros (n : BitVec 32) : ∀ k, (List.replicate k false).foldl bstep n = csteps k n := by
  have key : ∀ k (n : BitVec 32), csteps k (cstep n) = cstep (csteps k n) := by
    intro k
    induction k with
    | zero => intro n; rfl
    | succ k ih => intro n; rw [csteps, ih, csteps]
  intro k
  induction k generalizing n with
  | zero => rfl
  | succ k ih =>
    rw [List.replicate_succ, List.foldl_cons, ih, csteps, ← key]
    simp [bstep]
theorem csteps_zero : ∀ k, csteps k 0#32 = 0#32
  | 0 => rfl
  | k + 1 => by rw [csteps, csteps_zero k]; rfl
/-- Bits side by side that are turned are seen. -/
theorem burst {k m : Nat} {w : BitVec 32} (h : (List.replicate k false ++ (bits32 w ++ List.replicate m false)).foldl bstep 0#32 = 0#32) : w = 0#32 := by
  rw [List.foldl_append, List.foldl_append, bfold_zeros 0#32 k, csteps_zero, ← word_bits, bfold_zeros, BitVec.zero_xor] at h
  exact csteps_inj (csteps_inj h)
/-- What bytes with their sum behind come to. -/
theorem sealed_fold (b : List (BitVec 8)) : (b ++ cfour (csum b)).foldl cmore1 (~~~ 0#32) = csteps 32 (~~~ 0#32) := by
  rw [List.foldl_append, fold_bits (cfour _), four_bits, ← word_bits]
  congr 1
  unfold csum cmore
  generalize b.foldl cmore1 (~~~ 0#32) = x
  apply BitVec.eq_of_getLsbD_eq
  intro i hi
  simp only [BitVec.getLsbD_xor, BitVec.getLsbD_not, hi, decide_true, Bool.true_and, BitVec.getLsbD_zero]
  cases x.getLsbD i <;> rfl
theorem fits_fold {s : List (BitVec 8)} (h : cfits s = true) : s.foldl cmore1 (~~~ 0#32) = csteps 32 (~~~ 0#32) := by
  unfold cfits at h
  simp only [Bool.and_eq_true, decide_eq_true_eq] at h
  have : s = s.take (s.length - 4) ++ cfour (csum (s.take (s.length - 4))) := by rw [h.2, List.take_append_drop]
  rw [this]
  exact sealed_fold _
def bitAt (s : List (BitVec 8)) (p : Nat) : Bool := (s.getD (p / 8) 0#8).getLsbD (p % 8)
theorem bits_at : ∀ (s : List (BitVec 8)), s.flatMap bits8 = (List.range (8 * s.length)).map (bitAt s)
  | [] => rfl
  | c :: s => by
    rw [List.flatMap_cons, bits_at s, List.length_cons, show 8 * (s.length + 1) = 8 + 8 * s.length by omega, List.range_add, List.map_append, List.map_map]
    have e1 : bits8 c = (List.range 8).map (bitAt (c :: s)) := by
      unfold bits8
      apply List.map_congr_left
      intro i hi
      have : i < 8 := by simpa using hi
      simp [bitAt, Nat.div_eq_of_lt this, Nat.mod_eq_of_lt this]
    have e2 : (List.range (8 * s.length)).map (bitAt s) = (List.range (8 * s.length)).map (bitAt (c :: s) ∘ fun x => 8 + x) := by
      apply List.map_congr_left
      intro i hi
      simp only [bitAt, Function.comp]
      rw [show (8 + i) / 8 = i / 8 + 1 by omega, show (8 + i) % 8 = i % 8 by omega]
      rfl
    rw [e1, e2]
def turned (k : Nat) (w : BitVec 32) (p : Nat) : Bool := decide (k ≤ p ∧ p < k + 32) && w.getLsbD (p - k)
theorem turned_list {k n : Nat} (w : BitVec 32) (h : k + 32 ≤ n) : (List.range n).map (turned k w) = List.replicate k false ++ (bits32 w ++ List.replicate (n - k - 32) false) := by
  apply List.ext_getElem?
  intro i
  simp only [List.getElem?_map, List.getElem?_append, List.getElem?_replicate, List.length_replicate, bits32, List.length_map, List.length_range]
  by_cases h1 : i < k
  · rw [if_pos h1, List.getElem?_range (by omega)]
    simp [turned, h1, show ¬ k ≤ i by omega]
  · rw [if_neg h1]
    by_cases h2 : i - k < 32
    · rw [if_pos h2, List.getElem?_range (by omega), List.getElem?_range h2]
      simp [turned, show k ≤ i by omega, show i < k + 32 by omega]
    · rw [if_neg h2]
      by_cases h3 : i < n
      · rw [List.getElem?_range h3, if_pos (by omega)]
        simp [turned, show ¬ i < k + 32 by omega]
      · rw [if_neg (by omega), List.getElem?_eq_none (by simp; omega)]; rfl
/-- Spoilt bytes are told. -/
theorem tells {s t : List (BitVec 8)} {k : Nat} {w : BitVec 32} (hw : w ≠ 0#32) (hl : t.length = s.length) (hk : k + 32 ≤ 8 * s.length) (hs : cfits s = true) (ht : ∀ p, p < 8 * s.length → bitAt t p = (bitAt s p ^^ turned k w p)) : cfits t = false := by
  cases hf : cfits t with
  | false => rfl
  | true =>
    exfalso
    apply hw
    have e1 := fits_fold hs
    have e2 := fits_fold hf
    rw [fold_bits, bits_at] at e1 e2
    rw [hl] at e2
    have e3 : (List.range (8 * s.length)).map (bitAt t) = List.zipWith (· ^^ ·) ((List.range (8 * s.length)).map (bitAt s)) ((List.range (8 * s.length)).map (turned k w)) := by
      rw [List.zipWith_map, List.zipWith_self]
      exact List.map_congr_left (fun p hp => ht p (by simpa using hp))
    have e4 := bfold_xor ((List.range (8 * s.length)).map (bitAt s)) ((List.range (8 * s.length)).map (turned k w)) (~~~ 0#32) 0#32 (by simp)
    rw [← e3, BitVec.xor_zero, e1, e2] at e4
    have e5 : ((List.range (8 * s.length)).map (turned k w)).foldl bstep 0#32 = 0#32 := by
      generalize ((List.range (8 * s.length)).map (turned k w)).foldl bstep 0#32 = x at e4
      generalize csteps 32 (~~~ 0#32) = r at e4
      have := congrArg (r ^^^ ·) e4
      simp only [BitVec.xor_self, ← BitVec.xor_assoc, BitVec.zero_xor] at this
      exact this.symm
    rw [turned_list w hk] at e5
    exact burst e5
end Go.Va
namespace Go.Proofs.YtgfedohhkbmobaaDoor
open Go Go.Va
set_option linter.unusedVariables false
set_option linter.unusedSimpArgs false
theorem column_eq (c : BitVec 8) : checksum_column c = some (ccol c) := by
  have k := loopO_up (body := fun s => checksum_column_b0 s.1 s.2) (fun i : Nat => (csteps i (c.setWidth 32), (i : Int))) 8 (x := ccol c) (fun i hi => by
    simp only [checksum_column_b0, lt_eq]
    rw [if_pos (decide_eq_true (by omega)), w64_nat (by omega)]
    rw [show csteps (i + 1) (c.setWidth 32) = cstep (csteps i (c.setWidth 32)) from rfl]
    unfold cstep
    by_cases h : csteps i (c.setWidth 32) &&& 1#32 = 1#32
    · rw [if_pos (by simpa using h), if_pos h]
    · rw [if_neg (by simpa using h), if_neg h]) (by
    simp only [checksum_column_b0, lt_eq]
    rw [if_neg (by simp)]
    rfl)
  have k' : checksum_column_l0 (c.setWidth 32, 0) = some (ccol c) := k
  unfold checksum_column
  simp only [lt_eq, k', Option.bind_some]
theorem more_eq (n : BitVec 32) {b : List (BitVec 8)} (hb : b.length ≤ 1000000000) : checksum_More n b = some (cmore n b) := by
  have k := loopO_up (body := fun s => checksum_More_b0 b (b.length : Int) s.1 s.2) (fun i : Nat => ((b.take i).foldl cmore1 (~~~ n), (i : Int))) b.length (x := b.foldl cmore1 (~~~ n)) (fun i hi => by
    simp only [checksum_More_b0, lt_eq]
    rw [if_pos (decide_eq_true (by omega)), ix_nat hi]
    simp only [Option.bind_some, column_eq]
    rw [w64_nat (by omega), List.take_add_one, List.getElem?_eq_getElem hi, List.foldl_append]
    rfl) (by
    simp only [checksum_More_b0, lt_eq, List.take_length]
    rw [if_neg (by rw [decide_eq_false (by omega)]; simp)])
  have k' : checksum_More_l0 b (b.length : Int) (~~~ n, 0) = some (b.foldl cmore1 (~~~ n)) := k
  unfold checksum_More
  simp only [lt_eq, k', Option.bind_some]
  rfl
theorem sum_eq {b : List (BitVec 8)} (hb : b.length ≤ 1000000000) : checksum_Sum b = some (csum b) := by
  unfold checksum_Sum
  simp only [more_eq _ hb, Option.bind_some]
  rfl
theorem four_eq (n : BitVec 32) : checksum_Four n = some (cfour n) := by
  unfold checksum_Four
  simp only [lt_eq]
  rw [stW_eq (by simp) (by simp)]
  rfl
theorem cfour_len (n : BitVec 32) : (cfour n).length = 4 := rfl
theorem cseal_len (b : List (BitVec 8)) : (cseal b).length = b.length + 4 := by simp [cseal, cfour_len]
theorem seal_eq {b : List (BitVec 8)} (hb : b.length ≤ 1000000000) : checksum_Seal b = some (cseal b) := by
  unfold checksum_Seal
  simp only [sum_eq hb, four_eq, Option.bind_some]
  rw [stW_eq (by simp) (cfour_len _)]
  simp only [Option.bind_some]
  rw [app_eq (by simp; omega), whole_eq (cfour_len _)]
  simp only [Option.bind_some, List.nil_append]
  rw [app_eq (by simp [cfour_len]; omega)]
  rfl
theorem fits_eq {b : List (BitVec 8)} (hb : b.length ≤ 1000000000) : checksum_Fits b = some (cfits b) := by
  unfold checksum_Fits cfits
  simp only [lt_eq]
  rw [w64_eq (by omega) (by omega)]
  by_cases h : 4 ≤ b.length
  · rw [if_neg (by rw [decide_eq_false (by omega)]; simp), show (b.length : Int) - 4 = ((b.length - 4 : Nat) : Int) by omega, cutTo_eq (by omega), cutFrom_eq (by omega)]
    simp only [Option.bind_some]
    rw [sum_eq (by rw [List.length_take]; omega)]
    simp only [Option.bind_some, four_eq]
    rw [show (4 : Int) = ((4 : Nat) : Int) from rfl, cutTo_eq (by rw [List.length_drop]; omega)]
    have hl : ((b.drop (b.length - 4)).take 4).length = 4 := by rw [List.length_take, List.length_drop]; omega
    simp only [Option.bind_some]
    rw [whole_eq hl]
    simp only [Option.bind_some]
    rw [eqA_eq (cfour_len _) hl]
    have ht : (b.drop (b.length - 4)).take 4 = b.drop (b.length - 4) := List.take_of_length_le (by rw [List.length_drop]; omega)
    rw [ht]
    simp only [Option.bind_some, decide_eq_true h, Bool.true_and]
    congr 1
    exact Bool.eq_iff_iff.2 (by simp)
  · rw [if_pos (decide_eq_true (by omega)), decide_eq_false h]
    rfl
theorem cseal_fits (b : List (BitVec 8)) : cfits (cseal b) = true := by
  unfold cfits
  rw [cseal_len, decide_eq_true (by omega), show b.length + 4 - 4 = b.length by omega]
  unfold cseal
  rw [List.take_left, List.drop_left]
  simp
end Go.Proofs.YtgfedohhkbmobaaDoor
namespace Go.Va
open Go
set_option linter.unusedVariables false
set_option linter.unusedSimpArgs false
theorem shr64_nat {n m : Nat} (h : m ≤ 64) : shr64 (n : Int) m = ((n / 2 ^ m : Nat) : Int) := by
  unfold shr64
  rw [Nat.min_eq_left h]
  have : (2 : Int) ^ m = ((2 ^ m : Nat) : Int) := by simp
  rw [this, Int.fdiv_eq_ediv_of_nonneg _ (Int.natCast_nonneg _), ← Int.natCast_ediv]
theorem quo64_nat {n m : Nat} (h : n < 9223372036854775808) : quo64 (n : Int) (m : Int) = ((n / m : Nat) : Int) := by
  unfold quo64
  have := Nat.div_le_self n m
  rw [Int.tdiv_eq_ediv_of_nonneg (Int.natCast_nonneg _), ← Int.natCast_ediv]
  generalize n / m = q at *
  exact w64_eq (by omega) (by omega)
theorem tmod_nat (n m : Nat) : Int.tmod (n : Int) (m : Int) = ((n % m : Nat) : Int) := by
  rw [Int.tmod_eq_emod_of_nonneg (Int.natCast_nonneg _)]; rfl
theorem or_low (a b : Nat) (h : b < 128) : a * 128 ||| b = a * 128 + b := by
  have := Nat.two_pow_add_eq_or_of_lt (i := 7) (b := b) (by omega) a
  rw [show 2 ^ 7 * a + b = a * 128 + b by omega, show 2 ^ 7 * a = a * 128 by omega] at this
  exact this.symm
theorem or64_nat {a b : Nat} (ha : a < 9223372036854775808) (hb : b < 9223372036854775808) : or64 (a : Int) (b : Int) = ((a ||| b : Nat) : Int) := by
  have h : a ||| b < 2 ^ 63 := Nat.or_lt_two_pow (by omega) (by omega)
  show w64 ((BitVec.ofInt 64 (a : Int) ||| BitVec.ofInt 64 (b : Int) : BitVec 64).toNat : Int) = _
  rw [BitVec.toNat_or, BitVec.toNat_ofInt, BitVec.toNat_ofInt]
  have e1 : ((a : Int) % ((2 ^ 64 : Nat) : Int)).toNat = a := by omega
  have e2 : ((b : Int) % ((2 ^ 64 : Nat) : Int)).toNat = b := by omega
  rw [e1, e2, w64_eq (by omega) (by omega)]
theorem shl64_7 {a : Nat} (ha : a < 72057594037927936) : shl64 (a : Int) 7 = ((a * 128 : Nat) : Int) := by
  unfold shl64
  rw [w64_eq] <;> simp <;> omega
theorem or64_7 {a b : Nat} (ha : a < 72057594037927936) (hb : b < 128) : or64 (shl64 (a : Int) 7) (b : Int) = ((a * 128 + b : Nat) : Int) := by
  rw [shl64_7 ha, or64_nat (by omega) (by omega), or_low a b hb]
theorem byte_and (x : BitVec 8) : (x &&& 127#8).toNat = x.toNat % 128 := by
  rw [BitVec.toNat_and, show (127#8).toNat = 2 ^ 7 - 1 from rfl, Nat.and_two_pow_sub_one_eq_mod]
theorem byte_or (x : BitVec 8) : x ||| 128#8 = BitVec.ofNat 8 (x.toNat % 128 + 128) := by
  have : ∀ y : Fin 256, (BitVec.ofFin y : BitVec 8) ||| 128#8 = BitVec.ofNat 8 ((BitVec.ofFin y : BitVec 8).toNat % 128 + 128) := by decide +kernel
  exact this x.toFin
theorem byte_and' (x : BitVec 8) : x &&& 127#8 = BitVec.ofNat 8 (x.toNat % 128) := by
  apply BitVec.eq_of_toNat_eq
  rw [byte_and]; simp
  have := x.isLt
  omega
theorem byte_int (n : Nat) : BitVec.ofInt 8 (n : Int) = BitVec.ofNat 8 n := by
  apply BitVec.eq_of_toNat_eq
  simp [BitVec.toNat_ofInt]
theorem byte_hi (n : Nat) : BitVec.ofInt 8 (n : Int) ||| 128#8 = BitVec.ofNat 8 (n % 128 + 128) := by
  rw [byte_int, byte_or]; congr 1; simp
theorem byte_lo (n : Nat) : BitVec.ofInt 8 (n : Int) &&& 127#8 = BitVec.ofNat 8 (n % 128) := by
  rw [byte_int, byte_and']; congr 1; simp
/-! ### seven bits a byte -/
/-- The bytes that go on. -/
def pre (m : Nat) : List (BitVec 8) := if m = 0 then [] else pre (m / 128) ++ [BitVec.ofNat 8 (m % 128 + 128)]
termination_by m
decreasing_by omega
def num7 (n : Nat) : List (BitVec 8) := pre (n / 128) ++ [BitVec.ofNat 8 (n % 128)]
theorem pre_zero : pre 0 = [] := by rw [pre]; rfl
theorem pre_pos {m : Nat} (h : 0 < m) : pre m = pre (m / 128) ++ [BitVec.ofNat 8 (m % 128 + 128)] := by
  rw [pre, if_neg (by omega)]
theorem pre_len : ∀ (k m : Nat), m < 128 ^ k → (pre m).length ≤ k
  | 0, m, h => by
    have : m = 0 := by simpa using h
    subst this; rw [pre_zero]; simp
  | k + 1, m, h => by
    by_cases h0 : m = 0
    · subst h0; rw [pre_zero]; simp
    · rw [pre_pos (by omega)]
      have := pre_len k (m / 128) (by rw [Nat.div_lt_iff_lt_mul (by decide)]; rw [Nat.pow_succ] at h; exact h)
      simp; exact this
theorem num7_len {n : Nat} (h : n < 9223372036854775808) : (num7 n).length ≤ 9 := by
  have := pre_len 8 (n / 128) (by omega)
  simp [num7]; omega
theorem num7_small {n : Nat} (h : n < 128) : num7 n = [BitVec.ofNat 8 n] := by
  rw [num7, show n / 128 = 0 by omega, pre_zero, Nat.mod_eq_of_lt h]; rfl
/-- The same from the highest one on. -/
def seq7 (n : Nat) : Nat → List (BitVec 8)
  | 0 => []
  | c + 1 => BitVec.ofNat 8 (n / 128 ^ (c + 1) % 128 + 128) :: seq7 n c
theorem seq7_snoc (n : Nat) : ∀ c, seq7 n (c + 1) = seq7 (n / 128) c ++ [BitVec.ofNat 8 (n / 128 % 128 + 128)]
  | 0 => by simp [seq7]
  | c + 1 => by
    rw [seq7, seq7_snoc n c, seq7]
    simp only [List.cons_append]
    rw [Nat.div_div_eq_div_mul, ← Nat.pow_succ']
theorem seq7_pre : ∀ (h n : Nat), n / 128 ^ h < 128 → (∀ j, j < h → 128 ≤ n / 128 ^ j) → seq7 n h = pre (n / 128)
  | 0, n, h1, h2 => by
    rw [show n / 128 = 0 by simp at h1; omega, pre_zero]; rfl
  | h + 1, n, h1, h2 => by
    have h0 := h2 0 (by omega)
    simp at h0
    rw [seq7_snoc, pre_pos (by omega), seq7_pre h (n / 128) (by rw [Nat.div_div_eq_div_mul, ← Nat.pow_succ']; exact h1) (fun j hj => by
      rw [Nat.div_div_eq_div_mul, ← Nat.pow_succ']; exact h2 (j + 1) (by omega))]
/-- How many bytes. -/
def nlen (n : Nat) : Nat := if n < 128 then 1 else nlen (n / 128) + 1
termination_by n
decreasing_by omega
theorem nlen_lt {n : Nat} (h : n < 128) : nlen n = 1 := by rw [nlen, if_pos h]
theorem nlen_ge {n : Nat} (h : 128 ≤ n) : nlen n = nlen (n / 128) + 1 := by rw [nlen, if_neg (by omega)]
/-! ### reading -/
def up7 : Int ⊕ (Nat × Nat) → Int ⊕ (Nat × Nat)
  | .inl e => .inl e
  | .inr (m, k) => .inr (m, k + 1)
/-- What a number is that begins here, and how many bytes it has; or what is wrong first. -/
def rd7 (most : Nat) : List (BitVec 8) → Bool → Nat → Int ⊕ (Nat × Nat)
  | [], _, _ => .inl 6
  | c :: l, f, n =>
    if c = 128#8 ∧ f = true then .inl 5 else if most / 128 < n then .inl 2 else
    if 128 ≤ c.toNat then up7 (rd7 most l false (n * 128 + c.toNat % 128))
    else if most < n * 128 + c.toNat then .inl 2 else .inr (n * 128 + c.toNat, 1)
theorem rd7_le {most : Nat} : ∀ {l : List (BitVec 8)} {f : Bool} {n m k : Nat}, rd7 most l f n = .inr (m, k) → m ≤ most ∧ 1 ≤ k ∧ k ≤ l.length
  | [], f, n, m, k, h => by simp [rd7] at h
  | c :: l, f, n, m, k, h => by
    simp only [rd7] at h
    split at h
    · cases h
    · split at h
      · cases h
      · split at h
        · cases hr : rd7 most l false (n * 128 + c.toNat % 128) with
          | inl e => rw [hr] at h; cases h
          | inr p =>
            obtain ⟨m', k'⟩ := p
            rw [hr] at h
            simp only [up7, Sum.inr.injEq, Prod.mk.injEq] at h
            obtain ⟨rfl, rfl⟩ := h
            have := rd7_le hr
            simp; omega
        · split at h
          · cases h
          · simp only [Sum.inr.injEq, Prod.mk.injEq] at h
            obtain ⟨rfl, rfl⟩ := h
            simp; omega
end Go.Va
namespace Go.Proofs.YtgfedohhkbmobaaDoor
open Go Go.Va
set_option linter.unusedVariables false
set_option linter.unusedSimpArgs false
set_option maxRecDepth 20000
noncomputable def octets_Put_b1 (x1 : List Int) (v6 : Int) (c7 : List (BitVec 8)) (c8 : Int) (v22 : Int) (c23 : Int) : Option ((Int) ⊕ (Int)) :=
  lt (w64 ((7 : Int) * c23)) fun v34 =>
  ((sc v34).map fun m => shr64 v22 m).bind fun v36 =>
  lt (decide (v36 ≥ (128 : Int))) fun v38 =>
  if v38 = true then
    lt (w64 (c23 + (1 : Int))) fun v41 =>
    some (.inl v41)
  else
    some (.inr c23)
noncomputable def octets_Put_l1 (x1 : List Int) (v6 : Int) (c7 : List (BitVec 8)) (c8 : Int) (v22 : Int) (s : Int) : Option (Int) := loopO (fun s => octets_Put_b1 x1 v6 c7 c8 v22 s) s
noncomputable def octets_Put_b2 (x1 : List Int) (v6 : Int) (c8 : Int) (v22 : Int) (c43 : List (BitVec 8)) (c44 : Int) : Option (((List (BitVec 8)) × Int) ⊕ ((List (BitVec 8)))) :=
  lt (decide (c44 > (0 : Int))) fun v55 =>
  if v55 = true then
    lt (w64 ((7 : Int) * c44)) fun v58 =>
    ((sc v58).map fun m => shr64 v22 m).bind fun v60 =>
    lt (BitVec.ofInt 8 v60) fun v62 =>
    lt (v62 ||| 128#8) fun v64 =>
    lt (([v64] : List (BitVec 8))) fun v66 =>
    (app 1 c43 v66).bind fun v68 =>
    lt (w64 (c44 - (1 : Int))) fun v72 =>
    some (.inl (v68, v72))
  else
    some (.inr c43)
noncomputable def octets_Put_l2 (x1 : List Int) (v6 : Int) (c8 : Int) (v22 : Int) (s : (List (BitVec 8)) × Int) : Option ((List (BitVec 8))) := loopO (fun s => octets_Put_b2 x1 v6 c8 v22 s.1 s.2) s
noncomputable def octets_Put_b0 (x1 : List Int) (v6 : Int) (c7 : List (BitVec 8)) (c8 : Int) : Option (((List (BitVec 8)) × Int) ⊕ ((List (BitVec 8)))) :=
  lt (decide (c8 < v6)) fun v19 =>
  if v19 = true then
    (ix x1 c8).bind fun v22 =>
    (octets_Put_l1 x1 v6 c7 c8 v22 (0 : Int)).bind fun s31 =>
      (octets_Put_l2 x1 v6 c8 v22 (c7, s31)).bind fun s52 =>
        lt (BitVec.ofInt 8 v22) fun v75 =>
        lt (v75 &&& 127#8) fun v77 =>
        lt (([v77] : List (BitVec 8))) fun v79 =>
        (app 1 s52 v79).bind fun v81 =>
        lt (w64 (c8 + (1 : Int))) fun v85 =>
        some (.inl (v81, v85))
  else
    some (.inr c7)
noncomputable def octets_Put_l0 (x1 : List Int) (v6 : Int) (s : (List (BitVec 8)) × Int) : Option ((List (BitVec 8))) := loopO (fun s => octets_Put_b0 x1 v6 s.1 s.2) s
noncomputable def octets_Put (x0 : List (BitVec 8)) (x1 : List Int) : Option ((List (BitVec 8))) :=
  (app 1 ([] : List (BitVec 8)) x0).bind fun v2 =>
  lt (((x1).length : Int)) fun v6 =>
  (octets_Put_l0 x1 v6 (v2, (0 : Int))).bind fun s16 =>
    some s16
end Go.Proofs.YtgfedohhkbmobaaDoor
namespace Go.Proofs.YtgfedohhkbmobaaDoor
open Go Go.Va
set_option linter.unusedVariables false
set_option linter.unusedSimpArgs false
set_option maxRecDepth 20000
noncomputable def octets_Bytes (x0 : List (BitVec 8)) (x1 : List (BitVec 8)) : Option ((List (BitVec 8))) :=
  lt (((x1).length : Int)) fun v2 =>
  lt (([v2] : List Int)) fun v4 =>
  (octets_Put x0 v4).bind fun v6 =>
  (app 1 v6 x1).bind fun v9 =>
  some v9
end Go.Proofs.YtgfedohhkbmobaaDoor
namespace Go.Proofs.YtgfedohhkbmobaaDoor
open Go Go.Va
set_option linter.unusedVariables false
set_option linter.unusedSimpArgs false
set_option maxRecDepth 20000
noncomputable def octets_Len_F (rec : Int → Option (Int)) (x0 : Int) : Option (Int) :=
  lt (decide (x0 ≥ (34359738368 : Int))) fun v2 =>
  if v2 = true then
    lt (shr64 x0 35) fun v5 =>
    (rec v5).bind fun v7 =>
    lt (w64 ((5 : Int) + v7)) fun v9 =>
    some v9
  else
    lt (decide (x0 ≥ (268435456 : Int))) fun v11 =>
    if v11 = true then
      lt (w64 ((1 : Int) + (1 : Int))) fun v14 =>
      lt (w64 (v14 + (1 : Int))) fun v16 =>
      lt (w64 (v16 + (1 : Int))) fun v18 =>
      lt (w64 (v18 + (1 : Int))) fun v20 =>
      some v20
    else
      lt (decide (x0 ≥ (2097152 : Int))) fun v22 =>
      if v22 = true then
        lt (w64 ((1 : Int) + (1 : Int))) fun v25 =>
        lt (w64 (v25 + (1 : Int))) fun v27 =>
        lt (w64 (v27 + (1 : Int))) fun v29 =>
        some v29
      else
        lt (decide (x0 ≥ (16384 : Int))) fun v31 =>
        if v31 = true then
          lt (w64 ((1 : Int) + (1 : Int))) fun v34 =>
          lt (w64 (v34 + (1 : Int))) fun v36 =>
          some v36
        else
          lt (decide (x0 ≥ (128 : Int))) fun v38 =>
          if v38 = true then
            lt (w64 ((1 : Int) + (1 : Int))) fun v41 =>
            some v41
          else
            some (1 : Int)
noncomputable def octets_Len_n : Nat → Int → Option (Int)
  | 0 => fun _ => none
  | k + 1 => octets_Len_F (octets_Len_n k)
noncomputable def octets_Len (x0 : Int) : Option (Int) := octets_Len_n 1000000 x0
end Go.Proofs.YtgfedohhkbmobaaDoor
namespace Go.Proofs.YtgfedohhkbmobaaDoor
open Go Go.Va
set_option linter.unusedVariables false
set_option linter.unusedSimpArgs false
set_option maxRecDepth 20000
noncomputable def octets_Key (x0 : List (BitVec 8)) : Option (Int) :=
  lt (((x0).length : Int)) fun v2 =>
  lt (v2 == (0 : Int)) fun v4 =>
  if v4 = true then
    some (1 : Int)
  else
    lt (decide (v2 > (40 : Int))) fun v7 =>
    if v7 = true then
      some (3 : Int)
    else
      some (0 : Int)
end Go.Proofs.YtgfedohhkbmobaaDoor
namespace Go.Proofs.YtgfedohhkbmobaaDoor
open Go Go.Va
set_option linter.unusedVariables false
set_option linter.unusedSimpArgs false
set_option maxRecDepth 20000
noncomputable def butteryref02_num_b0  (c9 : List (BitVec 8)) (c10 : Int) : Option (((List (BitVec 8)) × Int) ⊕ ((List (BitVec 8)))) :=
  lt (decide (c10 > (0 : Int))) fun v22 =>
  if v22 = true then
    lt (Int.tmod c10 (128 : Int)) fun v25 =>
    lt (w64 (v25 + (128 : Int))) fun v27 =>
    lt (BitVec.ofInt 8 v27) fun v29 =>
    lt (([v29] : List (BitVec 8))) fun v31 =>
    (app 1 v31 c9).bind fun v33 =>
    lt (quo64 c10 (128 : Int)) fun v37 =>
    some (.inl (v33, v37))
  else
    some (.inr c9)
noncomputable def butteryref02_num_l0  (s : (List (BitVec 8)) × Int) : Option ((List (BitVec 8))) := loopO (fun s => butteryref02_num_b0 s.1 s.2) s
noncomputable def butteryref02_num (x0 : Int) : Option ((List (BitVec 8))) :=
  lt (Int.tmod x0 (128 : Int)) fun v2 =>
  lt (BitVec.ofInt 8 v2) fun v4 =>
  lt (([v4] : List (BitVec 8))) fun v6 =>
  lt (quo64 x0 (128 : Int)) fun v8 =>
  (butteryref02_num_l0 (v6, v8)).bind fun s19 =>
    some s19
end Go.Proofs.YtgfedohhkbmobaaDoor
namespace Go.Proofs.YtgfedohhkbmobaaDoor
open Go Go.Va
set_option linter.unusedVariables false
set_option linter.unusedSimpArgs false
set_option maxRecDepth 20000
noncomputable def butteryref02_Put_b0 (x1 : List Int) (c5 : List (BitVec 8)) (c6 : Int) : Option (((List (BitVec 8)) × Int) ⊕ ((List (BitVec 8)))) :=
  lt (((x1).length : Int)) fun v17 =>
  lt (decide (c6 < v17)) fun v19 =>
  if v19 = true then
    (ix x1 c6).bind fun v22 =>
    (butteryref02_num v22).bind fun v24 =>
    (app 1 c5 v24).bind fun v26 =>
    lt (w64 (c6 + (1 : Int))) fun v30 =>
    some (.inl (v26, v30))
  else
    some (.inr c5)
noncomputable def butteryref02_Put_l0 (x1 : List Int) (s : (List (BitVec 8)) × Int) : Option ((List (BitVec 8))) := loopO (fun s => butteryref02_Put_b0 x1 s.1 s.2) s
noncomputable def butteryref02_Put (x0 : List (BitVec 8)) (x1 : List Int) : Option ((List (BitVec 8))) :=
  (app 1 ([] : List (BitVec 8)) x0).bind fun v2 =>
  (butteryref02_Put_l0 x1 (v2, (0 : Int))).bind fun s14 =>
    some s14
end Go.Proofs.YtgfedohhkbmobaaDoor
namespace Go.Proofs.YtgfedohhkbmobaaDoor
open Go Go.Va
set_option linter.unusedVariables false
set_option linter.unusedSimpArgs false
set_option maxRecDepth 20000
noncomputable def butteryref02_Bytes (x0 : List (BitVec 8)) (x1 : List (BitVec 8)) : Option ((List (BitVec 8))) :=
  lt (((x1).length : Int)) fun v2 =>
  lt (([v2] : List Int)) fun v4 =>
  (butteryref02_Put x0 v4).bind fun v6 =>
  (app 1 v6 x1).bind fun v9 =>
  some v9
end Go.Proofs.YtgfedohhkbmobaaDoor
namespace Go.Proofs.YtgfedohhkbmobaaDoor
open Go Go.Va
set_option linter.unusedVariables false
set_option linter.unusedSimpArgs false
set_option maxRecDepth 20000
noncomputable def butteryref02_Word_b0 (x1 : BitVec 64) (c5 : List (BitVec 8)) (c6 : BitVec 64) (c7 : Int) : Option (((List (BitVec 8)) × (BitVec 64) × Int) ⊕ ((List (BitVec 8)))) :=
  lt (decide (c7 < (8 : Int))) fun v18 =>
  if v18 = true then
    ((dvU c6).map fun m => x1 / m).bind fun v21 =>
    lt (v21 % 256#64) fun v23 =>
    lt (BitVec.setWidth 8 v23) fun v25 =>
    lt (([v25] : List (BitVec 8))) fun v27 =>
    (app 1 c5 v27).bind fun v29 =>
    lt (c6 / 256#64) fun v33 =>
    lt (w64 (c7 + (1 : Int))) fun v35 =>
    some (.inl (v29, v33, v35))
  else
    some (.inr c5)
noncomputable def butteryref02_Word_l0 (x1 : BitVec 64) (s : (List (BitVec 8)) × (BitVec 64) × Int) : Option ((List (BitVec 8))) := loopO (fun s => butteryref02_Word_b0 x1 s.1 s.2.1 s.2.2) s
noncomputable def butteryref02_Word (x0 : List (BitVec 8)) (x1 : BitVec 64) : Option ((List (BitVec 8))) :=
  (app 1 ([] : List (BitVec 8)) x0).bind fun v2 =>
  (butteryref02_Word_l0 x1 (v2, 72057594037927936#64, (0 : Int))).bind fun s15 =>
    some s15
end Go.Proofs.YtgfedohhkbmobaaDoor
namespace Go.Proofs.YtgfedohhkbmobaaDoor
open Go Go.Va
set_option linter.unusedVariables false
set_option linter.unusedSimpArgs false
set_option maxRecDepth 20000
noncomputable def butteryref02_Key (x0 : List (BitVec 8)) : Option (Int) :=
  lt (x0 == ([] : List (BitVec 8))) fun v2 =>
  if v2 = true then
    some (1 : Int)
  else
    lt (((x0).length : Int)) fun v5 =>
    lt (decide (v5 > (40 : Int))) fun v7 =>
    if v7 = true then
      some (3 : Int)
    else
      some (0 : Int)
end Go.Proofs.YtgfedohhkbmobaaDoor
namespace Go.Proofs.YtgfedohhkbmobaaDoor
open Go Go.Va
set_option linter.unusedVariables false
set_option linter.unusedSimpArgs false
theorem same_eq (x y : List (BitVec 8)) (hx : x.length < 9223372036854775807) : butteryref02_Same x y = some (decide (x = y)) := by
  unfold butteryref02_Same
  simp only [lt_eq]
  by_cases hl : x.length = y.length
  · rw [if_neg (by simp [hl])]
    have h := loopO_find (body := fun s => butteryref02_Same_b0 x y s) (fun i : Nat => (i : Int)) x.length (fun i => if x[i]? ≠ y[i]? then some (Sum.inr false) else none) (x := .inl ()) (fun i hi => by
      simp only [butteryref02_Same_b0, lt_eq, ix_nat hi, ix_nat (show i < y.length by omega), Option.bind_some]
      rw [if_pos (by simpa using hi)]
      by_cases he : x[i] = y[i]
      · rw [if_neg (by simp [he]), if_neg (by simp [hi, show i < y.length by omega, he]), w64_nat (by omega)]; rfl
      · rw [if_pos (by simpa using he), if_pos (by simp [hi, show i < y.length by omega, he])]; rfl) (by simp [butteryref02_Same_b0, lt_eq])
    rw [show ((0 : Nat) : Int) = 0 from rfl] at h
    simp only [butteryref02_Same_l0, h, Option.bind_some]
    by_cases he : x = y
    · rw [List.findSome?_eq_none_iff.2 (fun i _ => by rw [if_neg (by simp [he])])]
      simp [he]
    · cases hf : (List.range x.length).findSome? (fun i => if x[i]? ≠ y[i]? then some (Sum.inr (α := Unit) false) else none) with
      | none =>
        refine absurd (List.ext_getElem? fun i => ?_) he
        have h1 := List.findSome?_eq_none_iff.1 hf
        rcases Nat.lt_or_ge i x.length with hi | hi
        · have := h1 i (by simpa using hi)
          by_cases hne : x[i]? = y[i]?
          · exact hne
          · rw [if_pos hne] at this; cases this
        · rw [List.getElem?_eq_none hi, List.getElem?_eq_none (by omega)]
      | some w =>
        obtain ⟨i, _, h2⟩ := List.exists_of_findSome?_eq_some hf
        split at h2
        · cases h2; simp [he]
        · cases h2
  · rw [if_pos (by simpa using fun e => hl (by exact_mod_cast e))]
    rw [decide_eq_false (fun e => hl (by rw [e]))]
theorem refnum_l : ∀ (k m : Nat) (out : List (BitVec 8)), m < 128 ^ k → m < 9223372036854775808 → out.length + k ≤ 1000 → butteryref02_num_l0 (out, (m : Int)) = some (pre m ++ out)
  | 0, m, out, h, h2, hl => by
    have : m = 0 := by simpa using h
    subst this
    rw [pre_zero]
    exact loopO_out (by simp [butteryref02_num_b0, lt_eq])
  | k + 1, m, out, h, h2, hl => by
    by_cases h0 : m = 0
    · subst h0
      rw [pre_zero]
      exact loopO_out (by simp [butteryref02_num_b0, lt_eq])
    · have hb : butteryref02_num_b0 out (m : Int) = some (.inl (BitVec.ofNat 8 (m % 128 + 128) :: out, ((m / 128 : Nat) : Int))) := by
        simp only [butteryref02_num_b0, lt_eq]
        rw [if_pos (by simp; omega)]
        have e1 : Int.tmod (m : Int) 128 = ((m % 128 : Nat) : Int) := tmod_nat m 128
        have e2 : quo64 (m : Int) 128 = ((m / 128 : Nat) : Int) := quo64_nat h2
        rw [e1, e2, w64_eq (by omega) (by omega), app_eq (by simp; omega)]
        rw [show (((m % 128 : Nat) : Int) + 128) = ((m % 128 + 128 : Nat) : Int) by omega, byte_int]
        rfl
      have := loopO_in (body := fun s => butteryref02_num_b0 s.1 s.2) (s := (out, (m : Int))) hb
      rw [butteryref02_num_l0, this]
      have ih := refnum_l k (m / 128) (BitVec.ofNat 8 (m % 128 + 128) :: out) (by rw [Nat.div_lt_iff_lt_mul (by decide)]; rw [Nat.pow_succ] at h; exact h) (by omega) (by simp; omega)
      rw [butteryref02_num_l0] at ih
      rw [ih, pre_pos (m := m) (by omega)]
      simp
theorem refnum_eq {n : Nat} (h : n < 9223372036854775808) : butteryref02_num (n : Int) = some (num7 n) := by
  simp only [butteryref02_num, lt_eq]
  have e1 : Int.tmod (n : Int) 128 = ((n % 128 : Nat) : Int) := tmod_nat n 128
  have e2 : quo64 (n : Int) 128 = ((n / 128 : Nat) : Int) := quo64_nat h
  rw [e1, e2, byte_int, refnum_l 9 (n / 128) _ (by omega) (by omega) (by simp)]
  rfl
/-- Numbers one behind the other. -/
def nums (l : List Int) : List (BitVec 8) := l.flatMap fun n => num7 n.toNat
def okN (l : List Int) : Prop := l.length ≤ 1000 ∧ ∀ n ∈ l, 0 ≤ n ∧ n ≤ 9223372036854775807
theorem nums_len : ∀ {l : List Int}, (∀ n ∈ l, 0 ≤ n ∧ n ≤ 9223372036854775807) → (nums l).length ≤ 9 * l.length
  | [], _ => Nat.le_refl _
  | n :: l, h => by
    have h1 := nums_len (l := l) (fun m hm => h m (List.mem_cons_of_mem _ hm))
    have h2 := h n List.mem_cons_self
    have h3 := num7_len (n := n.toNat) (by omega)
    simp only [nums, List.flatMap_cons, List.length_append, List.length_cons] at h1 ⊢
    omega
theorem nums_snoc (l : List Int) (n : Int) : nums (l ++ [n]) = nums l ++ num7 n.toNat := by simp [nums]
theorem refPut_eq (b : List (BitVec 8)) {l : List Int} (hb : b.length ≤ 1000000) (hl : okN l) : butteryref02_Put b l = some (b ++ nums l) := by
  simp only [butteryref02_Put]
  rw [app_eq (by simp; omega)]
  simp only [List.nil_append, Option.bind_some]
  have h := loopO_up (body := fun s => butteryref02_Put_b0 l s.1 s.2) (fun i => (b ++ nums (l.take i), (i : Int))) l.length (x := b ++ nums l) (fun i hi => by
    obtain ⟨hn0, hn1⟩ := hl.2 _ (List.getElem_mem hi)
    have hn : butteryref02_num l[i] = some (num7 l[i].toNat) := by
      have := refnum_eq (n := l[i].toNat) (by omega)
      rwa [Int.toNat_of_nonneg hn0] at this
    have h1 := nums_len (l := l.take i) (fun m hm => hl.2 m (List.mem_of_mem_take hm))
    have h2 := num7_len (n := l[i].toNat) (by omega)
    have h3 := hl.1
    simp only [List.length_take] at h1
    simp only [butteryref02_Put_b0, lt_eq, ix_nat hi, Option.bind_some, hn]
    rw [if_pos (by simpa using hi), app_eq (by simp only [List.length_append]; omega), w64_nat (by omega)]
    simp only [Option.bind_some]
    rw [List.take_succ_eq_append_getElem hi, nums_snoc, List.append_assoc]) (by simp [butteryref02_Put_b0, lt_eq])
  simp only [butteryref02_Put_l0]
  have h0 : b ++ nums (l.take 0) = b := by simp [nums]
  rw [h0] at h
  rw [show ((0 : Nat) : Int) = 0 from rfl] at h
  rw [h]; rfl
theorem oct_l1 (l : List Int) (v6 : Int) (c7 : List (BitVec 8)) (c8 : Int) {n : Nat} (hn : n < 9223372036854775808) : ∃ h : Nat, octets_Put_l1 l v6 c7 c8 (n : Int) 0 = some (h : Int) ∧ h ≤ 9 ∧ n / 128 ^ h < 128 ∧ ∀ j, j < h → 128 ≤ n / 128 ^ j := by
  have key := loopO_inv (body := fun s => octets_Put_b1 l v6 c7 c8 (n : Int) s) (fun s => ∃ h : Nat, s = (h : Int) ∧ h ≤ 9 ∧ ∀ j, j < h → 128 ≤ n / 128 ^ j) (fun s => 10 - s.toNat) (fun x => ∃ h : Nat, x = (h : Int) ∧ h ≤ 9 ∧ n / 128 ^ h < 128 ∧ ∀ j, j < h → 128 ≤ n / 128 ^ j) (fun s => by
    rintro ⟨h, rfl, h9, hj⟩
    have ew : w64 (7 * (h : Int)) = ((7 * h : Nat) : Int) := by rw [w64_eq (by omega) (by omega)]; omega
    have es : shr64 (n : Int) (7 * h) = ((n / 128 ^ h : Nat) : Int) := by
      rw [shr64_nat (by omega), Nat.pow_mul]
    simp only [octets_Put_b1, lt_eq, ew, sc_eq (Int.natCast_nonneg _), Int.toNat_natCast, Option.map_some, Option.bind_some, es]
    by_cases hc : 128 ≤ n / 128 ^ h
    · left
      have h8 : h ≤ 8 := by
        rcases Nat.lt_or_ge 8 h with h8 | h8
        · have : h = 9 := by omega
          subst this
          omega
        · exact h8
      refine ⟨((h + 1 : Nat) : Int), ?_, ⟨h + 1, rfl, by omega, fun j hj' => ?_⟩, by omega⟩
      · rw [if_pos (decide_eq_true (show ((n / 128 ^ h : Nat) : Int) ≥ 128 by omega)), w64_nat (by omega)]
      · by_cases e : j = h
        · subst e; exact hc
        · exact hj j (by omega)
    · right
      exact ⟨_, by rw [if_neg (by rw [decide_eq_false (show ¬ ((n / 128 ^ h : Nat) : Int) ≥ 128 by omega)]; simp)], h, rfl, h9, by omega, hj⟩) (s := 0) ⟨0, rfl, by omega, fun j hj => by omega⟩
  obtain ⟨x, h1, h, rfl, h2⟩ := key
  exact ⟨h, h1, h2⟩
theorem oct_l2 (l : List Int) (v6 : Int) (c8 : Int) {n : Nat} : ∀ (h : Nat) (out : List (BitVec 8)), h ≤ 9 → out.length + h ≤ 100000000 → octets_Put_l2 l v6 c8 (n : Int) (out, (h : Int)) = some (out ++ seq7 n h)
  | 0, out, h9, hl => by
    simp only [seq7, List.append_nil]
    exact loopO_out (by simp [octets_Put_b2, lt_eq])
  | h + 1, out, h9, hl => by
    have ew : w64 (7 * ((h + 1 : Nat) : Int)) = ((7 * (h + 1) : Nat) : Int) := by rw [w64_eq (by omega) (by omega)]; omega
    have es : shr64 (n : Int) (7 * (h + 1)) = ((n / 128 ^ (h + 1) : Nat) : Int) := by
      rw [shr64_nat (by omega), Nat.pow_mul]
    have hb : octets_Put_b2 l v6 c8 (n : Int) out ((h + 1 : Nat) : Int) = some (.inl (out ++ [BitVec.ofNat 8 (n / 128 ^ (h + 1) % 128 + 128)], (h : Int))) := by
      simp only [octets_Put_b2, lt_eq, ew, sc_eq (Int.natCast_nonneg _), Int.toNat_natCast, Option.map_some, Option.bind_some, es]
      rw [if_pos (decide_eq_true (by omega)), app_eq (by simp; omega), byte_hi, w64_eq (by omega) (by omega)]
      simp only [Option.bind_some]
      rw [show (((h + 1 : Nat) : Int) - 1) = (h : Int) by omega]
    have := loopO_in (body := fun s => octets_Put_b2 l v6 c8 (n : Int) s.1 s.2) (s := (out, ((h + 1 : Nat) : Int))) hb
    rw [octets_Put_l2, this]
    have ih := oct_l2 l v6 c8 (n := n) h (out ++ [BitVec.ofNat 8 (n / 128 ^ (h + 1) % 128 + 128)]) (by omega) (by simp; omega)
    rw [octets_Put_l2] at ih
    rw [ih, seq7, List.append_assoc]; rfl
theorem octPut_eq (b : List (BitVec 8)) {l : List Int} (hb : b.length ≤ 1000000) (hl : okN l) : octets_Put b l = some (b ++ nums l) := by
  simp only [octets_Put]
  rw [app_eq (by simp; omega)]
  simp only [List.nil_append, Option.bind_some, lt_eq]
  have h := loopO_up (body := fun s => octets_Put_b0 l (l.length : Int) s.1 s.2) (fun i => (b ++ nums (l.take i), (i : Int))) l.length (x := b ++ nums l) (fun i hi => by
    obtain ⟨hn0, hn1⟩ := hl.2 _ (List.getElem_mem hi)
    obtain ⟨n, hn⟩ : ∃ n : Nat, l[i] = (n : Int) := ⟨l[i].toNat, by omega⟩
    have hlt : n < 9223372036854775808 := by omega
    have h1 := nums_len (l := l.take i) (fun m hm => hl.2 m (List.mem_of_mem_take hm))
    have h3 := hl.1
    simp only [List.length_take] at h1
    obtain ⟨h, k1, k2, k3, k4⟩ := oct_l1 l (l.length : Int) (b ++ nums (l.take i)) (i : Int) hlt
    have h2 := num7_len hlt
    have hs := seq7_pre h n k3 k4
    simp only [octets_Put_b0, lt_eq, ix_nat hi, Option.bind_some, hn, k1]
    rw [oct_l2 l _ _ h _ k2 (by simp only [List.length_append]; omega), hs]
    have h2' : (pre (n / 128)).length ≤ 9 := by simp [num7] at h2; omega
    simp only [Option.bind_some, byte_lo]
    rw [if_pos (by simpa using hi), app_eq (by simp only [List.length_append, List.length_cons, List.length_nil]; omega), w64_nat (by omega)]
    simp only [Option.bind_some]
    rw [List.take_succ_eq_append_getElem hi, nums_snoc, hn, Int.toNat_natCast, num7]
    simp only [List.append_assoc]) (by simp [octets_Put_b0, lt_eq])
  simp only [octets_Put_l0]
  have h0 : b ++ nums (l.take 0) = b := by simp [nums]
  rw [h0] at h
  rw [show ((0 : Nat) : Int) = 0 from rfl] at h
  rw [h]; rfl
theorem okN_one {n : Nat} (h : n < 9223372036854775808) : okN [(n : Int)] := ⟨by simp, fun m hm => by simp at hm; omega⟩
theorem octBytes_eq (b t : List (BitVec 8)) (hb : b.length ≤ 1000000) (ht : t.length ≤ 1000000) : octets_Bytes b t = some (b ++ num7 t.length ++ t) := by
  have h2 := num7_len (n := t.length) (by omega)
  simp only [octets_Bytes, lt_eq, octPut_eq b hb (okN_one (n := t.length) (by omega)), Option.bind_some, nums, List.flatMap_cons, List.flatMap_nil, List.append_nil, Int.toNat_natCast]
  rw [app_eq (by simp only [List.length_append]; omega)]; rfl
theorem refBytes_eq (b t : List (BitVec 8)) (hb : b.length ≤ 1000000) (ht : t.length ≤ 1000000) : butteryref02_Bytes b t = some (b ++ num7 t.length ++ t) := by
  have h2 := num7_len (n := t.length) (by omega)
  simp only [butteryref02_Bytes, lt_eq, refPut_eq b hb (okN_one (n := t.length) (by omega)), Option.bind_some, nums, List.flatMap_cons, List.flatMap_nil, List.append_nil, Int.toNat_natCast]
  rw [app_eq (by simp only [List.length_append]; omega)]; rfl
end Go.Proofs.YtgfedohhkbmobaaDoor
namespace Go.Proofs.YtgfedohhkbmobaaDoor
open Go Go.Va
set_option linter.unusedVariables false
set_option linter.unusedSimpArgs false
set_option maxRecDepth 20000
noncomputable def butteryref03_Sum_b1 (x0 : List (BitVec 8)) (c2 : Int) (c17 : BitVec 32) (c18 : Int) : Option (((BitVec 32) × Int) ⊕ ((BitVec 32))) :=
  lt (decide (c18 < (8 : Int))) fun v29 =>
  if v29 = true then
    (ix x0 c2).bind fun v32 =>
    ((sc c18).map fun m => v32 >>> m).bind fun v34 =>
    lt (BitVec.setWidth 32 v34) fun v36 =>
    lt (v36 % 2#32) fun v38 =>
    lt (c17 % 2#32) fun v40 =>
    lt (c17 / 2#32) fun v42 =>
    lt (v38 != v40) fun v44 =>
    if v44 = true then
      lt (v42 ^^^ 3988292384#32) fun v47 =>
      lt (w64 (c18 + (1 : Int))) fun v49 =>
      some (.inl (v47, v49))
    else
      lt (w64 (c18 + (1 : Int))) fun v51 =>
      some (.inl (v42, v51))
  else
    some (.inr c17)
noncomputable def butteryref03_Sum_l1 (x0 : List (BitVec 8)) (c2 : Int) (s : (BitVec 32) × Int) : Option ((BitVec 32)) := loopO (fun s => butteryref03_Sum_b1 x0 c2 s.1 s.2) s
noncomputable def butteryref03_Sum_b0 (x0 : List (BitVec 8)) (c1 : BitVec 32) (c2 : Int) : Option (((BitVec 32) × Int) ⊕ ((BitVec 32))) :=
  lt (((x0).length : Int)) fun v13 =>
  lt (decide (c2 < v13)) fun v15 =>
  if v15 = true then
    (butteryref03_Sum_l1 x0 c2 (c1, (0 : Int))).bind fun s26 =>
      lt (w64 (c2 + (1 : Int))) fun v54 =>
      some (.inl (s26, v54))
  else
    some (.inr c1)
noncomputable def butteryref03_Sum_l0 (x0 : List (BitVec 8)) (s : (BitVec 32) × Int) : Option ((BitVec 32)) := loopO (fun s => butteryref03_Sum_b0 x0 s.1 s.2) s
noncomputable def butteryref03_Sum (x0 : List (BitVec 8)) : Option ((BitVec 32)) :=
  (butteryref03_Sum_l0 x0 (4294967295#32, (0 : Int))).bind fun s10 =>
    lt (4294967295#32 - s10) fun v57 =>
    some v57
end Go.Proofs.YtgfedohhkbmobaaDoor
namespace Go.Proofs.YtgfedohhkbmobaaDoor
open Go Go.Va
set_option linter.unusedVariables false
set_option linter.unusedSimpArgs false
set_option maxRecDepth 20000
noncomputable def butteryref03_Seal_b0  (c7 : List (BitVec 8)) (c8 : BitVec 32) (c9 : Int) : Option (((List (BitVec 8)) × (BitVec 32) × Int) ⊕ ((List (BitVec 8)))) :=
  lt (decide (c9 < (4 : Int))) fun v20 =>
  if v20 = true then
    lt (c8 % 256#32) fun v23 =>
    lt (BitVec.setWidth 8 v23) fun v25 =>
    lt (([v25] : List (BitVec 8))) fun v27 =>
    (app 1 c7 v27).bind fun v29 =>
    lt (c8 / 256#32) fun v33 =>
    lt (w64 (c9 + (1 : Int))) fun v35 =>
    some (.inl (v29, v33, v35))
  else
    some (.inr c7)
noncomputable def butteryref03_Seal_l0  (s : (List (BitVec 8)) × (BitVec 32) × Int) : Option ((List (BitVec 8))) := loopO (fun s => butteryref03_Seal_b0 s.1 s.2.1 s.2.2) s
noncomputable def butteryref03_Seal (x0 : List (BitVec 8)) : Option ((List (BitVec 8))) :=
  (app 1 ([] : List (BitVec 8)) x0).bind fun v2 =>
  (butteryref03_Sum x0).bind fun v6 =>
  (butteryref03_Seal_l0 (v2, v6, (0 : Int))).bind fun s17 =>
    some s17
end Go.Proofs.YtgfedohhkbmobaaDoor
namespace Go.Proofs.YtgfedohhkbmobaaDoor
open Go Go.Va
set_option linter.unusedVariables false
set_option linter.unusedSimpArgs false
set_option maxRecDepth 20000
noncomputable def butteryref03_Fits_b0 (x0 : List (BitVec 8)) (v11 : List (BitVec 8)) (c12 : Int) : Option ((Int) ⊕ (Unit ⊕ (Bool))) :=
  lt (((x0).length : Int)) fun v23 =>
  lt (decide (c12 < v23)) fun v25 =>
  if v25 = true then
    (ix v11 c12).bind fun v28 =>
    (ix x0 c12).bind fun v30 =>
    lt (v28 != v30) fun v32 =>
    if v32 = true then
      some (.inr (.inr false))
    else
      lt (w64 (c12 + (1 : Int))) fun v36 =>
      some (.inl v36)
  else
    some (.inr (.inl ()))
noncomputable def butteryref03_Fits_l0 (x0 : List (BitVec 8)) (v11 : List (BitVec 8)) (s : Int) : Option (Unit ⊕ (Bool)) := loopO (fun s => butteryref03_Fits_b0 x0 v11 s) s
noncomputable def butteryref03_Fits (x0 : List (BitVec 8)) : Option (Bool) :=
  lt (((x0).length : Int)) fun v2 =>
  lt (w64 (v2 - (4 : Int))) fun v4 =>
  lt (decide (v4 < (0 : Int))) fun v6 =>
  if v6 = true then
    some false
  else
    (cutTo x0 v4).bind fun v9 =>
    (butteryref03_Seal v9).bind fun v11 =>
    (butteryref03_Fits_l0 x0 v11 (0 : Int)).bind fun o13 =>
      Sum.elim (fun s20 : Unit =>
        some true
        ) (fun y => some y) o13
end Go.Proofs.YtgfedohhkbmobaaDoor
namespace Go.Proofs.YtgfedohhkbmobaaDoor
open Go Go.Va
set_option linter.unusedVariables false
set_option linter.unusedSimpArgs false
theorem rcSum_eq {b : List (BitVec 8)} (hb : b.length ≤ 1000000000) : butteryref03_Sum b = some (csum b) := by
  have inner : ∀ (n : BitVec 32) (i : Nat) (hi : i < b.length), butteryref03_Sum_l1 b (i : Int) (n, 0) = some (rbyte n b[i]) := fun n i hi => by
    have k := loopO_up (body := fun s => butteryref03_Sum_b1 b (i : Int) s.1 s.2) (fun j : Nat => (rbits b[i] n j, (j : Int))) 8 (x := rbyte n b[i]) (fun j hj => by
      simp only [butteryref03_Sum_b1, lt_eq, ix_nat hi, sc_nat, Option.map_some, Option.bind_some]
      rw [if_pos (decide_eq_true (by omega)), w64_nat (by omega)]
      rw [show rbits b[i] n (j + 1) = rbit b[i] j (rbits b[i] n j) from rfl]
      unfold rbit
      by_cases h : (b[i] >>> j).setWidth 32 % 2#32 = rbits b[i] n j % 2#32
      · rw [if_neg (by rw [h]; simp), if_pos h]
      · rw [if_pos (bne_iff_ne.2 h), if_neg h]) (by
      simp only [butteryref03_Sum_b1, lt_eq]
      rw [if_neg (by simp)]
      rfl)
    exact k
  have k := loopO_foldl b rbyte id (body := fun s => butteryref03_Sum_b0 b s.1 s.2) (fun s i hi => by
    simp only [butteryref03_Sum_b0, lt_eq]
    rw [if_pos (decide_eq_true (by omega)), inner _ _ hi]
    simp only [Option.bind_some]
    rw [w64_nat (by omega)]) (fun s => by
    simp only [butteryref03_Sum_b0, lt_eq]
    rw [if_neg (by simp)]
    rfl) 4294967295#32
  have k' : butteryref03_Sum_l0 b (4294967295#32, 0) = some (b.foldl rbyte 4294967295#32) := k
  unfold butteryref03_Sum
  simp only [lt_eq, k', Option.bind_some]
  rw [← rsum_eq]
  rfl
theorem rcSeal_eq {b : List (BitVec 8)} (hb : b.length ≤ 1000000000) : butteryref03_Seal b = some (cseal b) := by
  have k := loopO_up (body := fun s => butteryref03_Seal_b0 s.1 s.2.1 s.2.2) (fun i : Nat => (b ++ rfour (csum b) i, rdiv (csum b) i, (i : Int))) 4 (x := b ++ rfour (csum b) 4) (fun i hi => by
    simp only [butteryref03_Seal_b0, lt_eq]
    have hl := rfour_len (csum b) i
    rw [if_pos (decide_eq_true (by omega)), app_eq (by simp [hl]; omega)]
    simp only [Option.bind_some]
    rw [w64_nat (by omega), List.append_assoc]
    rfl) (by
    simp only [butteryref03_Seal_b0, lt_eq]
    rw [if_neg (by simp)])
  have k' : butteryref03_Seal_l0 (b, csum b, 0) = some (b ++ rfour (csum b) 4) := by
    have := k
    simp only [rfour, rdiv, List.append_nil] at this ⊢
    exact this
  unfold butteryref03_Seal
  rw [app_eq (by simp; omega)]
  simp only [Option.bind_some, rcSum_eq hb, List.nil_append, k']
  rw [rfour_eq]
  rfl
theorem rcFits_l {x y : List (BitVec 8)} (hx : x.length < 9223372036854775807) (hl : x.length = y.length) : (butteryref03_Fits_l0 x y 0).bind (fun o => Sum.elim (fun _ : Unit => some true) (fun y => some y) o) = some (decide (x = y)) := by
  have h := loopO_find (body := fun s => butteryref03_Fits_b0 x y s) (fun i : Nat => (i : Int)) x.length (fun i => if x[i]? ≠ y[i]? then some (Sum.inr false) else none) (x := .inl ()) (fun i hi => by
    simp only [butteryref03_Fits_b0, lt_eq, ix_nat hi, ix_nat (show i < y.length by omega), Option.bind_some]
    rw [if_pos (by simpa using hi)]
    by_cases he : x[i] = y[i]
    · rw [if_neg (by simp [he]), if_neg (by simp [hi, show i < y.length by omega, he]), w64_nat (by omega)]; rfl
    · rw [if_pos (by simpa using Ne.symm he), if_pos (by simp [hi, show i < y.length by omega, he])]; rfl) (by simp [butteryref03_Fits_b0, lt_eq])
  rw [show ((0 : Nat) : Int) = 0 from rfl] at h
  simp only [butteryref03_Fits_l0, h, Option.bind_some]
  by_cases he : x = y
  · rw [List.findSome?_eq_none_iff.2 (fun i _ => by rw [if_neg (by simp [he])])]
    simp [he]
  · cases hf : (List.range x.length).findSome? (fun i => if x[i]? ≠ y[i]? then some (Sum.inr (α := Unit) false) else none) with
    | none =>
      refine absurd (List.ext_getElem? fun i => ?_) he
      have h1 := List.findSome?_eq_none_iff.1 hf
      rcases Nat.lt_or_ge i x.length with hi | hi
      · have := h1 i (by simpa using hi)
        by_cases hc : x[i]? = y[i]?
        · exact hc
        · rw [if_pos hc] at this; cases this
      · rw [List.getElem?_eq_none hi, List.getElem?_eq_none (by omega)]
    | some v =>
      obtain ⟨i, _, hi⟩ := List.exists_of_findSome?_eq_some hf
      split at hi
      · cases hi; simp [he]
      · cases hi
theorem rcFits_eq {b : List (BitVec 8)} (hb : b.length ≤ 1000000000) : butteryref03_Fits b = some (cfits b) := by
  rw [crc_fits_eq]
  unfold butteryref03_Fits rfits
  simp only [lt_eq]
  rw [w64_eq (by omega) (by omega)]
  by_cases h : 4 ≤ b.length
  · rw [if_neg (by rw [decide_eq_false (by omega)]; simp), show (b.length : Int) - 4 = ((b.length - 4 : Nat) : Int) by omega, cutTo_eq (by omega)]
    simp only [Option.bind_some]
    rw [rcSeal_eq (by rw [List.length_take]; omega)]
    simp only [Option.bind_some]
    have hl : b.length = (cseal (b.take (b.length - 4))).length := by
      simp only [cseal, List.length_append, List.length_take, cfour, List.length_cons, List.length_nil]; omega
    rw [rcFits_l (by omega) hl, ← crc_seal_eq, decide_eq_true h, Bool.true_and]
    congr 1
    exact decide_eq_decide.2 ⟨fun h => h.symm, fun h => h.symm⟩
  · rw [if_pos (decide_eq_true (by omega)), decide_eq_false h]
    rfl
end Go.Proofs.YtgfedohhkbmobaaDoor
namespace Go.Proofs.YtgfedohhkbmobaaDoor
open Go Go.Va
set_option linter.unusedVariables false
set_option linter.unusedSimpArgs false
/-- The first i bytes of a word. -/
def wd (n : BitVec 64) (i : Nat) : List (BitVec 8) := (List.range i).map fun j => (n >>> (56 - 8 * j)).setWidth 8
theorem wd_succ (n : BitVec 64) (i : Nat) : wd n (i + 1) = wd n i ++ [(n >>> (56 - 8 * i)).setWidth 8] := by
  simp [wd, List.range_succ]
theorem wd_len (n : BitVec 64) (i : Nat) : (wd n i).length = i := by simp [wd]
theorem octWord_eq (b : List (BitVec 8)) (n : BitVec 64) (hb : b.length ≤ 1000000) : octets_Word b n = some (b ++ wd n 8) := by
  simp only [octets_Word]
  rw [app_eq (by simp; omega)]
  simp only [List.nil_append, Option.bind_some]
  have h := loopO_up (body := fun s => octets_Word_b0 n s.1 s.2) (fun i => (b ++ wd n i, 56 - 8 * (i : Int))) 8 (x := b ++ wd n 8) (fun i hi => by
    have hs : sc (56 - 8 * (i : Int)) = some (56 - 8 * i) := by rw [sc_eq (by omega)]; congr 1; omega
    simp only [octets_Word_b0, lt_eq, hs, Option.map_some, Option.bind_some]
    rw [if_pos (decide_eq_true (by omega)), app_eq (by simp only [List.length_append, wd_len, List.length_cons, List.length_nil]; omega), w64_eq (by omega) (by omega)]
    simp only [Option.bind_some]
    rw [wd_succ, List.append_assoc, show (56 - 8 * (i : Int) - 8) = 56 - 8 * ((i + 1 : Nat) : Int) by omega]) (by simp [octets_Word_b0, lt_eq])
  have h0 : b ++ wd n 0 = b := by simp [wd]
  rw [h0, show (56 - 8 * ((0 : Nat) : Int)) = 56 by omega] at h
  simp only [octets_Word_l0, h, Option.bind_some]
theorem refWord_eq (b : List (BitVec 8)) (n : BitVec 64) (hb : b.length ≤ 1000000) : butteryref02_Word b n = some (b ++ wd n 8) := by
  simp only [butteryref02_Word]
  rw [app_eq (by simp; omega)]
  simp only [List.nil_append, Option.bind_some]
  have h := loopO_up (body := fun s => butteryref02_Word_b0 n s.1 s.2.1 s.2.2) (fun i => (b ++ wd n i, BitVec.ofNat 64 (2 ^ 56 / 256 ^ i), (i : Int))) 8 (x := b ++ wd n 8) (fun i hi => by
    have hx : ∀ i : Fin 8, BitVec.ofNat 64 (2 ^ 56 / 256 ^ i.val) ≠ 0#64 ∧ BitVec.ofNat 64 (2 ^ 56 / 256 ^ i.val) / 256#64 = BitVec.ofNat 64 (2 ^ 56 / 256 ^ (i.val + 1)) ∧ 2 ^ 56 / 256 ^ i.val = 2 ^ (56 - 8 * i.val) := by decide
    obtain ⟨k1, k2, k3⟩ := hx ⟨i, hi⟩
    simp only [butteryref02_Word_b0, lt_eq, dvU_eq k1, Option.map_some, Option.bind_some]
    rw [if_pos (decide_eq_true (by omega)), app_eq (by simp only [List.length_append, wd_len, List.length_cons, List.length_nil]; omega), w64_nat (by omega)]
    simp only [Option.bind_some]
    rw [wd_succ, List.append_assoc, k2]
    have : BitVec.setWidth 8 (n / BitVec.ofNat 64 (2 ^ 56 / 256 ^ i) % 256#64) = (n >>> (56 - 8 * i)).setWidth 8 := by
      apply BitVec.eq_of_toNat_eq
      simp only at k3
      rw [k3]
      have h2 : 2 ^ (56 - 8 * i) < 2 ^ 64 := Nat.pow_lt_pow_right (by decide) (by omega)
      simp only [BitVec.toNat_setWidth, BitVec.toNat_umod, BitVec.toNat_udiv, BitVec.toNat_ofNat, BitVec.toNat_ushiftRight, Nat.shiftRight_eq_div_pow]
      rw [Nat.mod_eq_of_lt h2]
      generalize n.toNat / 2 ^ (56 - 8 * i) = q
      rw [show 256 % 2 ^ 64 = 256 by decide]
      omega
    rw [this]) (by simp [butteryref02_Word_b0, lt_eq])
  have h0 : b ++ wd n 0 = b := by simp [wd]
  rw [h0, show BitVec.ofNat 64 (2 ^ 56 / 256 ^ 0) = 72057594037927936#64 by decide, show ((0 : Nat) : Int) = 0 from rfl] at h
  simp only [butteryref02_Word_l0, h, Option.bind_some]
theorem shr35 {n : Nat} : shr64 (n : Int) 35 = ((n / 34359738368 : Nat) : Int) := by rw [shr64_nat (by omega)]
theorem octLen_n {n : Nat} (h : n < 9223372036854775808) : ∀ k, octets_Len_n (k + 3) (n : Int) = some (nlen n : Int) := by
  have hs : ∀ (rec : Int → Option Int) {n : Nat}, n < 34359738368 → octets_Len_F rec (n : Int) = some (nlen n : Int) := by
    intro rec n hn
    simp only [octets_Len_F, lt_eq]
    rw [if_neg (by rw [decide_eq_false (by omega)]; simp)]
    by_cases h4 : 268435456 ≤ n
    · rw [if_pos (decide_eq_true (by omega)), nlen_ge (by omega), nlen_ge (by omega), nlen_ge (by omega), nlen_ge (by omega), nlen_lt (by omega)]; rfl
    rw [if_neg (by rw [decide_eq_false (by omega)]; simp)]
    by_cases h3 : 2097152 ≤ n
    · rw [if_pos (decide_eq_true (by omega)), nlen_ge (by omega), nlen_ge (by omega), nlen_ge (by omega), nlen_lt (by omega)]; rfl
    rw [if_neg (by rw [decide_eq_false (by omega)]; simp)]
    by_cases h2 : 16384 ≤ n
    · rw [if_pos (decide_eq_true (by omega)), nlen_ge (by omega), nlen_ge (by omega), nlen_lt (by omega)]; rfl
    rw [if_neg (by rw [decide_eq_false (by omega)]; simp)]
    by_cases h1 : 128 ≤ n
    · rw [if_pos (decide_eq_true (by omega)), nlen_ge (by omega), nlen_lt (by omega)]; rfl
    rw [if_neg (by rw [decide_eq_false (by omega)]; simp), nlen_lt (by omega)]; rfl
  intro k
  by_cases hn : n < 34359738368
  · exact hs (octets_Len_n (k + 2)) hn
  · show octets_Len_F (octets_Len_n (k + 2)) (n : Int) = _
    simp only [octets_Len_F, lt_eq]
    rw [if_pos (decide_eq_true (by omega)), shr35]
    have : octets_Len_n (k + 2) ((n / 34359738368 : Nat) : Int) = _ := hs (octets_Len_n (k + 1)) (by omega)
    rw [this, Option.bind_some]
    have hq : nlen n = nlen (n / 34359738368) + 5 := by
      rw [nlen_ge (n := n) (by omega), nlen_ge (n := n / 128) (by omega), nlen_ge (n := n / 128 / 128) (by omega), nlen_ge (n := n / 128 / 128 / 128) (by omega), nlen_ge (n := n / 128 / 128 / 128 / 128) (by omega)]
      rw [show n / 128 / 128 / 128 / 128 / 128 = n / 34359738368 by omega]
    have hb : nlen (n / 34359738368) ≤ 10 := by
      have : n / 34359738368 < 268435456 := by omega
      generalize n / 34359738368 = m at this
      rcases Nat.lt_or_ge m 128 with h1 | h1
      · rw [nlen_lt h1]; omega
      rw [nlen_ge h1]
      rcases Nat.lt_or_ge (m / 128) 128 with h2 | h2
      · rw [nlen_lt h2]; omega
      rw [nlen_ge h2]
      rcases Nat.lt_or_ge (m / 128 / 128) 128 with h3 | h3
      · rw [nlen_lt h3]; omega
      rw [nlen_ge h3, nlen_lt (by omega)]; omega
    rw [w64_eq (by omega) (by omega), hq]
    congr 1; omega
theorem octLen_eq {n : Nat} (h : n < 9223372036854775808) : octets_Len (n : Int) = some (nlen n : Int) := octLen_n h 999997
theorem key_eq (x : List (BitVec 8)) : octets_Key x = butteryref02_Key x := by
  simp only [octets_Key, butteryref02_Key, lt_eq]
  cases x with
  | nil => rfl
  | cons a x => rw [if_neg (show ¬ ((((a :: x).length : Int) == 0) = true) by simp; omega), if_neg (show ¬ ((a :: x == []) = true) by simp)]
theorem key_some (x : List (BitVec 8)) : ∃ v, octets_Key x = some v := by
  simp only [octets_Key, lt_eq]
  split
  · exact ⟨_, rfl⟩
  · split <;> exact ⟨_, rfl⟩
end Go.Proofs.YtgfedohhkbmobaaDoor
namespace Go.Proofs.YtgfedohhkbmobaaDoor
open Go Go.Va
set_option linter.unusedVariables false
set_option linter.unusedSimpArgs false
set_option maxRecDepth 20000
noncomputable def octets_Reader_Number_b0 (x1 : Int) (c1 : Int) (c2 : Int) (c3 : octets_Reader) : Option ((Int × Int × octets_Reader) ⊕ (octets_Reader ⊕ (Int × octets_Reader))) :=
  lt (c3.code == (0 : Int)) fun v14 =>
  if v14 = true then
    lt (((c3.b).length : Int)) fun v17 =>
    lt (decide (c2 ≥ v17)) fun v19 =>
    if v19 = true then
      (octets_Reader_Fail c3 (6 : Int)).bind fun v22 =>
      some (.inr (.inl v22))
    else
      (ix c3.b c2).bind fun v24 =>
      lt (w64 (c2 + (1 : Int))) fun v26 =>
      (
        lt (v24 == 128#8) fun v32 =>
        if v32 = true then
          lt (c1 == (0 : Int)) fun v35 =>
          if v35 = true then
            lt (w64 (c3.at_ + (1 : Int))) fun v38 =>
            lt (v26 == v38) fun v40 =>
            some v40
          else
            some false
        else
          some false
       : Option (Bool)).bind fun s27 =>
        if s27 = true then
          (octets_Reader_Fail c3 (5 : Int)).bind fun v44 =>
          some (.inl (c1, v26, v44))
        else
          lt (shr64 x1 7) fun v46 =>
          lt (decide (c1 > v46)) fun v48 =>
          if v48 = true then
            (octets_Reader_Fail c3 (2 : Int)).bind fun v51 =>
            some (.inl (c1, v26, v51))
          else
            lt (decide (128#8 ≤ v24)) fun v53 =>
            if v53 = true then
              lt (shl64 c1 7) fun v56 =>
              lt (v24 &&& 127#8) fun v58 =>
              lt ((BitVec.toNat v58 : Int)) fun v60 =>
              lt (or64 v56 v60) fun v62 =>
              some (.inl (v62, v26, c3))
            else
              lt (shl64 c1 7) fun v64 =>
              lt ((BitVec.toNat v24 : Int)) fun v66 =>
              lt (or64 v64 v66) fun v68 =>
              lt (decide (v68 > x1)) fun v70 =>
              if v70 = true then
                (octets_Reader_Fail c3 (2 : Int)).bind fun v73 =>
                some (.inl (v68, v26, v73))
              else
                lt (({ c3 with at_ := v26 } : octets_Reader)) fun c75 =>
                some (.inr (.inr (v68, c75)))
  else
    some (.inr (.inl c3))
noncomputable def octets_Reader_Number_l0 (x1 : Int) (s : Int × Int × octets_Reader) : Option (octets_Reader ⊕ (Int × octets_Reader)) := loopO (fun s => octets_Reader_Number_b0 x1 s.1 s.2.1 s.2.2) s
noncomputable def octets_Reader_Number (x0 : octets_Reader) (x1 : Int) : Option (Int × octets_Reader) :=
  (octets_Reader_Number_l0 x1 ((0 : Int), x0.at_, x0)).bind fun o4 =>
    Sum.elim (fun s11 : octets_Reader =>
      some ((0 : Int), s11)
      ) (fun y => some y) o4
end Go.Proofs.YtgfedohhkbmobaaDoor
namespace Go.Proofs.YtgfedohhkbmobaaDoor
open Go Go.Va
set_option linter.unusedVariables false
set_option linter.unusedSimpArgs false
set_option maxRecDepth 20000
noncomputable def octets_Reader_Bytes (x0 : octets_Reader) (x1 : Int) : Option ((List (BitVec 8)) × octets_Reader) :=
  (octets_Reader_Number x0 x1).bind fun v2 =>
  lt (v2.2.code != (0 : Int)) fun v4 =>
  if v4 = true then
    some ([], v2.2)
  else
    (octets_Reader_Left v2.2).bind fun v7 =>
    lt (decide (v2.1 > v7)) fun v9 =>
    if v9 = true then
      lt (({ v2.2 with at_ := x0.at_ } : octets_Reader)) fun c12 =>
      (octets_Reader_Fail c12 (6 : Int)).bind fun v15 =>
      some ([], v15)
    else
      lt (w64 (v2.2.at_ + v2.1)) fun v17 =>
      (cutO v2.2.b v2.2.at_ v17).bind fun v19 =>
      (app 1 ([] : List (BitVec 8)) v19).bind fun v21 =>
      lt (w64 (v2.2.at_ + v2.1)) fun v25 =>
      lt (({ v2.2 with at_ := v25 } : octets_Reader)) fun c27 =>
      some (v21, c27)
end Go.Proofs.YtgfedohhkbmobaaDoor
namespace Go.Proofs.YtgfedohhkbmobaaDoor
open Go Go.Va
set_option linter.unusedVariables false
set_option linter.unusedSimpArgs false
set_option maxRecDepth 20000
noncomputable def butteryref02_fail (x0 : butteryref02_Reader) (x1 : Int) : Option (butteryref02_Reader) :=
  lt (x0.Code == (0 : Int)) fun v7 =>
  if v7 = true then
    lt (({ (x0 : butteryref02_Reader) with Code := x1 } : butteryref02_Reader)) fun c10 =>
    some (c10 : butteryref02_Reader)
  else
    some ((x0 : butteryref02_Reader) : butteryref02_Reader)
end Go.Proofs.YtgfedohhkbmobaaDoor
namespace Go.Proofs.YtgfedohhkbmobaaDoor
open Go Go.Va
set_option linter.unusedVariables false
set_option linter.unusedSimpArgs false
set_option maxRecDepth 20000
noncomputable def butteryref02_Number_b0 (x0 : butteryref02_Reader) (x1 : Int) (c7 : Int) (c8 : Int) : Option ((Int × Int) ⊕ (Unit ⊕ (butteryref02_Reader × Int))) :=
  lt (((x0.B).length : Int)) fun v19 =>
  lt (decide (c8 < v19)) fun v21 =>
  if v21 = true then
    (ix x0.B c8).bind fun v24 =>
    lt ((BitVec.toNat v24 : Int)) fun v26 =>
    (
      lt (v26 == (128 : Int)) fun v32 =>
      if v32 = true then
        lt (c8 == x0.At) fun v35 =>
        some v35
      else
        some false
     : Option (Bool)).bind fun s27 =>
      if s27 = true then
        (butteryref02_fail x0 (5 : Int)).bind fun v39 =>
        some (.inr (.inr ((v39 : butteryref02_Reader), (0 : Int))))
      else
        lt (quo64 x1 (128 : Int)) fun v43 =>
        lt (decide (c7 > v43)) fun v45 =>
        if v45 = true then
          (butteryref02_fail x0 (2 : Int)).bind fun v48 =>
          some (.inr (.inr ((v48 : butteryref02_Reader), (0 : Int))))
        else
          lt (w64 (c7 * (128 : Int))) fun v52 =>
          lt (Int.tmod v26 (128 : Int)) fun v54 =>
          lt (w64 (v52 + v54)) fun v56 =>
          lt (decide (v26 ≥ (128 : Int))) fun v58 =>
          if v58 = true then
            lt (w64 (c8 + (1 : Int))) fun v61 =>
            some (.inl (v56, v61))
          else
            lt (decide (v56 > x1)) fun v63 =>
            if v63 = true then
              (butteryref02_fail x0 (2 : Int)).bind fun v66 =>
              some (.inr (.inr ((v66 : butteryref02_Reader), (0 : Int))))
            else
              lt (w64 (c8 + (1 : Int))) fun v73 =>
              lt (({ (x0 : butteryref02_Reader) with At := v73 } : butteryref02_Reader)) fun c75 =>
              some (.inr (.inr ((c75 : butteryref02_Reader), v56)))
  else
    some (.inr (.inl ()))
noncomputable def butteryref02_Number_l0 (x0 : butteryref02_Reader) (x1 : Int) (s : Int × Int) : Option (Unit ⊕ (butteryref02_Reader × Int)) := loopO (fun s => butteryref02_Number_b0 x0 x1 s.1 s.2) s
noncomputable def butteryref02_Number (x0 : butteryref02_Reader) (x1 : Int) : Option (butteryref02_Reader × Int) :=
  lt (x0.Code != (0 : Int)) fun v4 =>
  if v4 = true then
    some ((x0 : butteryref02_Reader), (0 : Int))
  else
    (butteryref02_Number_l0 x0 x1 ((0 : Int), x0.At)).bind fun o9 =>
      Sum.elim (fun s16 : Unit =>
        (butteryref02_fail x0 (6 : Int)).bind fun v81 =>
        some ((v81 : butteryref02_Reader), (0 : Int))
        ) (fun y => some y) o9
end Go.Proofs.YtgfedohhkbmobaaDoor
namespace Go.Proofs.YtgfedohhkbmobaaDoor
open Go Go.Va
set_option linter.unusedVariables false
set_option linter.unusedSimpArgs false
set_option maxRecDepth 20000
noncomputable def butteryref02_Text (x0 : butteryref02_Reader) (x1 : Int) : Option (butteryref02_Reader × (List (BitVec 8))) :=
  (butteryref02_Number x0 x1).bind fun v4 =>
  lt (((v4.1 : butteryref02_Reader).Code) != (0 : Int)) fun v9 =>
  if v9 = true then
    some (((v4.1 : butteryref02_Reader) : butteryref02_Reader), [])
  else
    lt ((((v4.1 : butteryref02_Reader).B).length : Int)) fun v13 =>
    lt (w64 (v13 - ((v4.1 : butteryref02_Reader).At))) fun v15 =>
    lt (decide (v4.2 > v15)) fun v17 =>
    if v17 = true then
      (butteryref02_fail x0 (6 : Int)).bind fun v20 =>
      some ((v20 : butteryref02_Reader), [])
    else
      lt (w64 (((v4.1 : butteryref02_Reader).At) + v4.2)) fun v23 =>
      (cutO ((v4.1 : butteryref02_Reader).B) ((v4.1 : butteryref02_Reader).At) v23).bind fun v25 =>
      (app 1 ([] : List (BitVec 8)) v25).bind fun v27 =>
      lt (w64 (((v4.1 : butteryref02_Reader).At) + v4.2)) fun v31 =>
      lt (({ (v4.1 : butteryref02_Reader) with At := v31 } : butteryref02_Reader)) fun c33 =>
      some ((c33 : butteryref02_Reader), v27)
end Go.Proofs.YtgfedohhkbmobaaDoor
namespace Go.Proofs.YtgfedohhkbmobaaDoor
open Go Go.Va
set_option linter.unusedVariables false
set_option linter.unusedSimpArgs false
set_option maxRecDepth 20000
noncomputable def butteryref02_Eight_b0 (x0 : butteryref02_Reader) (c17 : BitVec 64) (c18 : Int) : Option (((BitVec 64) × Int) ⊕ ((BitVec 64))) :=
  lt (decide (c18 < (8 : Int))) fun v29 =>
  if v29 = true then
    lt (c17 * 256#64) fun v32 =>
    lt (w64 (x0.At + c18)) fun v34 =>
    (ix x0.B v34).bind fun v36 =>
    lt (BitVec.setWidth 64 v36) fun v38 =>
    lt (v32 + v38) fun v40 =>
    lt (w64 (c18 + (1 : Int))) fun v42 =>
    some (.inl (v40, v42))
  else
    some (.inr c17)
noncomputable def butteryref02_Eight_l0 (x0 : butteryref02_Reader) (s : (BitVec 64) × Int) : Option ((BitVec 64)) := loopO (fun s => butteryref02_Eight_b0 x0 s.1 s.2) s
noncomputable def butteryref02_Eight (x0 : butteryref02_Reader) : Option (butteryref02_Reader × (BitVec 64)) :=
  lt (x0.Code != (0 : Int)) fun v4 =>
  if v4 = true then
    some ((x0 : butteryref02_Reader), 0#64)
  else
    lt (((x0.B).length : Int)) fun v8 =>
    lt (w64 (v8 - x0.At)) fun v10 =>
    lt (decide (v10 < (8 : Int))) fun v12 =>
    if v12 = true then
      (butteryref02_fail x0 (6 : Int)).bind fun v15 =>
      some ((v15 : butteryref02_Reader), 0#64)
    else
      (butteryref02_Eight_l0 x0 (0#64, (0 : Int))).bind fun s26 =>
        lt (w64 (x0.At + (8 : Int))) fun v48 =>
        lt (({ (x0 : butteryref02_Reader) with At := v48 } : butteryref02_Reader)) fun c50 =>
        some ((c50 : butteryref02_Reader), s26)
end Go.Proofs.YtgfedohhkbmobaaDoor
namespace Go.Proofs.YtgfedohhkbmobaaDoor
open Go Go.Va
set_option linter.unusedVariables false
set_option linter.unusedSimpArgs false
theorem drop_cons {b l : List (BitVec 8)} {c : BitVec 8} {pos : Nat} (h : b.drop pos = c :: l) : ∃ hp : pos < b.length, b[pos] = c ∧ b.drop (pos + 1) = l := by
  have hp : pos < b.length := by
    rcases Nat.lt_or_ge pos b.length with h1 | h1
    · exact h1
    · rw [List.drop_of_length_le h1] at h; cases h
  rw [List.drop_eq_getElem_cons hp] at h
  simp only [List.cons.injEq] at h
  exact ⟨hp, h.1, h.2⟩
theorem fail_eq (b : List (BitVec 8)) (a e : Int) : octets_Reader_Fail ⟨b, a, 0⟩ e = some ⟨b, a, e⟩ := rfl
theorem rfail_eq (b : List (BitVec 8)) (a e : Int) : butteryref02_fail ⟨b, a, 0⟩ e = some ⟨b, a, e⟩ := rfl
def oOut (b : List (BitVec 8)) (a pos : Nat) : Int ⊕ (Nat × Nat) → octets_Reader ⊕ (Int × octets_Reader)
  | .inl e => .inl ⟨b, a, e⟩
  | .inr (m, k) => .inr ((m : Int), ⟨b, ((pos + k : Nat) : Int), 0⟩)
theorem oOut_go (b : List (BitVec 8)) (a pos : Nat) (r : Int ⊕ (Nat × Nat)) : oOut b a pos (up7 r) = oOut b a (pos + 1) r := by
  cases r with
  | inl e => rfl
  | inr p => simp only [up7, oOut]; rw [show pos + (p.2 + 1) = pos + 1 + p.2 by omega]
theorem rd7_err {most : Nat} : ∀ {l : List (BitVec 8)} {f : Bool} {n : Nat} {e : Int}, rd7 most l f n = .inl e → e = 2 ∨ e = 5 ∨ e = 6
  | [], f, n, e, h => by simp [rd7] at h; omega
  | c :: l, f, n, e, h => by
    simp only [rd7] at h
    split at h
    · cases h; simp
    · split at h
      · cases h; simp
      · split at h
        · cases hr : rd7 most l false (n * 128 + c.toNat % 128) with
          | inl e' => rw [hr] at h; cases h; exact rd7_err hr
          | inr p => rw [hr] at h; cases h
        · split at h
          · cases h; simp
          · cases h
theorem octNum_stop (most : Int) (b : List (BitVec 8)) (n pos a e : Int) (he : e ≠ 0) : octets_Reader_Number_l0 most (n, pos, ⟨b, a, e⟩) = some (.inl ⟨b, a, e⟩) :=
  loopO_out (by simp [octets_Reader_Number_b0, lt_eq, he])
theorem le_byte (c : BitVec 8) : (128#8 ≤ c) ↔ 128 ≤ c.toNat := by rw [BitVec.le_def]; rfl
theorem octNum_l {b : List (BitVec 8)} {most a : Nat} (hb : b.length ≤ 1000000) (hm : most < 9223372036854775808) : ∀ (l : List (BitVec 8)) (pos n : Nat) (f : Bool), b.drop pos = l → pos ≤ b.length → (f = true → n = 0 ∧ pos = a) → (f = false → a < pos) → n < 9223372036854775808 →
    octets_Reader_Number_l0 (most : Int) ((n : Int), (pos : Int), ⟨b, (a : Int), 0⟩) = some (oOut b a pos (rd7 most l f n))
  | [], pos, n, f, hl, hp, _, _, _ => by
    have hlen : pos = b.length := by
      have := congrArg List.length hl
      simp at this; omega
    refine loopO_out ?_
    simp only [octets_Reader_Number_b0, lt_eq]
    rw [if_pos (by rfl), if_pos (decide_eq_true (by omega)), fail_eq]
    rfl
  | c :: l, pos, n, f, hl, hp, hf, hg, hn => by
    obtain ⟨hlt, hc, hd⟩ := drop_cons hl
    have e0 : w64 ((pos : Int) + 1) = ((pos + 1 : Nat) : Int) := w64_nat (by omega)
    have e1 : w64 ((a : Int) + 1) = ((a + 1 : Nat) : Int) := by
      have : a ≤ pos := by cases f with | true => have := (hf rfl).2; omega | false => have := hg rfl; omega
      exact w64_nat (by omega)
    have e2 : shr64 (most : Int) 7 = ((most / 128 : Nat) : Int) := by rw [shr64_nat (by omega)]
    have hcl := c.isLt
    have hcond : (if (c == 128#8) = true then (if ((n : Int) == 0) = true then some (((pos + 1 : Nat) : Int) == ((a + 1 : Nat) : Int)) else some false) else some false) = some (decide (c = 128#8 ∧ f = true)) := by
      by_cases h1 : c = 128#8
      · rw [if_pos (by simp [h1])]
        cases f with
        | true =>
          obtain ⟨rfl, rfl⟩ := hf rfl
          simp [h1]
        | false =>
          have := hg rfl
          split
          · have : (((pos + 1 : Nat) : Int) == ((a + 1 : Nat) : Int)) = false := by simp; omega
            rw [this]; simp
          · simp
      · rw [if_neg (by simpa using h1)]; simp [h1]
    have hb0 : octets_Reader_Number_b0 (most : Int) (n : Int) (pos : Int) ⟨b, (a : Int), 0⟩ =
        if c = 128#8 ∧ f = true then some (.inl ((n : Int), ((pos + 1 : Nat) : Int), ⟨b, (a : Int), 5⟩)) else if most / 128 < n then some (.inl ((n : Int), ((pos + 1 : Nat) : Int), ⟨b, (a : Int), 2⟩)) else
        if 128 ≤ c.toNat then some (.inl (((n * 128 + c.toNat % 128 : Nat) : Int), ((pos + 1 : Nat) : Int), ⟨b, (a : Int), 0⟩)) else
        if most < n * 128 + c.toNat then some (.inl (((n * 128 + c.toNat : Nat) : Int), ((pos + 1 : Nat) : Int), ⟨b, (a : Int), 2⟩)) else some (.inr (.inr (((n * 128 + c.toNat : Nat) : Int), ⟨b, ((pos + 1 : Nat) : Int), 0⟩))) := by
      simp only [octets_Reader_Number_b0, lt_eq]
      rw [if_pos (by rfl), if_neg (by rw [decide_eq_false (by omega)]; simp), ix_nat hlt, hc]
      simp only [Option.bind_some, e0, e1, e2]
      rw [hcond]
      simp only [Option.bind_some, decide_eq_true_eq]
      by_cases h1 : c = 128#8 ∧ f = true
      · rw [if_pos h1, if_pos h1, fail_eq]; rfl
      · rw [if_neg h1, if_neg h1]
        by_cases h2 : most / 128 < n
        · rw [if_pos (by omega), if_pos h2, fail_eq]; rfl
        · rw [if_neg (by omega), if_neg h2]
          by_cases h3 : 128 ≤ c.toNat
          · rw [if_pos ((le_byte c).2 h3), if_pos h3, byte_and, or64_7 (by omega) (by omega)]
          · rw [if_neg (fun h => h3 ((le_byte c).1 h)), if_neg h3, or64_7 (by omega) (by omega)]
            by_cases h4 : most < n * 128 + c.toNat
            · rw [if_pos (by omega), if_pos h4, fail_eq]; rfl
            · rw [if_neg (by omega), if_neg h4]
    have step : ∀ (s' : Int × Int × octets_Reader), octets_Reader_Number_b0 (most : Int) (n : Int) (pos : Int) ⟨b, (a : Int), 0⟩ = some (.inl s') → octets_Reader_Number_l0 (most : Int) ((n : Int), (pos : Int), ⟨b, (a : Int), 0⟩) = octets_Reader_Number_l0 (most : Int) s' := fun s' h => loopO_in (body := fun s => octets_Reader_Number_b0 (most : Int) s.1 s.2.1 s.2.2) h
    simp only [rd7]
    by_cases h1 : c = 128#8 ∧ f = true
    · rw [if_pos h1] at hb0 ⊢
      rw [step _ hb0, octNum_stop _ _ _ _ _ _ (by decide)]; rfl
    · rw [if_neg h1] at hb0 ⊢
      by_cases h2 : most / 128 < n
      · rw [if_pos h2] at hb0 ⊢
        rw [step _ hb0, octNum_stop _ _ _ _ _ _ (by decide)]; rfl
      · rw [if_neg h2] at hb0 ⊢
        by_cases h3 : 128 ≤ c.toNat
        · rw [if_pos h3] at hb0 ⊢
          rw [step _ hb0, octNum_l hb hm l (pos + 1) (n * 128 + c.toNat % 128) false hd (by omega) (by simp) (fun _ => by cases f with | true => have := (hf rfl).2; omega | false => have := hg rfl; omega) (by omega), oOut_go]
        · rw [if_neg h3] at hb0 ⊢
          by_cases h4 : most < n * 128 + c.toNat
          · rw [if_pos h4] at hb0 ⊢
            rw [step _ hb0, octNum_stop _ _ _ _ _ _ (by decide)]; rfl
          · rw [if_neg h4] at hb0 ⊢
            exact loopO_out (body := fun s => octets_Reader_Number_b0 (most : Int) s.1 s.2.1 s.2.2) hb0
def rOut (b : List (BitVec 8)) (a pos : Nat) : Int ⊕ (Nat × Nat) → Unit ⊕ (butteryref02_Reader × Int)
  | .inl e => if e = 6 then .inl () else .inr (⟨b, a, e⟩, 0)
  | .inr (m, k) => .inr (⟨b, ((pos + k : Nat) : Int), 0⟩, (m : Int))
theorem rOut_go (b : List (BitVec 8)) (a pos : Nat) (r : Int ⊕ (Nat × Nat)) : rOut b a pos (up7 r) = rOut b a (pos + 1) r := by
  cases r with
  | inl e => rfl
  | inr p => simp only [up7, rOut]; rw [show pos + (p.2 + 1) = pos + 1 + p.2 by omega]
theorem refNum_l {b : List (BitVec 8)} {most a : Nat} (hb : b.length ≤ 1000000) (hm : most < 9223372036854775808) : ∀ (l : List (BitVec 8)) (pos n : Nat) (f : Bool), b.drop pos = l → pos ≤ b.length → (f = true → n = 0 ∧ pos = a) → (f = false → a < pos) → n < 9223372036854775808 →
    butteryref02_Number_l0 ⟨b, (a : Int), 0⟩ (most : Int) ((n : Int), (pos : Int)) = some (rOut b a pos (rd7 most l f n))
  | [], pos, n, f, hl, hp, _, _, _ => by
    have hlen : pos = b.length := by
      have := congrArg List.length hl
      simp at this; omega
    refine loopO_out ?_
    simp only [butteryref02_Number_b0, lt_eq]
    rw [if_neg (by rw [decide_eq_false (by omega)]; simp)]
    rfl
  | c :: l, pos, n, f, hl, hp, hf, hg, hn => by
    obtain ⟨hlt, hc, hd⟩ := drop_cons hl
    have e0 : w64 ((pos : Int) + 1) = ((pos + 1 : Nat) : Int) := w64_nat (by omega)
    have e2 : quo64 (most : Int) 128 = ((most / 128 : Nat) : Int) := quo64_nat hm
    have e3 : Int.tmod (c.toNat : Int) 128 = ((c.toNat % 128 : Nat) : Int) := tmod_nat _ 128
    have hcl := c.isLt
    have e4 : ((c.toNat : Int) == 128) = decide (c = 128#8) := by
      rw [Bool.eq_iff_iff]; simp only [beq_iff_eq, decide_eq_true_eq]
      constructor
      · intro h; apply BitVec.eq_of_toNat_eq; show _ = 128; omega
      · rintro rfl; rfl
    have hcond : (if decide (c = 128#8) = true then some ((pos : Int) == (a : Int)) else some false) = some (decide (c = 128#8 ∧ f = true)) := by
      by_cases h1 : c = 128#8
      · rw [if_pos (by simp [h1])]
        cases f with
        | true =>
          obtain ⟨rfl, rfl⟩ := hf rfl
          simp [h1]
        | false =>
          have := hg rfl
          have : ((pos : Int) == (a : Int)) = false := by simp; omega
          rw [this]; simp
      · rw [if_neg (by simpa using h1)]; simp [h1]
    have hb0 : butteryref02_Number_b0 ⟨b, (a : Int), 0⟩ (most : Int) (n : Int) (pos : Int) =
        if c = 128#8 ∧ f = true then some (.inr (.inr (⟨b, (a : Int), 5⟩, 0))) else if most / 128 < n then some (.inr (.inr (⟨b, (a : Int), 2⟩, 0))) else
        if 128 ≤ c.toNat then some (.inl (((n * 128 + c.toNat % 128 : Nat) : Int), ((pos + 1 : Nat) : Int))) else
        if most < n * 128 + c.toNat then some (.inr (.inr (⟨b, (a : Int), 2⟩, 0))) else some (.inr (.inr (⟨b, ((pos + 1 : Nat) : Int), 0⟩, ((n * 128 + c.toNat : Nat) : Int)))) := by
      simp only [butteryref02_Number_b0, lt_eq]
      rw [if_pos (decide_eq_true (by omega)), ix_nat hlt, hc]
      simp only [Option.bind_some, e0, e2, e3, e4]
      rw [hcond]
      simp only [Option.bind_some, decide_eq_true_eq]
      by_cases h1 : c = 128#8 ∧ f = true
      · rw [if_pos h1, if_pos h1, rfail_eq]; rfl
      · rw [if_neg h1, if_neg h1]
        by_cases h2 : most / 128 < n
        · rw [if_pos (by omega), if_pos h2, rfail_eq]; rfl
        · rw [if_neg (by omega), if_neg h2, w64_eq (n := (n : Int) * 128) (by omega) (by omega), w64_eq (by omega) (by omega)]
          by_cases h3 : 128 ≤ c.toNat
          · rw [if_pos (by omega), if_pos h3]
            rw [show ((n : Int) * 128 + ((c.toNat % 128 : Nat) : Int)) = ((n * 128 + c.toNat % 128 : Nat) : Int) by omega]
          · rw [if_neg (by omega), if_neg h3]
            rw [show ((n : Int) * 128 + ((c.toNat % 128 : Nat) : Int)) = ((n * 128 + c.toNat : Nat) : Int) by omega]
            by_cases h4 : most < n * 128 + c.toNat
            · rw [if_pos (by omega), if_pos h4, rfail_eq]; rfl
            · rw [if_neg (by omega), if_neg h4]
    have hout : ∀ x, butteryref02_Number_b0 ⟨b, (a : Int), 0⟩ (most : Int) (n : Int) (pos : Int) = some (.inr x) → butteryref02_Number_l0 ⟨b, (a : Int), 0⟩ (most : Int) ((n : Int), (pos : Int)) = some x := fun x h => loopO_out (body := fun s => butteryref02_Number_b0 ⟨b, (a : Int), 0⟩ (most : Int) s.1 s.2) h
    have step : ∀ (s' : Int × Int), butteryref02_Number_b0 ⟨b, (a : Int), 0⟩ (most : Int) (n : Int) (pos : Int) = some (.inl s') → butteryref02_Number_l0 ⟨b, (a : Int), 0⟩ (most : Int) ((n : Int), (pos : Int)) = butteryref02_Number_l0 ⟨b, (a : Int), 0⟩ (most : Int) s' := fun s' h => loopO_in (body := fun s => butteryref02_Number_b0 ⟨b, (a : Int), 0⟩ (most : Int) s.1 s.2) h
    simp only [rd7]
    by_cases h1 : c = 128#8 ∧ f = true
    · rw [if_pos h1] at hb0 ⊢
      exact hout _ hb0
    · rw [if_neg h1] at hb0 ⊢
      by_cases h2 : most / 128 < n
      · rw [if_pos h2] at hb0 ⊢
        exact hout _ hb0
      · rw [if_neg h2] at hb0 ⊢
        by_cases h3 : 128 ≤ c.toNat
        · rw [if_pos h3] at hb0 ⊢
          rw [step _ hb0, refNum_l hb hm l (pos + 1) (n * 128 + c.toNat % 128) false hd (by omega) (by simp) (fun _ => by cases f with | true => have := (hf rfl).2; omega | false => have := hg rfl; omega) (by omega), rOut_go]
        · rw [if_neg h3] at hb0 ⊢
          by_cases h4 : most < n * 128 + c.toNat
          · rw [if_pos h4] at hb0 ⊢
            exact hout _ hb0
          · rw [if_neg h4] at hb0 ⊢
            exact hout _ hb0
/-- What is read, and where the reader stands then. -/
def rdN (b : List (BitVec 8)) (a most : Nat) : Nat × Nat × Int := match rd7 most (b.drop a) true 0 with
  | .inl e => (0, a, e)
  | .inr (m, k) => (m, a + k, 0)
theorem octNum_eq {b : List (BitVec 8)} {a most : Nat} (hb : b.length ≤ 1000000) (ha : a ≤ b.length) (hm : most < 9223372036854775808) : octets_Reader_Number ⟨b, a, 0⟩ most = some (((rdN b a most).1 : Int), ⟨b, ((rdN b a most).2.1 : Int), (rdN b a most).2.2⟩) := by
  simp only [octets_Reader_Number]
  have := octNum_l hb hm (b.drop a) a 0 true rfl ha (fun _ => ⟨rfl, rfl⟩) (fun h => by cases h) (by omega)
  rw [show ((0 : Nat) : Int) = 0 from rfl] at this
  rw [this]
  unfold rdN
  cases rd7 most (b.drop a) true 0 with
  | inl e => rfl
  | inr p => rfl
theorem refNum_eq {b : List (BitVec 8)} {a most : Nat} (hb : b.length ≤ 1000000) (ha : a ≤ b.length) (hm : most < 9223372036854775808) : butteryref02_Number ⟨b, a, 0⟩ most = some (⟨b, ((rdN b a most).2.1 : Int), (rdN b a most).2.2⟩, ((rdN b a most).1 : Int)) := by
  simp only [butteryref02_Number, lt_eq]
  rw [if_neg (by simp)]
  have := refNum_l hb hm (b.drop a) a 0 true rfl ha (fun _ => ⟨rfl, rfl⟩) (fun h => by cases h) (by omega)
  rw [show ((0 : Nat) : Int) = 0 from rfl] at this
  rw [this]
  unfold rdN
  cases h : rd7 most (b.drop a) true 0 with
  | inl e =>
    rcases rd7_err h with rfl | rfl | rfl <;> rfl
  | inr p => rfl
theorem rdN_le {b : List (BitVec 8)} {a most : Nat} (ha : a ≤ b.length) : (rdN b a most).2.1 ≤ b.length ∧ a ≤ (rdN b a most).2.1 ∧ (rdN b a most).1 ≤ most ∧ ((rdN b a most).2.2 ≠ 0 → (rdN b a most).1 = 0 ∧ (rdN b a most).2.1 = a) := by
  unfold rdN
  cases h : rd7 most (b.drop a) true 0 with
  | inl e => exact ⟨ha, Nat.le_refl _, Nat.zero_le _, fun _ => ⟨rfl, rfl⟩⟩
  | inr p =>
    have := rd7_le h
    simp only [List.length_drop] at this
    exact ⟨by simp only; omega, by simp only; omega, this.1, fun h => absurd rfl h⟩
theorem rdN_off {b : List (BitVec 8)} {a : Int} {most e : Int} (he : e ≠ 0) : octets_Reader_Number ⟨b, a, e⟩ most = some (0, ⟨b, a, e⟩) := by
  simp only [octets_Reader_Number, octNum_stop _ _ _ _ _ _ he]; rfl
theorem refN_off {b : List (BitVec 8)} {a : Int} {most e : Int} (he : e ≠ 0) : butteryref02_Number ⟨b, a, e⟩ most = some (⟨b, a, e⟩, 0) := by
  simp [butteryref02_Number, lt_eq, he]
theorem left_eq {b : List (BitVec 8)} {a : Nat} {e : Int} (hb : b.length ≤ 1000000) (ha : a ≤ b.length) : octets_Reader_Left ⟨b, a, e⟩ = some ((b.length - a : Nat) : Int) := by
  simp only [octets_Reader_Left, lt_eq]
  rw [w64_eq (by omega) (by omega)]
  congr 1; omega
end Go.Proofs.YtgfedohhkbmobaaDoor
namespace Go.Proofs.YtgfedohhkbmobaaDoor
open Go Go.Va
set_option linter.unusedVariables false
set_option linter.unusedSimpArgs false
def stp (a : BitVec 64) (c : BitVec 8) : BitVec 64 := a <<< 8 ||| c.setWidth 64
def word (l : List (BitVec 8)) : BitVec 64 := l.foldl stp 0#64
theorem stp_add (a : BitVec 64) (c : BitVec 8) : a * 256#64 + c.setWidth 64 = stp a c := by
  have h1 : a * 256#64 = a <<< 8 := by
    apply BitVec.eq_of_toNat_eq
    simp [Nat.shiftLeft_eq]
  have h2 : a <<< 8 &&& c.setWidth 64 = 0#64 := by
    apply BitVec.eq_of_getLsbD_eq
    intro i hi
    simp only [BitVec.getLsbD_and, BitVec.getLsbD_shiftLeft, BitVec.getLsbD_setWidth, BitVec.getLsbD_zero]
    by_cases h : i < 8
    · simp [h]
    · rw [BitVec.getLsbD_of_ge c i (by omega)]; simp
  rw [h1, BitVec.add_eq_or_of_and_eq_zero _ _ h2]; rfl
theorem word_wd (n : BitVec 64) : ∀ i, i ≤ 8 → word (wd n i) = n >>> (64 - 8 * i)
  | 0, _ => by
    apply BitVec.eq_of_getLsbD_eq
    intro j hj
    rw [BitVec.getLsbD_ushiftRight, BitVec.getLsbD_of_ge n _ (by omega)]; simp [word, wd]
  | i + 1, h => by
    rw [wd_succ, word, List.foldl_append]
    have ih := word_wd n i (by omega)
    rw [word] at ih
    rw [ih]
    simp only [List.foldl_cons, List.foldl_nil, stp]
    apply BitVec.eq_of_getLsbD_eq
    intro j hj
    simp only [BitVec.getLsbD_or, BitVec.getLsbD_shiftLeft, BitVec.getLsbD_ushiftRight, BitVec.getLsbD_setWidth]
    by_cases h8 : j < 8
    · simp [h8, hj, show 64 - 8 * (i + 1) = 56 - 8 * i by omega]
    · simp only [h8, hj, decide_true, decide_false, Bool.not_false, Bool.and_true, Bool.true_and, Bool.false_and, Bool.and_false, Bool.or_false]
      congr 1; omega
theorem word_full (n : BitVec 64) : word (wd n 8) = n := by
  rw [word_wd n 8 (by omega)]; simp
/-- Eight bytes. -/
def cut8 (b : List (BitVec 8)) (a : Nat) : List (BitVec 8) := (b.take (a + 8)).drop a
theorem cut8_len {b : List (BitVec 8)} {a : Nat} (h : a + 8 ≤ b.length) : (cut8 b a).length = 8 := by simp [cut8]; omega
theorem octWord_l (R : octets_Reader) (l : List (BitVec 8)) (hl : l.length < 9223372036854775807) : octets_Reader_Word_l0 R l (l.length : Int) (0#64, 0) = some (word l) :=
  loopO_foldl l stp id (body := fun s => octets_Reader_Word_b0 R l (l.length : Int) s.1 s.2) (fun s i hi => by
    simp only [octets_Reader_Word_b0, lt_eq, ix_nat hi, Option.bind_some, w64_nat (show i < 9223372036854775807 by omega)]
    rw [if_pos (by simpa using hi)]; rfl) (fun s => by simp [octets_Reader_Word_b0, lt_eq]) 0#64
theorem octWordR_eq {b : List (BitVec 8)} {a : Nat} (hb : b.length ≤ 1000000) (ha : a ≤ b.length) : octets_Reader_Word ⟨b, a, 0⟩ = some (if a + 8 ≤ b.length then (word (cut8 b a), ⟨b, ((a + 8 : Nat) : Int), 0⟩) else (0#64, ⟨b, a, 6⟩)) := by
  simp only [octets_Reader_Word, lt_eq]
  rw [if_pos (by rfl), left_eq hb ha]
  simp only [Option.bind_some]
  by_cases h : a + 8 ≤ b.length
  · rw [if_pos h, if_neg (by rw [decide_eq_false (by omega)]; simp)]
    simp only [Option.bind_some]
    rw [if_neg (by simp), w64_eq (by omega) (by omega), show (a : Int) + 8 = ((a + 8 : Nat) : Int) by omega, cutO_eq (by omega) h]
    have := octWord_l ⟨b, a, 0⟩ (cut8 b a) (by rw [cut8_len h]; omega)
    unfold cut8 at this
    simp only [Option.bind_some, this]
    rfl
  · rw [if_neg h, if_pos (decide_eq_true (by omega)), fail_eq]
    rfl
theorem octWordR_off {b : List (BitVec 8)} {a e : Int} (he : e ≠ 0) : octets_Reader_Word ⟨b, a, e⟩ = some (0#64, ⟨b, a, e⟩) := by
  simp [octets_Reader_Word, lt_eq, he]
theorem eight_eq {b : List (BitVec 8)} {a : Nat} (hb : b.length ≤ 1000000) (ha : a ≤ b.length) : butteryref02_Eight ⟨b, a, 0⟩ = some (if a + 8 ≤ b.length then (⟨b, ((a + 8 : Nat) : Int), 0⟩, word (cut8 b a)) else (⟨b, a, 6⟩, 0#64)) := by
  simp only [butteryref02_Eight, lt_eq]
  rw [if_neg (by simp), w64_eq (by omega) (by omega)]
  by_cases h : a + 8 ≤ b.length
  · rw [if_pos h, if_neg (by rw [decide_eq_false (by omega)]; simp)]
    have hl := cut8_len h
    have k := loopO_foldl (cut8 b a) stp id (body := fun s => butteryref02_Eight_b0 ⟨b, a, 0⟩ s.1 s.2) (fun s i hi => by
      have hi8 : i < 8 := by omega
      have e1 : w64 ((a : Int) + (i : Int)) = ((a + i : Nat) : Int) := by rw [w64_eq (by omega) (by omega)]; omega
      simp only [butteryref02_Eight_b0, lt_eq, e1, ix_nat (show a + i < b.length by omega), Option.bind_some, w64_nat (show i < 9223372036854775807 by omega)]
      rw [if_pos (decide_eq_true (by omega)), stp_add]
      have : (cut8 b a)[i] = b[a + i] := by simp [cut8]
      rw [this]) (fun s => by rw [hl]; simp [butteryref02_Eight_b0, lt_eq]) 0#64
    simp only [butteryref02_Eight_l0, k, Option.bind_some]
    rw [w64_eq (n := (a : Int) + 8) (by omega) (by omega), show (a : Int) + 8 = ((a + 8 : Nat) : Int) by omega]
    rfl
  · rw [if_neg h, if_pos (decide_eq_true (by omega)), rfail_eq]
    rfl
theorem eight_off {b : List (BitVec 8)} {a e : Int} (he : e ≠ 0) : butteryref02_Eight ⟨b, a, e⟩ = some (⟨b, a, e⟩, 0#64) := by
  simp [butteryref02_Eight, lt_eq, he]
/-- What bytes are read: they, where the reader stands then, what is wrong. -/
def rdB (b : List (BitVec 8)) (a most : Nat) : List (BitVec 8) × Nat × Int :=
  if (rdN b a most).2.2 ≠ 0 then ([], (rdN b a most).2.1, (rdN b a most).2.2) else
  if b.length < (rdN b a most).2.1 + (rdN b a most).1 then ([], a, 6) else ((b.take ((rdN b a most).2.1 + (rdN b a most).1)).drop (rdN b a most).2.1, (rdN b a most).2.1 + (rdN b a most).1, 0)
theorem octBytesR_eq {b : List (BitVec 8)} {a most : Nat} (hb : b.length ≤ 1000000) (ha : a ≤ b.length) (hm : most < 9223372036854775808) : octets_Reader_Bytes ⟨b, a, 0⟩ most = some ((rdB b a most).1, ⟨b, ((rdB b a most).2.1 : Int), (rdB b a most).2.2⟩) := by
  simp only [octets_Reader_Bytes, octNum_eq hb ha hm, Option.bind_some, lt_eq]
  obtain ⟨h1, h2, h3, h4⟩ := rdN_le (most := most) ha
  unfold rdB
  generalize rdN b a most = z at *
  obtain ⟨n, p, e⟩ := z
  simp only at *
  by_cases he : e = 0
  · subst he
    rw [if_neg (by simp), if_neg (by simp), left_eq hb h1]
    simp only [Option.bind_some]
    by_cases hc : b.length < p + n
    · rw [if_pos hc, if_pos (decide_eq_true (by omega)), fail_eq]; rfl
    · rw [if_neg hc, if_neg (by rw [decide_eq_false (by omega)]; simp), w64_eq (by omega) (by omega), show (p : Int) + (n : Int) = ((p + n : Nat) : Int) by omega, cutO_eq (by omega) (by omega)]
      simp only [Option.bind_some]
      rw [app_eq (by simp; omega)]; rfl
  · rw [if_pos (by simpa using he), if_pos he]
theorem octBytesR_off {b : List (BitVec 8)} {a e most : Int} (he : e ≠ 0) : octets_Reader_Bytes ⟨b, a, e⟩ most = some ([], ⟨b, a, e⟩) := by
  simp [octets_Reader_Bytes, rdN_off he, lt_eq, he]
theorem text_eq {b : List (BitVec 8)} {a most : Nat} (hb : b.length ≤ 1000000) (ha : a ≤ b.length) (hm : most < 9223372036854775808) : butteryref02_Text ⟨b, a, 0⟩ most = some (⟨b, ((rdB b a most).2.1 : Int), (rdB b a most).2.2⟩, (rdB b a most).1) := by
  simp only [butteryref02_Text, refNum_eq hb ha hm, Option.bind_some, lt_eq]
  obtain ⟨h1, h2, h3, h4⟩ := rdN_le (most := most) ha
  unfold rdB
  generalize rdN b a most = z at *
  obtain ⟨n, p, e⟩ := z
  simp only at *
  by_cases he : e = 0
  · subst he
    rw [if_neg (show ¬ (((0 : Int) != 0) = true) by simp), if_neg (show ¬ ((0 : Int) ≠ 0) by simp), w64_eq (n := (b.length : Int) - (p : Int)) (by omega) (by omega)]
    by_cases hc : b.length < p + n
    · rw [if_pos hc, if_pos (decide_eq_true (by omega)), rfail_eq]; rfl
    · rw [if_neg hc, if_neg (by rw [decide_eq_false (by omega)]; simp), w64_eq (by omega) (by omega), show (p : Int) + (n : Int) = ((p + n : Nat) : Int) by omega, cutO_eq (by omega) (by omega)]
      simp only [Option.bind_some]
      rw [app_eq (by simp; omega)]; rfl
  · rw [if_pos (by simpa using he), if_pos he]
theorem text_off {b : List (BitVec 8)} {a e most : Int} (he : e ≠ 0) : butteryref02_Text ⟨b, a, e⟩ most = some (⟨b, a, e⟩, []) := by
  simp [butteryref02_Text, refN_off he, lt_eq, he]
theorem rdB_le {b : List (BitVec 8)} {a most : Nat} (ha : a ≤ b.length) : (rdB b a most).2.1 ≤ b.length ∧ a ≤ (rdB b a most).2.1 ∧ (rdB b a most).1.length ≤ b.length := by
  obtain ⟨h1, h2, h3, h4⟩ := rdN_le (most := most) ha
  unfold rdB
  generalize rdN b a most = z at *
  obtain ⟨n, p, e⟩ := z
  simp only at *
  split
  · exact ⟨h1, h2, by simp⟩
  · split
    · exact ⟨ha, Nat.le_refl _, by simp⟩
    · exact ⟨by simp only; omega, by simp only; omega, by simp; omega⟩
theorem read_eq {b : List (BitVec 8)} (hb : b.length ≤ 1000000) : octets_Read b = some ⟨b, 0, 0⟩ := by
  simp only [octets_Read, lt_eq]
  rw [app_eq (by simp; omega)]; rfl
end Go.Proofs.YtgfedohhkbmobaaDoor
namespace Go.Proofs.YtgfedohhkbmobaaDoor
open Go Go.Va
set_option linter.unusedVariables false
set_option linter.unusedSimpArgs false
def upN (k : Nat) : Int ⊕ (Nat × Nat) → Int ⊕ (Nat × Nat)
  | .inl e => .inl e
  | .inr (m, j) => .inr (m, k + j)
theorem upN_up (k : Nat) (r : Int ⊕ (Nat × Nat)) : upN k (up7 r) = upN (k + 1) r := by
  cases r with
  | inl e => rfl
  | inr p => simp only [up7, upN]; rw [show k + (p.2 + 1) = k + 1 + p.2 by omega]
theorem rd7_pre {most : Nat} : ∀ (k q : Nat), q < 128 ^ k → q ≤ most / 128 → ∀ l, rd7 most (pre q ++ l) true 0 = upN (pre q).length (rd7 most l (decide (q = 0)) q)
  | 0, q, h, hq, l => by
    have : q = 0 := by simpa using h
    subst this
    rw [pre_zero]
    simp only [List.nil_append, List.length_nil, decide_true]
    cases rd7 most l true 0 with
    | inl e => rfl
    | inr p => simp [upN]
  | k + 1, q, h, hq, l => by
    by_cases h0 : q = 0
    · subst h0
      rw [pre_zero]
      simp only [List.nil_append, List.length_nil, decide_true]
      cases rd7 most l true 0 with
      | inl e => rfl
      | inr p => simp [upN]
    · rw [pre_pos (by omega), List.append_assoc, rd7_pre k (q / 128) (by rw [Nat.div_lt_iff_lt_mul (by decide)]; rw [Nat.pow_succ] at h; exact h) (by omega)]
      have hc : (BitVec.ofNat 8 (q % 128 + 128)).toNat = q % 128 + 128 := by simp; omega
      simp only [List.singleton_append, rd7]
      rw [if_neg (by
        rintro ⟨h1, h2⟩
        have h1 := congrArg BitVec.toNat h1
        rw [hc] at h1
        have h1 : q % 128 + 128 = 128 := h1
        have h2 : q / 128 = 0 := by simpa using h2
        omega), if_neg (by omega), if_pos (by omega), hc, upN_up]
      rw [show q / 128 * 128 + (q % 128 + 128) % 128 = q by omega, decide_eq_false h0]
      simp
theorem rd7_num {most m : Nat} (hm : m ≤ most) (hm2 : m < 9223372036854775808) (l : List (BitVec 8)) : rd7 most (num7 m ++ l) true 0 = .inr (m, (num7 m).length) := by
  rw [num7, List.append_assoc, rd7_pre 9 (m / 128) (by omega) (by omega)]
  have hc : (BitVec.ofNat 8 (m % 128)).toNat = m % 128 := by simp; omega
  simp only [List.singleton_append, rd7]
  rw [if_neg (by
    rintro ⟨h1, h2⟩
    have h1 := congrArg BitVec.toNat h1
    rw [hc] at h1
    have h1 : m % 128 = 128 := h1
    omega), if_neg (by omega), if_neg (by omega), if_neg (by omega), hc, show m / 128 * 128 + m % 128 = m by omega]
  simp [upN]
theorem rdN_num {b l : List (BitVec 8)} {a most m : Nat} (h : b.drop a = num7 m ++ l) (hm : m ≤ most) (hm2 : m < 9223372036854775808) : rdN b a most = (m, a + (num7 m).length, 0) := by
  rw [rdN, h, rd7_num hm hm2]
/-- Bytes that are read as a number, all but the first ones: they are its last bytes. -/
theorem rd7_one {most : Nat} (hm : most < 9223372036854775808) : ∀ {l : List (BitVec 8)} {f : Bool} {n m k : Nat}, (f = true → n = 0) → (f = false → 0 < n) → rd7 most l f n = .inr (m, k) → num7 m = pre n ++ l.take k
  | [], f, n, m, k, _, _, h => by simp [rd7] at h
  | c :: l, f, n, m, k, hf, hg, h => by
    have hc := c.isLt
    simp only [rd7] at h
    split at h
    · cases h
    · rename_i h1
      split at h
      · cases h
      · split at h
        · rename_i h3
          cases hr : rd7 most l false (n * 128 + c.toNat % 128) with
          | inl e => rw [hr] at h; cases h
          | inr p =>
            obtain ⟨m', k'⟩ := p
            rw [hr] at h
            simp only [up7, Sum.inr.injEq, Prod.mk.injEq] at h
            obtain ⟨rfl, rfl⟩ := h
            have hpos : 0 < n * 128 + c.toNat % 128 := by
              cases f with
              | true =>
                have : c ≠ 128#8 := fun e => h1 ⟨e, rfl⟩
                have : c.toNat ≠ 128 := fun e => this (BitVec.eq_of_toNat_eq e)
                omega
              | false => have := hg rfl; omega
            have ih := rd7_one hm (f := false) (fun e => by cases e) (fun _ => hpos) hr
            rw [ih, pre_pos hpos]
            rw [show (n * 128 + c.toNat % 128) / 128 = n by omega, show (n * 128 + c.toNat % 128) % 128 + 128 = c.toNat by omega]
            simp
        · rename_i h3
          split at h
          · cases h
          · simp only [Sum.inr.injEq, Prod.mk.injEq] at h
            obtain ⟨rfl, rfl⟩ := h
            rw [num7, show (n * 128 + c.toNat) / 128 = n by omega, show (n * 128 + c.toNat) % 128 = c.toNat by omega]
            simp
/-- What a reader is, and the program's reader beside it. -/
structure rdr where
  a : Nat
  e : Int
def rdr.x (r : rdr) (b : List (BitVec 8)) : butteryref02_Reader := ⟨b, r.a, r.e⟩
def rdr.o (r : rdr) (b : List (BitVec 8)) : octets_Reader := ⟨b, r.a, r.e⟩
theorem num_both {b : List (BitVec 8)} (hb : b.length ≤ 1000000) (r : rdr) (hr : r.a ≤ b.length) {m : Int} (h0 : 0 ≤ m) (h1 : m ≤ 9223372036854775807) : ∃ (s : rdr) (n : Int), s.a ≤ b.length ∧ butteryref02_Number (r.x b) m = some (s.x b, n) ∧ octets_Reader_Number (r.o b) m = some (n, s.o b) := by
  obtain ⟨m, rfl⟩ : ∃ n : Nat, m = (n : Int) := ⟨m.toNat, by omega⟩
  obtain ⟨a, e⟩ := r
  by_cases he : e = 0
  · subst he
    exact ⟨⟨(rdN b a m).2.1, (rdN b a m).2.2⟩, _, (rdN_le hr).1, refNum_eq hb hr (by omega), octNum_eq hb hr (by omega)⟩
  · exact ⟨⟨a, e⟩, 0, hr, refN_off he, rdN_off he⟩
theorem text_both {b : List (BitVec 8)} (hb : b.length ≤ 1000000) (r : rdr) (hr : r.a ≤ b.length) {m : Int} (h0 : 0 ≤ m) (h1 : m ≤ 9223372036854775807) : ∃ (s : rdr) (n : List (BitVec 8)), s.a ≤ b.length ∧ n.length ≤ b.length ∧ butteryref02_Text (r.x b) m = some (s.x b, n) ∧ octets_Reader_Bytes (r.o b) m = some (n, s.o b) := by
  obtain ⟨m, rfl⟩ : ∃ n : Nat, m = (n : Int) := ⟨m.toNat, by omega⟩
  obtain ⟨a, e⟩ := r
  by_cases he : e = 0
  · subst he
    exact ⟨⟨(rdB b a m).2.1, (rdB b a m).2.2⟩, _, (rdB_le hr).1, (rdB_le hr).2.2, text_eq hb hr (by omega), octBytesR_eq hb hr (by omega)⟩
  · exact ⟨⟨a, e⟩, [], hr, by simp, text_off he, octBytesR_off he⟩
/-- What is read as a number. -/
def rN (b : List (BitVec 8)) (r : rdr) (m : Nat) : Nat × rdr := if r.e = 0 then ((rdN b r.a m).1, ⟨(rdN b r.a m).2.1, (rdN b r.a m).2.2⟩) else (0, r)
def rB (b : List (BitVec 8)) (r : rdr) (m : Nat) : List (BitVec 8) × rdr := if r.e = 0 then ((rdB b r.a m).1, ⟨(rdB b r.a m).2.1, (rdB b r.a m).2.2⟩) else ([], r)
theorem octN_r {b : List (BitVec 8)} (hb : b.length ≤ 1000000) {r : rdr} (hr : r.a ≤ b.length) {m : Nat} (hm : m < 9223372036854775808) : octets_Reader_Number (r.o b) (m : Int) = some (((rN b r m).1 : Int), (rN b r m).2.o b) := by
  obtain ⟨a, e⟩ := r
  unfold rN
  by_cases he : e = 0
  · subst he; rw [if_pos rfl]; exact octNum_eq hb hr hm
  · rw [if_neg he]; exact rdN_off he
theorem refN_r {b : List (BitVec 8)} (hb : b.length ≤ 1000000) {r : rdr} (hr : r.a ≤ b.length) {m : Nat} (hm : m < 9223372036854775808) : butteryref02_Number (r.x b) (m : Int) = some ((rN b r m).2.x b, ((rN b r m).1 : Int)) := by
  obtain ⟨a, e⟩ := r
  unfold rN
  by_cases he : e = 0
  · subst he; rw [if_pos rfl]; exact refNum_eq hb hr hm
  · rw [if_neg he]; exact refN_off he
theorem octB_r {b : List (BitVec 8)} (hb : b.length ≤ 1000000) {r : rdr} (hr : r.a ≤ b.length) {m : Nat} (hm : m < 9223372036854775808) : octets_Reader_Bytes (r.o b) (m : Int) = some ((rB b r m).1, (rB b r m).2.o b) := by
  obtain ⟨a, e⟩ := r
  unfold rB
  by_cases he : e = 0
  · subst he; rw [if_pos rfl]; exact octBytesR_eq hb hr hm
  · rw [if_neg he]; exact octBytesR_off he
theorem refB_r {b : List (BitVec 8)} (hb : b.length ≤ 1000000) {r : rdr} (hr : r.a ≤ b.length) {m : Nat} (hm : m < 9223372036854775808) : butteryref02_Text (r.x b) (m : Int) = some ((rB b r m).2.x b, (rB b r m).1) := by
  obtain ⟨a, e⟩ := r
  unfold rB
  by_cases he : e = 0
  · subst he; rw [if_pos rfl]; exact text_eq hb hr hm
  · rw [if_neg he]; exact text_off he
theorem rN_le {b : List (BitVec 8)} {r : rdr} (hr : r.a ≤ b.length) (m : Nat) : (rN b r m).2.a ≤ b.length ∧ r.a ≤ (rN b r m).2.a ∧ (rN b r m).1 ≤ m := by
  unfold rN
  split
  · have := rdN_le (most := m) hr; exact ⟨this.1, this.2.1, this.2.2.1⟩
  · exact ⟨hr, Nat.le_refl _, Nat.zero_le _⟩
theorem rB_le {b : List (BitVec 8)} {r : rdr} (hr : r.a ≤ b.length) (m : Nat) : (rB b r m).2.a ≤ b.length ∧ r.a ≤ (rB b r m).2.a ∧ (rB b r m).1.length ≤ b.length := by
  unfold rB
  split
  · exact rdB_le hr
  · exact ⟨hr, Nat.le_refl _, by simp⟩
theorem rN_off {b : List (BitVec 8)} {r : rdr} {m : Nat} (h : (rN b r m).2.e = 0) : r.e = 0 := by
  unfold rN at h
  split at h
  · assumption
  · exact h
theorem rB_off {b : List (BitVec 8)} {r : rdr} {m : Nat} (h : (rB b r m).2.e = 0) : r.e = 0 := by
  unfold rB at h
  split at h
  · assumption
  · exact h
/-- A number that is there is read. -/
theorem rN_is {b l : List (BitVec 8)} {r : rdr} {m n : Nat} (he : r.e = 0) (h : b.drop r.a = num7 n ++ l) (hm : n ≤ m) (hn : n < 9223372036854775808) : rN b r m = (n, ⟨r.a + (num7 n).length, 0⟩) := by
  unfold rN
  rw [if_pos he, rdN_num h hm hn]
theorem drop_app {b x l : List (BitVec 8)} {a : Nat} (h : b.drop a = x ++ l) : b.drop (a + x.length) = l := by
  rw [← List.drop_drop, h, List.drop_left' rfl]
/-- Bytes that are there are read. -/
theorem rB_is {b t l : List (BitVec 8)} {r : rdr} {m : Nat} (he : r.e = 0) (hr : r.a ≤ b.length) (h : b.drop r.a = num7 t.length ++ (t ++ l)) (hm : t.length ≤ m) (hn : t.length < 9223372036854775808) : rB b r m = (t, ⟨r.a + (num7 t.length).length + t.length, 0⟩) := by
  have h2 := drop_app h
  have h3 := congrArg List.length h2
  have h4 := congrArg List.length h
  simp only [List.length_drop, List.length_append] at h3 h4
  unfold rB rdB
  rw [if_pos he, rdN_num h hm hn]
  simp only
  rw [if_neg (by simp), if_neg (by omega)]
  refine Prod.ext ?_ rfl
  simp only
  rw [List.drop_take, h2, show r.a + (num7 t.length).length + t.length - (r.a + (num7 t.length).length) = t.length by omega, List.take_left' rfl]
/-- What was read as a number is its bytes. -/
theorem rN_one {b : List (BitVec 8)} {r : rdr} {m : Nat} (hm : m < 9223372036854775808) (h : (rN b r m).2.e = 0) : b.drop r.a = num7 (rN b r m).1 ++ b.drop (rN b r m).2.a ∧ r.a < (rN b r m).2.a := by
  have he := rN_off h
  unfold rN at h ⊢
  rw [if_pos he] at h ⊢
  unfold rdN at h ⊢
  cases hr : rd7 m (b.drop r.a) true 0 with
  | inl e =>
    rw [hr] at h
    simp only at h
    rcases rd7_err hr with rfl | rfl | rfl <;> cases h
  | inr p =>
    obtain ⟨n, k⟩ := p
    have h1 := rd7_one hm (fun _ => rfl) (fun h => by cases h) hr
    rw [pre_zero, List.nil_append] at h1
    have h2 := rd7_le hr
    simp only
    rw [h1, ← List.drop_drop, List.take_append_drop]
    exact ⟨rfl, by omega⟩
/-- What was read as bytes is their number and they. -/
theorem rB_one {b : List (BitVec 8)} {r : rdr} {m : Nat} (hr : r.a ≤ b.length) (hm : m < 9223372036854775808) (h : (rB b r m).2.e = 0) : b.drop r.a = num7 (rB b r m).1.length ++ ((rB b r m).1 ++ b.drop (rB b r m).2.a) ∧ r.a < (rB b r m).2.a ∧ (rB b r m).1.length ≤ m := by
  have he := rB_off h
  have hN := rN_one (b := b) (r := r) hm
  have hle := rN_le hr m
  unfold rN at hN hle
  rw [if_pos he] at hN hle
  simp only at hN hle
  unfold rB at h ⊢
  rw [if_pos he] at h ⊢
  unfold rdB at h ⊢
  generalize rdN b r.a m = z at *
  obtain ⟨n, p, e⟩ := z
  simp only at *
  by_cases h1 : e = 0
  · subst h1
    rw [if_neg (by simp)] at h ⊢
    by_cases h2 : b.length < p + n
    · rw [if_pos h2] at h; cases h
    · rw [if_neg h2]
      obtain ⟨k1, k2⟩ := hN rfl
      have hl : ((b.take (p + n)).drop p).length = n := by simp; omega
      simp only
      rw [hl]
      refine ⟨?_, by omega, hle.2.2⟩
      rw [k1, List.drop_take, show p + n - p = n by omega, ← List.drop_drop, List.take_append_drop]
  · rw [if_pos h1] at h; exact absurd h h1
end Go.Proofs.YtgfedohhkbmobaaDoor
namespace Go.Proofs.YtgfedohhkbmobaaDoor
open Go Go.Va
set_option linter.unusedVariables false
set_option linter.unusedSimpArgs false
set_option maxRecDepth 20000
noncomputable def item_Check_1_c (x0 : List (BitVec 8)) (x1 : Int) (x2 : Int) (x3 : Err) : Option (Err) :=
  (
    lt (Err.isNil x3) fun v6 =>
    if v6 = true then
      lt (decide (x1 < x2)) fun v9 =>
      if v9 = true then
        some true
      else
        lt (decide (x1 > (1099511627776 : Int))) fun v12 =>
        some v12
    else
      some false
   : Option (Bool)).bind fun s1 =>
    if s1 = true then
      (trouble_New x0 x1 (2 : Int)).bind fun v16 =>
      lt ((v16 : Err)) fun c18 =>
      some c18
    else
      some x3
end Go.Proofs.YtgfedohhkbmobaaDoor
namespace Go.Proofs.YtgfedohhkbmobaaDoor
open Go Go.Va
set_option linter.unusedVariables false
set_option linter.unusedSimpArgs false
set_option maxRecDepth 20000
noncomputable def item_Check (x0 : api_Entry) : Option (Err) :=
  (octets_Key x0.Key).bind fun v2 =>
  lt (v2 != (0 : Int)) fun v4 =>
  if v4 = true then
    lt (((x0.Key).length : Int)) fun v7 =>
    (trouble_New ([107#8, 101#8, 121#8] : List (BitVec 8)) v7 v2).bind fun v9 =>
    some v9
  else
    (item_Check_1_c ([118#8, 101#8, 114#8, 115#8, 105#8, 111#8, 110#8] : List (BitVec 8)) x0.Version (1 : Int) Err.nil).bind fun v13 =>
    (item_Check_1_c ([97#8, 115#8, 111#8, 102#8] : List (BitVec 8)) x0.AsOf x0.Version v13).bind fun v15 =>
    (item_Check_1_c ([101#8, 110#8, 100#8, 115#8] : List (BitVec 8)) x0.Ends (0 : Int) v15).bind fun v17 =>
    (
      lt (Err.isNil v17) fun v23 =>
      if v23 = true then
        lt (((x0.Value).length : Int)) fun v26 =>
        lt (decide (v26 > (4096 : Int))) fun v28 =>
        some v28
      else
        some false
     : Option (Bool)).bind fun s18 =>
      if s18 = true then
        lt (((x0.Value).length : Int)) fun v32 =>
        (trouble_New ([118#8, 97#8, 108#8, 117#8, 101#8] : List (BitVec 8)) v32 (3 : Int)).bind fun v34 =>
        lt ((v34 : Err)) fun c36 =>
        some c36
      else
        some v17
end Go.Proofs.YtgfedohhkbmobaaDoor
namespace Go.Proofs.YtgfedohhkbmobaaDoor
open Go Go.Va
set_option linter.unusedVariables false
set_option linter.unusedSimpArgs false
set_option maxRecDepth 20000
noncomputable def item_Put (x0 : List (BitVec 8)) (x1 : api_Entry) : Option ((List (BitVec 8))) :=
  (toBytes x1.Key).bind fun v2 =>
  (octets_Bytes x0 v2).bind fun v4 =>
  lt (([x1.Version, x1.AsOf, x1.Ends] : List Int)) fun v6 =>
  (octets_Put v4 v6).bind fun v8 =>
  (octets_Bytes v8 x1.Value).bind fun v10 =>
  some v10
end Go.Proofs.YtgfedohhkbmobaaDoor
namespace Go.Proofs.YtgfedohhkbmobaaDoor
open Go Go.Va
set_option linter.unusedVariables false
set_option linter.unusedSimpArgs false
set_option maxRecDepth 20000
noncomputable def item_Size (x0 : api_Entry) : Option (Int) :=
  lt (((x0.Key).length : Int)) fun v2 =>
  (octets_Len v2).bind fun v4 =>
  lt (((x0.Key).length : Int)) fun v6 =>
  lt (w64 (v4 + v6)) fun v8 =>
  lt (((x0.Value).length : Int)) fun v10 =>
  (octets_Len v10).bind fun v12 =>
  lt (w64 (v8 + v12)) fun v14 =>
  lt (((x0.Value).length : Int)) fun v16 =>
  lt (w64 (v14 + v16)) fun v18 =>
  (octets_Len x0.Version).bind fun v20 =>
  lt (w64 (v18 + v20)) fun v22 =>
  (octets_Len x0.AsOf).bind fun v24 =>
  lt (w64 (v22 + v24)) fun v26 =>
  (octets_Len x0.Ends).bind fun v28 =>
  lt (w64 (v26 + v28)) fun v30 =>
  some v30
end Go.Proofs.YtgfedohhkbmobaaDoor
namespace Go.Proofs.YtgfedohhkbmobaaDoor
open Go Go.Va
set_option linter.unusedVariables false
set_option linter.unusedSimpArgs false
set_option maxRecDepth 20000
noncomputable def octets_Reader_Code (x0 : octets_Reader) : Option (Int) :=
  some x0.code
end Go.Proofs.YtgfedohhkbmobaaDoor
namespace Go.Proofs.YtgfedohhkbmobaaDoor
open Go Go.Va
set_option linter.unusedVariables false
set_option linter.unusedSimpArgs false
set_option maxRecDepth 20000
noncomputable def item_From (x0 : octets_Reader) : Option (api_Entry × octets_Reader) :=
  (octets_Reader_Bytes x0 (40 : Int)).bind fun v4 =>
  (octets_Reader_Number v4.2 (1099511627776 : Int)).bind fun v9 =>
  (octets_Reader_Number v9.2 (1099511627776 : Int)).bind fun v12 =>
  (octets_Reader_Number v12.2 (1099511627776 : Int)).bind fun v15 =>
  (octets_Reader_Bytes v15.2 (4096 : Int)).bind fun v18 =>
  (octets_Reader_Code v18.2).bind fun v21 =>
  lt (v21 == (0 : Int)) fun v23 =>
  (
    if v23 = true then
      (item_Check ({ ({ ({ ({ ((⟨v4.1, (0 : Int), (0 : Int), (0 : Int), ([] : List (BitVec 8))⟩ : api_Entry) : api_Entry) with Version := v9.1 } : api_Entry) with AsOf := v12.1 } : api_Entry) with Ends := v15.1 } : api_Entry) with Value := v18.1 } : api_Entry)).bind fun v30 =>
      lt (!Err.isNil v30) fun v32 =>
      if v32 = true then
        (trouble_Of v30).bind fun v35 =>
        (octets_Reader_Fail v18.2 v35).bind fun v37 =>
        some v37
      else
        some v18.2
    else
      some v18.2
   : Option (octets_Reader)).bind fun s24 =>
    (octets_Reader_Code s24).bind fun v40 =>
    lt (v40 != (0 : Int)) fun v42 =>
    if v42 = true then
      some (((⟨([] : List (BitVec 8)), (0 : Int), (0 : Int), (0 : Int), ([] : List (BitVec 8))⟩ : api_Entry) : api_Entry), s24)
    else
      some ((({ ({ ({ ({ ((⟨v4.1, (0 : Int), (0 : Int), (0 : Int), ([] : List (BitVec 8))⟩ : api_Entry) : api_Entry) with Version := v9.1 } : api_Entry) with AsOf := v12.1 } : api_Entry) with Ends := v15.1 } : api_Entry) with Value := v18.1 } : api_Entry) : api_Entry), s24)
end Go.Proofs.YtgfedohhkbmobaaDoor
namespace Go.Proofs.YtgfedohhkbmobaaDoor
open Go Go.Va
set_option linter.unusedVariables false
set_option linter.unusedSimpArgs false
set_option maxRecDepth 20000
noncomputable def octets_Reader_At (x0 : octets_Reader) : Option (Int) :=
  some x0.at_
end Go.Proofs.YtgfedohhkbmobaaDoor
namespace Go.Proofs.YtgfedohhkbmobaaDoor
open Go Go.Va
set_option linter.unusedVariables false
set_option linter.unusedSimpArgs false
set_option maxRecDepth 20000
noncomputable def item_Read_b0  (c5 : List api_Entry) (c6 : octets_Reader) : Option (((List api_Entry) × octets_Reader) ⊕ (((List api_Entry) × octets_Reader) ⊕ ((List api_Entry) × Err))) :=
  (
    (octets_Reader_Code c6).bind fun v22 =>
    lt (v22 == (0 : Int)) fun v24 =>
    if v24 = true then
      (octets_Reader_Left c6).bind fun v27 =>
      lt (decide (v27 > (0 : Int))) fun v29 =>
      some v29
    else
      some false
   : Option (Bool)).bind fun s17 =>
    if s17 = true then
      (octets_Reader_At c6).bind fun v33 =>
      (item_From c6).bind fun v35 =>
      (octets_Reader_Code v35.2).bind fun v40 =>
      lt (v40 != (0 : Int)) fun v42 =>
      if v42 = true then
        lt (((c5).length : Int)) fun v45 =>
        (octets_Reader_Code v35.2).bind fun v47 =>
        (trouble_New ([101#8, 110#8, 116#8, 114#8, 121#8] : List (BitVec 8)) v33 v47).bind fun v49 =>
        (trouble_Wrap ([101#8, 110#8, 116#8, 114#8, 105#8, 101#8, 115#8] : List (BitVec 8)) v45 v49).bind fun v51 =>
        some (.inr (.inr ([], v51)))
      else
        lt (([(v35.1 : api_Entry)] : List api_Entry)) fun v54 =>
        (app 64 c5 v54).bind fun v56 =>
        some (.inl (v56, v35.2))
    else
      some (.inr (.inl (c5, c6)))
noncomputable def item_Read_l0  (s : (List api_Entry) × octets_Reader) : Option (((List api_Entry) × octets_Reader) ⊕ ((List api_Entry) × Err)) := loopO (fun s => item_Read_b0 s.1 s.2) s
noncomputable def item_Read (x0 : List (BitVec 8)) : Option ((List api_Entry) × Err) :=
  (octets_Read x0).bind fun v2 =>
  (item_Read_l0 ([], v2)).bind fun o8 =>
    Sum.elim (fun s15 : (List api_Entry) × octets_Reader =>
      some (s15.1, Err.nil)
      ) (fun y => some y) o8
end Go.Proofs.YtgfedohhkbmobaaDoor
namespace Go.Proofs.YtgfedohhkbmobaaDoor
open Go Go.Va
set_option linter.unusedVariables false
set_option linter.unusedSimpArgs false
set_option maxRecDepth 20000
noncomputable def item_All_b0 (x0 : List api_Entry) (v2 : Int) (c3 : List (BitVec 8)) (c4 : Int) : Option (((List (BitVec 8)) × Int) ⊕ ((List (BitVec 8)))) :=
  lt (decide (c4 < v2)) fun v16 =>
  if v16 = true then
    (ix x0 c4).bind fun v19 =>
    (item_Put c3 (v19 : api_Entry)).bind fun v24 =>
    lt (w64 (c4 + (1 : Int))) fun v27 =>
    some (.inl (v24, v27))
  else
    some (.inr c3)
noncomputable def item_All_l0 (x0 : List api_Entry) (v2 : Int) (s : (List (BitVec 8)) × Int) : Option ((List (BitVec 8))) := loopO (fun s => item_All_b0 x0 v2 s.1 s.2) s
noncomputable def item_All (x0 : List api_Entry) : Option ((List (BitVec 8))) :=
  lt (((x0).length : Int)) fun v2 =>
  (item_All_l0 x0 v2 ([], (0 : Int))).bind fun s13 =>
    some s13
end Go.Proofs.YtgfedohhkbmobaaDoor
namespace Go.Proofs.YtgfedohhkbmobaaDoor
open Go Go.Va
set_option linter.unusedVariables false
set_option linter.unusedSimpArgs false
set_option maxRecDepth 20000
noncomputable def item_Same (x0 : api_Entry) (x1 : api_Entry) : Option (Bool) :=
  lt (x0.Key == x1.Key) fun v2 =>
  if v2 = true then
    lt (x0.Version == x1.Version) fun v5 =>
    if v5 = true then
      lt (x0.AsOf == x1.AsOf) fun v8 =>
      if v8 = true then
        lt (x0.Ends == x1.Ends) fun v11 =>
        if v11 = true then
          lt (x0.Value == x1.Value) fun v14 =>
          some v14
        else
          some false
      else
        some false
    else
      some false
  else
    some false
end Go.Proofs.YtgfedohhkbmobaaDoor
namespace Go.Proofs.YtgfedohhkbmobaaDoor
open Go Go.Va
set_option linter.unusedVariables false
set_option linter.unusedSimpArgs false
set_option maxRecDepth 20000
noncomputable def item_Live (x0 : api_Entry) (x1 : Int) : Option (Bool) :=
  lt (x0.Ends == (0 : Int)) fun v2 =>
  if v2 = true then
    some true
  else
    lt (decide (x0.Ends > x1)) fun v5 =>
    some v5
end Go.Proofs.YtgfedohhkbmobaaDoor
namespace Go.Proofs.YtgfedohhkbmobaaDoor
open Go Go.Va
set_option linter.unusedVariables false
set_option linter.unusedSimpArgs false
set_option maxRecDepth 20000
noncomputable def item_Copy (x0 : api_Entry) : Option (api_Entry) :=
  (app 1 ([] : List (BitVec 8)) x0.Value).bind fun v6 =>
  lt (({ x0 with Value := v6 } : api_Entry)) fun c10 =>
  some (c10 : api_Entry)
end Go.Proofs.YtgfedohhkbmobaaDoor
namespace Go.Proofs.YtgfedohhkbmobaaDoor
open Go Go.Va
set_option linter.unusedVariables false
set_option linter.unusedSimpArgs false
set_option maxRecDepth 20000
noncomputable def butteryref06_Check (x0 : api_Entry) : Option (Int) :=
  (butteryref02_Key x0.Key).bind fun v2 =>
  lt (v2 != (0 : Int)) fun v4 =>
  if v4 = true then
    some v2
  else
    (
      lt (decide (x0.Version < (1 : Int))) fun v11 =>
      if v11 = true then
        some true
      else
        lt (decide (x0.Version > (1099511627776 : Int))) fun v14 =>
        if v14 = true then
          some true
        else
          lt (decide (x0.AsOf < x0.Version)) fun v17 =>
          if v17 = true then
            some true
          else
            lt (decide (x0.AsOf > (1099511627776 : Int))) fun v20 =>
            if v20 = true then
              some true
            else
              lt (decide (x0.Ends < (0 : Int))) fun v23 =>
              if v23 = true then
                some true
              else
                lt (decide (x0.Ends > (1099511627776 : Int))) fun v26 =>
                some v26
     : Option (Bool)).bind fun s6 =>
      if s6 = true then
        some (2 : Int)
      else
        lt (((x0.Value).length : Int)) fun v30 =>
        lt (decide (v30 > (4096 : Int))) fun v32 =>
        if v32 = true then
          some (3 : Int)
        else
          some (0 : Int)
end Go.Proofs.YtgfedohhkbmobaaDoor
namespace Go.Proofs.YtgfedohhkbmobaaDoor
open Go Go.Va
set_option linter.unusedVariables false
set_option linter.unusedSimpArgs false
set_option maxRecDepth 20000
noncomputable def butteryref06_From (x0 : butteryref02_Reader) : Option (butteryref02_Reader × api_Entry) :=
  (butteryref02_Text x0 (40 : Int)).bind fun v6 =>
  (butteryref02_Number (v6.1 : butteryref02_Reader) (1099511627776 : Int)).bind fun v11 =>
  (butteryref02_Number (v11.1 : butteryref02_Reader) (1099511627776 : Int)).bind fun v16 =>
  (butteryref02_Number (v16.1 : butteryref02_Reader) (1099511627776 : Int)).bind fun v21 =>
  (butteryref02_Text (v21.1 : butteryref02_Reader) (4096 : Int)).bind fun v26 =>
  lt ((⟨v6.2, v11.2, v16.2, v21.2, v26.2⟩ : api_Entry)) fun v31 =>
  lt (((v26.1 : butteryref02_Reader).Code) == (0 : Int)) fun v36 =>
  (
    if v36 = true then
      (butteryref06_Check (v31 : api_Entry)).bind fun v43 =>
      lt (({ (v26.1 : butteryref02_Reader) with Code := v43 } : butteryref02_Reader)) fun c45 =>
      some c45
    else
      some (v26.1 : butteryref02_Reader)
   : Option (butteryref02_Reader)).bind fun s37 =>
    lt (s37.Code != (0 : Int)) fun v49 =>
    if v49 = true then
      some ((s37 : butteryref02_Reader), ((⟨([] : List (BitVec 8)), (0 : Int), (0 : Int), (0 : Int), ([] : List (BitVec 8))⟩ : api_Entry) : api_Entry))
    else
      some ((s37 : butteryref02_Reader), ((v31 : api_Entry) : api_Entry))
end Go.Proofs.YtgfedohhkbmobaaDoor
namespace Go.Proofs.YtgfedohhkbmobaaDoor
open Go Go.Va
set_option linter.unusedVariables false
set_option linter.unusedSimpArgs false
set_option maxRecDepth 20000
noncomputable def butteryref06_Put (x0 : List (BitVec 8)) (x1 : api_Entry) : Option ((List (BitVec 8))) :=
  (toBytes x1.Key).bind fun v2 =>
  (butteryref02_Bytes x0 v2).bind fun v4 =>
  lt (([x1.Version, x1.AsOf, x1.Ends] : List Int)) fun v6 =>
  (butteryref02_Put v4 v6).bind fun v8 =>
  (butteryref02_Bytes v8 x1.Value).bind fun v10 =>
  some v10
end Go.Proofs.YtgfedohhkbmobaaDoor
namespace Go.Proofs.YtgfedohhkbmobaaDoor
open Go Go.Va
set_option linter.unusedVariables false
set_option linter.unusedSimpArgs false
set_option maxRecDepth 20000
noncomputable def butteryref06_Size (x0 : api_Entry) : Option (Int) :=
  (butteryref06_Put [] x0).bind fun v2 =>
  lt (((v2).length : Int)) fun v4 =>
  some v4
end Go.Proofs.YtgfedohhkbmobaaDoor
namespace Go.Proofs.YtgfedohhkbmobaaDoor
open Go Go.Va
set_option linter.unusedVariables false
set_option linter.unusedSimpArgs false
set_option maxRecDepth 20000
noncomputable def butteryref06_Read_b0 (x0 : List (BitVec 8)) (c6 : List api_Entry) (c7 : butteryref02_Reader) : Option (((List api_Entry) × butteryref02_Reader) ⊕ (((List api_Entry) × butteryref02_Reader) ⊕ ((List api_Entry) × Int))) :=
  lt (((x0).length : Int)) fun v19 =>
  lt (decide (c7.At < v19)) fun v21 =>
  if v21 = true then
    (butteryref06_From c7).bind fun v24 =>
    lt (((v24.1 : butteryref02_Reader).Code) != (0 : Int)) fun v32 =>
    if v32 = true then
      some (.inr (.inr ([], (v24.1 : butteryref02_Reader).Code)))
    else
      lt (((v24.1 : butteryref02_Reader) : butteryref02_Reader)) fun c36 =>
      lt (([(v24.2 : api_Entry)] : List api_Entry)) fun v39 =>
      (app 64 c6 v39).bind fun v41 =>
      some (.inl (v41, c36))
  else
    some (.inr (.inl (c6, c7)))
noncomputable def butteryref06_Read_l0 (x0 : List (BitVec 8)) (s : (List api_Entry) × butteryref02_Reader) : Option (((List api_Entry) × butteryref02_Reader) ⊕ ((List api_Entry) × Int)) := loopO (fun s => butteryref06_Read_b0 x0 s.1 s.2) s
noncomputable def butteryref06_Read (x0 : List (BitVec 8)) : Option ((List api_Entry) × Int) :=
  lt ((⟨x0, (0 : Int), (0 : Int)⟩ : butteryref02_Reader)) fun v2 =>
  (butteryref06_Read_l0 x0 ([], (v2 : butteryref02_Reader))).bind fun o9 =>
    Sum.elim (fun s16 : (List api_Entry) × butteryref02_Reader =>
      some (s16.1, (0 : Int))
      ) (fun y => some y) o9
end Go.Proofs.YtgfedohhkbmobaaDoor
namespace Go.Proofs.YtgfedohhkbmobaaDoor
open Go Go.Va
set_option linter.unusedVariables false
set_option linter.unusedSimpArgs false
set_option maxRecDepth 20000
noncomputable def butteryref06_All_b0 (x0 : List api_Entry) (c1 : List (BitVec 8)) (c2 : Int) : Option (((List (BitVec 8)) × Int) ⊕ ((List (BitVec 8)))) :=
  lt (((x0).length : Int)) fun v14 =>
  lt (decide (c2 < v14)) fun v16 =>
  if v16 = true then
    (ix x0 c2).bind fun v19 =>
    (butteryref06_Put c1 v19).bind fun v21 =>
    lt (w64 (c2 + (1 : Int))) fun v24 =>
    some (.inl (v21, v24))
  else
    some (.inr c1)
noncomputable def butteryref06_All_l0 (x0 : List api_Entry) (s : (List (BitVec 8)) × Int) : Option ((List (BitVec 8))) := loopO (fun s => butteryref06_All_b0 x0 s.1 s.2) s
noncomputable def butteryref06_All (x0 : List api_Entry) : Option ((List (BitVec 8))) :=
  (butteryref06_All_l0 x0 ([], (0 : Int))).bind fun s11 =>
    some s11
end Go.Proofs.YtgfedohhkbmobaaDoor
namespace Go.Proofs.YtgfedohhkbmobaaDoor
open Go Go.Va
set_option linter.unusedVariables false
set_option linter.unusedSimpArgs false
set_option maxRecDepth 20000
noncomputable def butteryref06_Same (x0 : api_Entry) (x1 : api_Entry) : Option (Bool) :=
  lt (x0.Key == x1.Key) fun v2 =>
  if v2 = true then
    lt (x0.Version == x1.Version) fun v5 =>
    if v5 = true then
      lt (x0.AsOf == x1.AsOf) fun v8 =>
      if v8 = true then
        lt (x0.Ends == x1.Ends) fun v11 =>
        if v11 = true then
          (butteryref02_Same x0.Value x1.Value).bind fun v14 =>
          some v14
        else
          some false
      else
        some false
    else
      some false
  else
    some false
end Go.Proofs.YtgfedohhkbmobaaDoor
namespace Go.Proofs.YtgfedohhkbmobaaDoor
open Go Go.Va
set_option linter.unusedVariables false
set_option linter.unusedSimpArgs false
set_option maxRecDepth 20000
noncomputable def butteryref06_SameAll_b0 (x0 : List api_Entry) (x1 : List api_Entry) (c8 : Int) : Option ((Int) ⊕ (Unit ⊕ (Bool))) :=
  lt (((x0).length : Int)) fun v19 =>
  lt (decide (c8 < v19)) fun v21 =>
  if v21 = true then
    (ix x0 c8).bind fun v24 =>
    (ix x1 c8).bind fun v26 =>
    (butteryref06_Same v24 v26).bind fun v28 =>
    lt (!v28) fun v30 =>
    if v30 = true then
      some (.inr (.inr false))
    else
      lt (w64 (c8 + (1 : Int))) fun v34 =>
      some (.inl v34)
  else
    some (.inr (.inl ()))
noncomputable def butteryref06_SameAll_l0 (x0 : List api_Entry) (x1 : List api_Entry) (s : Int) : Option (Unit ⊕ (Bool)) := loopO (fun s => butteryref06_SameAll_b0 x0 x1 s) s
noncomputable def butteryref06_SameAll (x0 : List api_Entry) (x1 : List api_Entry) : Option (Bool) :=
  lt (((x0).length : Int)) fun v2 =>
  lt (((x1).length : Int)) fun v4 =>
  lt (v2 != v4) fun v6 =>
  if v6 = true then
    some false
  else
    (butteryref06_SameAll_l0 x0 x1 (0 : Int)).bind fun o9 =>
      Sum.elim (fun s16 : Unit =>
        some true
        ) (fun y => some y) o9
end Go.Proofs.YtgfedohhkbmobaaDoor
namespace Go.Proofs.YtgfedohhkbmobaaDoor
open Go Go.Va
set_option linter.unusedVariables false
set_option linter.unusedSimpArgs false
set_option maxRecDepth 20000
noncomputable def butteryref06_Live (x0 : api_Entry) (x1 : Int) : Option (Bool) :=
  lt (x0.Ends == (0 : Int)) fun v2 =>
  if v2 = true then
    some true
  else
    lt (decide (x0.Ends > x1)) fun v5 =>
    some v5
end Go.Proofs.YtgfedohhkbmobaaDoor
namespace Go.Proofs.YtgfedohhkbmobaaDoor
open Go Go.Va
set_option linter.unusedVariables false
set_option linter.unusedSimpArgs false
set_option maxRecDepth 20000
noncomputable def butterylaw06_works : Option (Bool) :=
  lt ((⟨([107#8] : List (BitVec 8)), (3 : Int), (5 : Int), (9 : Int), ([97#8, 98#8] : List (BitVec 8))⟩ : api_Entry)) fun v2 =>
  (item_Put [] (v2 : api_Entry)).bind fun v7 =>
  (app 1 v7 v7).bind fun v10 =>
  (item_Read v10).bind fun v14 =>
  (item_Read ([1#8, 107#8, 3#8, 2#8, 0#8, 0#8] : List (BitVec 8))).bind fun v16 =>
  lt (({ ((v2 : api_Entry) : api_Entry) with AsOf := (2 : Int) } : api_Entry)) fun c21 =>
  lt (((v7).length : Int)) fun v24 =>
  lt (v24 == (8 : Int)) fun v26 =>
  if v26 = true then
    (item_Size (v2 : api_Entry)).bind fun v29 =>
    lt (v29 == (8 : Int)) fun v31 =>
    if v31 = true then
      lt (Err.isNil v14.2) fun v34 =>
      if v34 = true then
        lt (((v14.1).length : Int)) fun v37 =>
        lt (v37 == (2 : Int)) fun v39 =>
        if v39 = true then
          (ix v14.1 (1 : Int)).bind fun v42 =>
          (item_Same v42 (v2 : api_Entry)).bind fun v44 =>
          if v44 = true then
            (trouble_Of v16.2).bind fun v47 =>
            lt (v47 == (2 : Int)) fun v49 =>
            if v49 = true then
              (item_Check c21).bind fun v52 =>
              (trouble_Of v52).bind fun v54 =>
              lt (v54 == (2 : Int)) fun v56 =>
              if v56 = true then
                (item_Live (v2 : api_Entry) (8 : Int)).bind fun v59 =>
                if v59 = true then
                  (item_Live (v2 : api_Entry) (9 : Int)).bind fun v62 =>
                  lt (!v62) fun v64 =>
                  if v64 = true then
                    (item_Copy (v2 : api_Entry)).bind fun v67 =>
                    (item_Same v67 (v2 : api_Entry)).bind fun v69 =>
                    some v69
                  else
                    some false
                else
                  some false
              else
                some false
            else
              some false
          else
            some false
        else
          some false
      else
        some false
    else
      some false
  else
    some false
end Go.Proofs.YtgfedohhkbmobaaDoor
namespace Go.Proofs.YtgfedohhkbmobaaDoor
open Go Go.Va
set_option linter.unusedVariables false
set_option linter.unusedSimpArgs false
set_option maxRecDepth 20000
noncomputable def butterylaw06_Light_b0 (x0 : List api_Entry) (c6 : Int) (c7 : Int) : Option ((Int × Int) ⊕ (Unit ⊕ (Int))) :=
  lt (((x0).length : Int)) fun v18 =>
  lt (decide (c7 < v18)) fun v20 =>
  if v20 = true then
    (
      (ix x0 c7).bind fun v27 =>
      lt (((v27.Key).length : Int)) fun v29 =>
      lt (decide (v29 > (200 : Int))) fun v31 =>
      if v31 = true then
        some true
      else
        (ix x0 c7).bind fun v34 =>
        lt (((v34.Value).length : Int)) fun v36 =>
        lt (decide (v36 > (5000 : Int))) fun v38 =>
        some v38
     : Option (Bool)).bind fun s22 =>
      if s22 = true then
        some (.inr (.inr (1 : Int)))
      else
        (ix x0 c7).bind fun v43 =>
        lt (((v43.Value).length : Int)) fun v45 =>
        lt (w64 (c6 + v45)) fun v47 =>
        lt (decide (v47 > (12000 : Int))) fun v49 =>
        if v49 = true then
          some (.inr (.inr (1 : Int)))
        else
          lt (w64 (c7 + (1 : Int))) fun v53 =>
          some (.inl (v47, v53))
  else
    some (.inr (.inl ()))
noncomputable def butterylaw06_Light_l0 (x0 : List api_Entry) (s : Int × Int) : Option (Unit ⊕ (Int)) := loopO (fun s => butterylaw06_Light_b0 x0 s.1 s.2) s
noncomputable def butterylaw06_Light (x0 : List api_Entry) : Option (Int) :=
  lt (((x0).length : Int)) fun v2 =>
  lt (decide (v2 > (40 : Int))) fun v4 =>
  if v4 = true then
    some (1 : Int)
  else
    (butterylaw06_Light_l0 x0 ((0 : Int), (0 : Int))).bind fun o8 =>
      Sum.elim (fun s15 : Unit =>
        some (0 : Int)
        ) (fun y => some y) o8
end Go.Proofs.YtgfedohhkbmobaaDoor
namespace Go.Proofs.YtgfedohhkbmobaaDoor
open Go Go.Va
set_option linter.unusedVariables false
set_option linter.unusedSimpArgs false
/-- What is wrong with an entry. -/
def ckK (k : List (BitVec 8)) : Int := if k.length = 0 then 1 else if 40 < k.length then 3 else 0
def ckE (x : api_Entry) : Int :=
  if ckK x.Key ≠ 0 then ckK x.Key else
  if (x.Version < 1 ∨ x.Version > 1099511627776) ∨ (x.AsOf < x.Version ∨ x.AsOf > 1099511627776) ∨ (x.Ends < 0 ∨ x.Ends > 1099511627776) then 2 else
  if 4096 < x.Value.length then 3 else 0
theorem octKey_eq (k : List (BitVec 8)) : octets_Key k = some (ckK k) := by
  unfold octets_Key ckK
  simp only [lt_eq]
  by_cases h0 : k.length = 0
  · rw [if_pos h0, if_pos (by simp [h0])]
  · rw [if_neg h0, if_neg (by simp; intro h; subst h; simp at h0)]
    by_cases h1 : 40 < k.length
    · rw [if_pos h1, if_pos (decide_eq_true (by omega))]
    · rw [if_neg h1, if_neg (by rw [decide_eq_false (by omega)]; simp)]
theorem refKey_eq (k : List (BitVec 8)) : butteryref02_Key k = some (ckK k) := by rw [← key_eq, octKey_eq]
theorem new_eq (op : List (BitVec 8)) (n c : Int) (hc : c ≠ 0) : trouble_New op n c = some (.fault op n c .nil) := by
  simp [trouble_New, lt_eq, hc]
theorem wrap_eq (op : List (BitVec 8)) (n : Int) (e : Err) (he : e.isNil = false) : trouble_Wrap op n e = some (.fault op n 0 e) := by
  simp [trouble_Wrap, lt_eq, he]
theorem num_ck (op : List (BitVec 8)) (n low : Int) (e : Err) : ∃ e', item_Check_1_c op n low e = some e' ∧ (e.isNil = false → e' = e) ∧ (e = .nil → (n < low ∨ n > 1099511627776) → ∃ o a, e' = .fault o a 2 .nil) ∧ (e = .nil → ¬ (n < low ∨ n > 1099511627776) → e' = .nil) := by
  unfold item_Check_1_c
  simp only [lt_eq]
  cases e with
  | fault o a c u => exact ⟨_, rfl, fun _ => rfl, (fun h => by cases h), (fun h => by cases h)⟩
  | nil =>
    simp only [Err.isNil, if_true]
    by_cases h1 : n < low
    · rw [if_pos (decide_eq_true h1)]
      exact ⟨_, rfl, (fun h => by cases h), fun _ _ => ⟨_, _, rfl⟩, fun _ h => absurd (.inl h1) h⟩
    · rw [if_neg (by rw [decide_eq_false h1]; simp)]
      by_cases h2 : n > 1099511627776
      · rw [decide_eq_true h2]
        exact ⟨_, rfl, (fun h => by cases h), fun _ _ => ⟨_, _, rfl⟩, fun _ h => absurd (.inr h2) h⟩
      · rw [decide_eq_false h2]
        exact ⟨_, rfl, (fun h => by cases h), fun _ h => absurd h (by omega), fun _ _ => rfl⟩
theorem check_eq (x : api_Entry) : ∃ e, item_Check x = some e ∧ codeOf e = ckE x ∧ e.isNil = decide (ckE x = 0) := by
  unfold item_Check ckE
  rw [octKey_eq]
  simp only [Option.bind_some, lt_eq]
  by_cases hk : ckK x.Key = 0
  · rw [if_neg (show ¬ ((ckK x.Key != 0) = true) by simpa using hk), if_neg (show ¬ (ckK x.Key ≠ 0) by simpa using hk)]
    obtain ⟨e1, a1, a2, a3, a4⟩ := num_ck [118#8, 101#8, 114#8, 115#8, 105#8, 111#8, 110#8] x.Version 1 .nil
    obtain ⟨e2, b1, b2, b3, b4⟩ := num_ck [97#8, 115#8, 111#8, 102#8] x.AsOf x.Version e1
    obtain ⟨e3, c1, c2, c3, c4⟩ := num_ck [101#8, 110#8, 100#8, 115#8] x.Ends 0 e2
    simp only [a1, b1, c1, Option.bind_some]
    by_cases h : (x.Version < 1 ∨ x.Version > 1099511627776) ∨ (x.AsOf < x.Version ∨ x.AsOf > 1099511627776) ∨ (x.Ends < 0 ∨ x.Ends > 1099511627776)
    · rw [if_pos h]
      have key : ∃ o a, e3 = .fault o a 2 .nil := by
        by_cases h1 : x.Version < 1 ∨ x.Version > 1099511627776
        · obtain ⟨o, a, rfl⟩ := a3 rfl h1
          have := b2 rfl; subst this
          have := c2 rfl; subst this
          exact ⟨o, a, rfl⟩
        · have := a4 rfl h1; subst this
          by_cases h2 : x.AsOf < x.Version ∨ x.AsOf > 1099511627776
          · obtain ⟨o, a, rfl⟩ := b3 rfl h2
            have := c2 rfl; subst this
            exact ⟨o, a, rfl⟩
          · have := b4 rfl h2; subst this
            have h3 : x.Ends < 0 ∨ x.Ends > 1099511627776 := by
              rcases h with h | h | h
              · exact absurd h h1
              · exact absurd h h2
              · exact h
            exact c3 rfl h3
      obtain ⟨o, a, rfl⟩ := key
      exact ⟨_, rfl, rfl, rfl⟩
    · rw [if_neg h]
      simp only [not_or] at h
      have := a4 rfl (by omega); subst this
      have := b4 rfl (by omega); subst this
      have := c4 rfl (by omega); subst this
      simp only [Err.isNil, if_true, Option.bind_some]
      by_cases hv : 4096 < x.Value.length
      · rw [if_pos (decide_eq_true (by omega)), if_pos hv, new_eq _ _ _ (by decide)]
        exact ⟨_, rfl, rfl, rfl⟩
      · rw [if_neg (by rw [decide_eq_false (by omega)]; simp), if_neg hv]
        exact ⟨_, rfl, rfl, rfl⟩
  · rw [if_pos (by simpa using hk), if_pos hk, new_eq _ _ _ hk]
    exact ⟨_, rfl, by simp [codeOf, hk], by simp [Err.isNil, hk]⟩
theorem refCheck_eq (x : api_Entry) : butteryref06_Check x = some (ckE x) := by
  unfold butteryref06_Check ckE
  rw [refKey_eq]
  simp only [Option.bind_some, lt_eq]
  by_cases hk : ckK x.Key = 0
  · rw [if_neg (show ¬ ((ckK x.Key != 0) = true) by simpa using hk), if_neg (show ¬ (ckK x.Key ≠ 0) by simpa using hk)]
    have hb : (if decide (x.Version < 1) = true then some true else if decide (x.Version > 1099511627776) = true then some true else if decide (x.AsOf < x.Version) = true then some true else if decide (x.AsOf > 1099511627776) = true then some true else if decide (x.Ends < 0) = true then some true else some (decide (x.Ends > 1099511627776))) = some (decide ((x.Version < 1 ∨ x.Version > 1099511627776) ∨ (x.AsOf < x.Version ∨ x.AsOf > 1099511627776) ∨ (x.Ends < 0 ∨ x.Ends > 1099511627776))) := by
      by_cases h1 : x.Version < 1
      · simp [h1]
      by_cases h2 : x.Version > 1099511627776
      · simp [h1, h2]
      by_cases h3 : x.AsOf < x.Version
      · simp [h1, h2, h3]
      by_cases h4 : x.AsOf > 1099511627776
      · simp [h1, h2, h3, h4]
      by_cases h5 : x.Ends < 0
      · simp [h1, h2, h3, h4, h5]
      · simp [h1, h2, h3, h4, h5]
    rw [hb]
    simp only [Option.bind_some, decide_eq_true_eq]
    split
    · rfl
    · by_cases hv : 4096 < x.Value.length
      · rw [if_pos (by omega), if_pos hv]
      · rw [if_neg (by omega), if_neg hv]
  · rw [if_pos (show (ckK x.Key != 0) = true by simpa using hk), if_pos (show ckK x.Key ≠ 0 from hk)]
/-- An entry that may be. -/
theorem ck_ok {x : api_Entry} (h : ckE x = 0) : 1 ≤ x.Key.length ∧ x.Key.length ≤ 40 ∧ 1 ≤ x.Version ∧ x.Version ≤ 1099511627776 ∧ x.Version ≤ x.AsOf ∧ x.AsOf ≤ 1099511627776 ∧ 0 ≤ x.Ends ∧ x.Ends ≤ 1099511627776 ∧ x.Value.length ≤ 4096 := by
  unfold ckE ckK at h
  by_cases h1 : x.Key.length = 0
  · simp [h1] at h
  by_cases h2 : 40 < x.Key.length
  · simp [h1, h2] at h
  simp only [if_neg h1, if_neg h2] at h
  rw [if_neg (by simp)] at h
  by_cases h3 : (x.Version < 1 ∨ x.Version > 1099511627776) ∨ (x.AsOf < x.Version ∨ x.AsOf > 1099511627776) ∨ (x.Ends < 0 ∨ x.Ends > 1099511627776)
  · rw [if_pos h3] at h; cases h
  rw [if_neg h3] at h
  by_cases h4 : 4096 < x.Value.length
  · rw [if_pos h4] at h; cases h
  omega
/-- The bytes of an entry. -/
def encE (x : api_Entry) : List (BitVec 8) := num7 x.Key.length ++ (x.Key ++ (num7 x.Version.toNat ++ (num7 x.AsOf.toNat ++ (num7 x.Ends.toNat ++ (num7 x.Value.length ++ x.Value)))))
theorem okN_ck {x : api_Entry} (h : ckE x = 0) : okN [x.Version, x.AsOf, x.Ends] := by
  obtain ⟨h1, h2, h3, h4, h5, h6, h7, h8, h9⟩ := ck_ok h
  refine ⟨by simp, fun n hn => ?_⟩
  simp only [List.mem_cons, List.not_mem_nil, or_false] at hn
  rcases hn with rfl | rfl | rfl <;> omega
theorem num7_le {n : Nat} (h : n < 9223372036854775808) : (num7 n).length ≤ 9 := num7_len h
theorem encE_len {x : api_Entry} (h : ckE x = 0) : (encE x).length ≤ 4181 ∧ 1 ≤ (encE x).length := by
  obtain ⟨h1, h2, h3, h4, h5, h6, h7, h8, h9⟩ := ck_ok h
  have a1 := num7_len (n := x.Key.length) (by omega)
  have a2 := num7_len (n := x.Version.toNat) (by omega)
  have a3 := num7_len (n := x.AsOf.toNat) (by omega)
  have a4 := num7_len (n := x.Ends.toNat) (by omega)
  have a5 := num7_len (n := x.Value.length) (by omega)
  simp only [encE, List.length_append]
  omega
theorem put_eq {b : List (BitVec 8)} {x : api_Entry} (hb : b.length ≤ 900000) (h : ckE x = 0) : item_Put b x = some (b ++ encE x) := by
  obtain ⟨h1, h2, h3, h4, h5, h6, h7, h8, h9⟩ := ck_ok h
  have a1 := num7_len (n := x.Key.length) (by omega)
  have a2 := num7_len (n := x.Version.toNat) (by omega)
  have a3 := num7_len (n := x.AsOf.toNat) (by omega)
  have a4 := num7_len (n := x.Ends.toNat) (by omega)
  unfold item_Put
  rw [show toBytes x.Key = some x.Key by unfold toBytes; rw [if_pos (by omega)]]
  simp only [Option.bind_some, lt_eq]
  rw [octBytes_eq _ _ (by omega) (by omega)]
  simp only [Option.bind_some]
  rw [octPut_eq _ (by simp only [List.length_append]; omega) (okN_ck h)]
  simp only [Option.bind_some]
  rw [octBytes_eq _ _ (by simp only [List.length_append, nums, List.flatMap_cons, List.flatMap_nil, List.length_nil]; omega) (by omega)]
  simp [encE, nums]
theorem refPutE_eq {b : List (BitVec 8)} {x : api_Entry} (hb : b.length ≤ 900000) (h : ckE x = 0) : butteryref06_Put b x = some (b ++ encE x) := by
  obtain ⟨h1, h2, h3, h4, h5, h6, h7, h8, h9⟩ := ck_ok h
  have a1 := num7_len (n := x.Key.length) (by omega)
  have a2 := num7_len (n := x.Version.toNat) (by omega)
  have a3 := num7_len (n := x.AsOf.toNat) (by omega)
  have a4 := num7_len (n := x.Ends.toNat) (by omega)
  unfold butteryref06_Put
  rw [show toBytes x.Key = some x.Key by unfold toBytes; rw [if_pos (by omega)]]
  simp only [Option.bind_some, lt_eq]
  rw [refBytes_eq _ _ (by omega) (by omega)]
  simp only [Option.bind_some]
  rw [refPut_eq _ (by simp only [List.length_append]; omega) (okN_ck h)]
  simp only [Option.bind_some]
  rw [refBytes_eq _ _ (by simp only [List.length_append, nums, List.flatMap_cons, List.flatMap_nil, List.length_nil]; omega) (by omega)]
  simp [encE, nums]
theorem nlen_num7 : ∀ (k n : Nat), n < 128 ^ k → (num7 n).length = nlen n
  | 0, n, h => by
    have : n = 0 := by simpa using h
    subst this
    rw [num7_small (by omega), nlen_lt (by omega)]; rfl
  | k + 1, n, h => by
    by_cases h1 : n < 128
    · rw [num7_small h1, nlen_lt h1]; rfl
    · rw [nlen_ge (by omega), ← nlen_num7 k (n / 128) (by rw [Nat.div_lt_iff_lt_mul (by decide)]; rw [Nat.pow_succ] at h; exact h)]
      simp only [num7, List.length_append, List.length_cons, List.length_nil]
      rw [pre_pos (m := n / 128) (by omega)]
      simp
theorem nlen_eq {n : Nat} (h : n < 9223372036854775808) : (num7 n).length = nlen n := nlen_num7 9 n (by omega)
theorem size_eq6 {x : api_Entry} (h : ckE x = 0) : item_Size x = some ((encE x).length : Int) := by
  obtain ⟨h1, h2, h3, h4, h5, h6, h7, h8, h9⟩ := ck_ok h
  have a1 := num7_len (n := x.Key.length) (by omega)
  have a2 := num7_len (n := x.Version.toNat) (by omega)
  have a3 := num7_len (n := x.AsOf.toNat) (by omega)
  have a4 := num7_len (n := x.Ends.toNat) (by omega)
  have a5 := num7_len (n := x.Value.length) (by omega)
  have e2 : x.Version = (x.Version.toNat : Int) := by omega
  have e3 : x.AsOf = (x.AsOf.toNat : Int) := by omega
  have e4 : x.Ends = (x.Ends.toNat : Int) := by omega
  have hl : (encE x).length = (num7 x.Key.length).length + (x.Key.length + ((num7 x.Version.toNat).length + ((num7 x.AsOf.toNat).length + ((num7 x.Ends.toNat).length + ((num7 x.Value.length).length + x.Value.length))))) := by simp [encE]
  rw [hl]
  rw [nlen_eq (by omega), nlen_eq (by omega), nlen_eq (by omega), nlen_eq (by omega), nlen_eq (by omega)] at *
  unfold item_Size
  rw [e2, e3, e4]
  simp only [lt_eq, octLen_eq (n := x.Key.length) (by omega), octLen_eq (n := x.Value.length) (by omega), octLen_eq (n := x.Version.toNat) (by omega), octLen_eq (n := x.AsOf.toNat) (by omega), octLen_eq (n := x.Ends.toNat) (by omega), Option.bind_some, Int.toNat_natCast]
  generalize nlen x.Key.length = n1 at *
  generalize nlen x.Value.length = n2 at *
  generalize nlen x.Version.toNat = n3 at *
  generalize nlen x.AsOf.toNat = n4 at *
  generalize nlen x.Ends.toNat = n5 at *
  rw [w64_eq (n := (n1 : Int) + (x.Key.length : Int)) (by omega) (by omega), w64_eq (n := (n1 : Int) + (x.Key.length : Int) + (n2 : Int)) (by omega) (by omega), w64_eq (n := (n1 : Int) + (x.Key.length : Int) + (n2 : Int) + (x.Value.length : Int)) (by omega) (by omega)]
  rw [w64_eq (n := (n1 : Int) + (x.Key.length : Int) + (n2 : Int) + (x.Value.length : Int) + (n3 : Int)) (by omega) (by omega), w64_eq (n := (n1 : Int) + (x.Key.length : Int) + (n2 : Int) + (x.Value.length : Int) + (n3 : Int) + (n4 : Int)) (by omega) (by omega), w64_eq (n := (n1 : Int) + (x.Key.length : Int) + (n2 : Int) + (x.Value.length : Int) + (n3 : Int) + (n4 : Int) + (n5 : Int)) (by omega) (by omega)]
  congr 1
  omega
theorem refSize_eq6 {x : api_Entry} (h : ckE x = 0) : butteryref06_Size x = some ((encE x).length : Int) := by
  unfold butteryref06_Size
  rw [refPutE_eq (b := []) (by simp) h]
  simp [lt_eq]
def zeroE : api_Entry := ⟨[], 0, 0, 0, []⟩
/-- What is read as an entry. -/
def frE (b : List (BitVec 8)) (r : rdr) : api_Entry × rdr :=
  let k := rB b r 40
  let v := rN b k.2 1099511627776
  let a := rN b v.2 1099511627776
  let n := rN b a.2 1099511627776
  let w := rB b n.2 4096
  let x : api_Entry := ⟨k.1, v.1, a.1, n.1, w.1⟩
  if w.2.e = 0 then (if ckE x = 0 then (x, w.2) else (zeroE, ⟨w.2.a, ckE x⟩)) else (zeroE, w.2)
theorem from_eq {b : List (BitVec 8)} (hb : b.length ≤ 1000000) {r : rdr} (hr : r.a ≤ b.length) : item_From (r.o b) = some ((frE b r).1, (frE b r).2.o b) := by
  unfold item_From frE
  have h1 := rB_le hr 40
  rw [show (40 : Int) = ((40 : Nat) : Int) from rfl, octB_r hb hr (by omega)]
  simp only [Option.bind_some]
  have h2 := rN_le h1.1 1099511627776
  rw [show (1099511627776 : Int) = ((1099511627776 : Nat) : Int) from rfl, octN_r hb h1.1 (by omega)]
  simp only [Option.bind_some]
  have h3 := rN_le h2.1 1099511627776
  rw [octN_r hb h2.1 (by omega)]
  simp only [Option.bind_some]
  have h4 := rN_le h3.1 1099511627776
  rw [octN_r hb h3.1 (by omega)]
  simp only [Option.bind_some]
  rw [show (4096 : Int) = ((4096 : Nat) : Int) from rfl, octB_r hb h4.1 (by omega)]
  simp only [Option.bind_some, lt_eq]
  generalize rN b (rN b (rN b (rB b r 40).2 1099511627776).2 1099511627776).2 1099511627776 = n at *
  generalize rN b (rN b (rB b r 40).2 1099511627776).2 1099511627776 = a at *
  generalize rN b (rB b r 40).2 1099511627776 = v at *
  generalize rB b r 40 = k at *
  generalize rB b n.2 4096 = w
  obtain ⟨wv, wa, we⟩ := w
  simp only [octets_Reader_Code, rdr.o, Option.bind_some]
  by_cases he : we = 0
  · subst he
    obtain ⟨e, c1, c2, c3⟩ := check_eq ⟨k.1, v.1, a.1, n.1, wv⟩
    rw [if_pos (by rfl), c1, if_pos rfl]
    simp only [Option.bind_some, c3]
    by_cases hc : ckE ⟨k.1, v.1, a.1, n.1, wv⟩ = 0
    · rw [if_pos hc]
      simp [hc]
    · rw [if_neg hc]
      simp only [hc, decide_false, Bool.not_false, if_true, trouble_Of, c2, Option.bind_some, fail_eq]
      rw [if_pos (by simpa using hc)]
      rfl
  · rw [if_neg (by simpa using he), if_neg he]
    simp only [Option.bind_some]
    rw [if_pos (by simpa using he)]
    rfl
theorem refFrom_eq {b : List (BitVec 8)} (hb : b.length ≤ 1000000) {r : rdr} (hr : r.a ≤ b.length) : butteryref06_From (r.x b) = some ((frE b r).2.x b, (frE b r).1) := by
  unfold butteryref06_From frE
  have h1 := rB_le hr 40
  rw [show (40 : Int) = ((40 : Nat) : Int) from rfl, refB_r hb hr (by omega)]
  simp only [Option.bind_some]
  have h2 := rN_le h1.1 1099511627776
  rw [show (1099511627776 : Int) = ((1099511627776 : Nat) : Int) from rfl, refN_r hb h1.1 (by omega)]
  simp only [Option.bind_some]
  have h3 := rN_le h2.1 1099511627776
  rw [refN_r hb h2.1 (by omega)]
  simp only [Option.bind_some]
  have h4 := rN_le h3.1 1099511627776
  rw [refN_r hb h3.1 (by omega)]
  simp only [Option.bind_some]
  rw [show (4096 : Int) = ((4096 : Nat) : Int) from rfl, refB_r hb h4.1 (by omega)]
  simp only [Option.bind_some, lt_eq]
  generalize rN b (rN b (rN b (rB b r 40).2 1099511627776).2 1099511627776).2 1099511627776 = n at *
  generalize rN b (rN b (rB b r 40).2 1099511627776).2 1099511627776 = a at *
  generalize rN b (rB b r 40).2 1099511627776 = v at *
  generalize rB b r 40 = k at *
  generalize rB b n.2 4096 = w
  obtain ⟨wv, wa, we⟩ := w
  simp only [rdr.x]
  by_cases he : we = 0
  · subst he
    rw [refCheck_eq]
    simp only [Option.bind_some, beq_self_eq_true, if_true]
    by_cases hc : ckE ⟨k.1, v.1, a.1, n.1, wv⟩ = 0
    · rw [if_pos hc]
      simp [hc]
    · rw [if_neg hc]
      rw [if_pos (by simpa using hc)]
      rfl
  · have hf : (we == 0) = false := by simpa using he
    simp only [hf, if_neg he, Option.bind_some, Bool.false_eq_true, if_false]
    simp [he]
    rfl
theorem frE_le {b : List (BitVec 8)} {r : rdr} (hr : r.a ≤ b.length) : (frE b r).2.a ≤ b.length := by
  unfold frE
  have h1 := rB_le hr 40
  have h2 := rN_le h1.1 1099511627776
  have h3 := rN_le h2.1 1099511627776
  have h4 := rN_le h3.1 1099511627776
  have h5 := rB_le h4.1 4096
  simp only
  split
  · split
    · exact h5.1
    · exact h5.1
  · exact h5.1
/-- An entry that is there is read. -/
theorem frE_is {b l : List (BitVec 8)} {r : rdr} {x : api_Entry} (he : r.e = 0) (hr : r.a ≤ b.length) (h : b.drop r.a = encE x ++ l) (hc : ckE x = 0) : frE b r = (x, ⟨r.a + (encE x).length, 0⟩) := by
  obtain ⟨h1, h2, h3, h4, h5, h6, h7, h8, h9⟩ := ck_ok hc
  simp only [encE, List.append_assoc] at h
  have k1 := rB_is he hr h (m := 40) (by omega) (by omega)
  have d1 : b.drop (r.a + (num7 x.Key.length).length + x.Key.length) = _ := drop_app (drop_app h)
  have l1 : r.a + (num7 x.Key.length).length + x.Key.length ≤ b.length := by have := (rB_le hr 40).1; rw [k1] at this; exact this
  have k2 := rN_is (r := ⟨r.a + (num7 x.Key.length).length + x.Key.length, 0⟩) rfl d1 (m := 1099511627776) (by omega) (by omega)
  have d2 := drop_app d1
  have l2 := (rN_le (b := b) (r := ⟨r.a + (num7 x.Key.length).length + x.Key.length, 0⟩) l1 1099511627776).1
  rw [k2] at l2
  have k3 := rN_is (r := ⟨r.a + (num7 x.Key.length).length + x.Key.length + (num7 x.Version.toNat).length, 0⟩) rfl d2 (m := 1099511627776) (by omega) (by omega)
  have d3 := drop_app d2
  have l3 := (rN_le (b := b) (r := ⟨r.a + (num7 x.Key.length).length + x.Key.length + (num7 x.Version.toNat).length, 0⟩) l2 1099511627776).1
  rw [k3] at l3
  have k4 := rN_is (r := ⟨r.a + (num7 x.Key.length).length + x.Key.length + (num7 x.Version.toNat).length + (num7 x.AsOf.toNat).length, 0⟩) rfl d3 (m := 1099511627776) (by omega) (by omega)
  have d4 := drop_app d3
  have l4 := (rN_le (b := b) (r := ⟨r.a + (num7 x.Key.length).length + x.Key.length + (num7 x.Version.toNat).length + (num7 x.AsOf.toNat).length, 0⟩) l3 1099511627776).1
  rw [k4] at l4
  have k5 := rB_is (r := ⟨r.a + (num7 x.Key.length).length + x.Key.length + (num7 x.Version.toNat).length + (num7 x.AsOf.toNat).length + (num7 x.Ends.toNat).length, 0⟩) rfl l4 d4 (m := 4096) (by omega) (by omega)
  have e2 : (x.Version.toNat : Int) = x.Version := by omega
  have e3 : (x.AsOf.toNat : Int) = x.AsOf := by omega
  have e4 : (x.Ends.toNat : Int) = x.Ends := by omega
  unfold frE
  simp only [k1, k2, k3, k4, k5, if_true, e2, e3, e4]
  rw [if_pos hc]
  refine Prod.ext rfl ?_
  simp only [encE, List.length_append, rdr.mk.injEq, and_true]
  omega
/-- What was read as an entry is its bytes. -/
theorem frE_one {b : List (BitVec 8)} {r : rdr} (hr : r.a ≤ b.length) (h : (frE b r).2.e = 0) : ckE (frE b r).1 = 0 ∧ b.drop r.a = encE (frE b r).1 ++ b.drop (frE b r).2.a ∧ r.a < (frE b r).2.a := by
  unfold frE at h ⊢
  have h1 := rB_le hr 40
  have h2 := rN_le h1.1 1099511627776
  have h3 := rN_le h2.1 1099511627776
  have h4 := rN_le h3.1 1099511627776
  have h5 := rB_le h4.1 4096
  have o5 := rB_one (b := b) h4.1 (m := 4096) (by omega)
  have f5 := rB_off (b := b) (r := (rN b (rN b (rN b (rB b r 40).2 1099511627776).2 1099511627776).2 1099511627776).2) (m := 4096)
  have o4 := rN_one (b := b) (r := (rN b (rN b (rB b r 40).2 1099511627776).2 1099511627776).2) (m := 1099511627776) (by omega)
  have f4 := rN_off (b := b) (r := (rN b (rN b (rB b r 40).2 1099511627776).2 1099511627776).2) (m := 1099511627776)
  have o3 := rN_one (b := b) (r := (rN b (rB b r 40).2 1099511627776).2) (m := 1099511627776) (by omega)
  have f3 := rN_off (b := b) (r := (rN b (rB b r 40).2 1099511627776).2) (m := 1099511627776)
  have o2 := rN_one (b := b) (r := (rB b r 40).2) (m := 1099511627776) (by omega)
  have f2 := rN_off (b := b) (r := (rB b r 40).2) (m := 1099511627776)
  have o1 := rB_one (b := b) hr (m := 40) (by omega)
  simp only at h ⊢
  generalize rB b (rN b (rN b (rN b (rB b r 40).2 1099511627776).2 1099511627776).2 1099511627776).2 4096 = w at *
  generalize rN b (rN b (rN b (rB b r 40).2 1099511627776).2 1099511627776).2 1099511627776 = n at *
  generalize rN b (rN b (rB b r 40).2 1099511627776).2 1099511627776 = a at *
  generalize rN b (rB b r 40).2 1099511627776 = v at *
  generalize rB b r 40 = k at *
  by_cases he : w.2.e = 0
  · rw [if_pos he] at h ⊢
    by_cases hc : ckE ⟨k.1, v.1, a.1, n.1, w.1⟩ = 0
    · rw [if_pos hc]
      have g4 := f5 he
      have g3 := f4 g4
      have g2 := f3 g3
      have g1 := f2 g2
      refine ⟨hc, ?_, ?_⟩
      · simp only [encE, Int.toNat_natCast, List.append_assoc]
        rw [(o1 g1).1, (o2 g2).1, (o3 g3).1, (o4 g4).1, (o5 he).1]
      · have := (o1 g1).2.1
        simp only
        omega
    · rw [if_neg hc] at h
      exact absurd h hc
  · rw [if_neg he] at h
    exact absurd h he
end Go.Proofs.YtgfedohhkbmobaaDoor
namespace Go.Proofs.YtgfedohhkbmobaaDoor
open Go Go.Va
set_option linter.unusedVariables false
set_option linter.unusedSimpArgs false
set_option maxRecDepth 20000
noncomputable def butteryref05_stamp (x0 : List (BitVec 8)) : Option (Int) :=
  lt ((⟨x0, (0 : Int), (0 : Int)⟩ : butteryref02_Reader)) fun v2 =>
  (butteryref02_Eight v2).bind fun v4 =>
  lt (decide (1099511627776#64 < v4.2)) fun v9 =>
  if v9 = true then
    some (0 : Int)
  else
    lt (BitVec.toInt v4.2) fun v12 =>
    some v12
end Go.Proofs.YtgfedohhkbmobaaDoor
namespace Go.Proofs.YtgfedohhkbmobaaDoor
open Go Go.Va
set_option linter.unusedVariables false
set_option linter.unusedSimpArgs false
set_option maxRecDepth 20000
noncomputable def butteryref05_Stamps (x0 : List (BitVec 8)) : Option (Int × Int) :=
  lt (((x0).length : Int)) fun v2 =>
  lt (v2 != (256 : Int)) fun v4 =>
  if v4 = true then
    some ((0 : Int), (0 : Int))
  else
    (cutTo x0 (8 : Int)).bind fun v7 =>
    (butteryref05_stamp v7).bind fun v9 =>
    (cutFrom x0 (248 : Int)).bind fun v11 =>
    (butteryref05_stamp v11).bind fun v13 =>
    some (v9, v13)
end Go.Proofs.YtgfedohhkbmobaaDoor
namespace Go.Proofs.YtgfedohhkbmobaaDoor
open Go Go.Va
set_option linter.unusedVariables false
set_option linter.unusedSimpArgs false
set_option maxRecDepth 20000
noncomputable def butteryref05_Put_b0 (x0 : api_Leaf) (c35 : List (BitVec 8)) : Option (((List (BitVec 8))) ⊕ ((List (BitVec 8)))) :=
  lt (((c35).length : Int)) fun v46 =>
  lt (decide (v46 < (244 : Int))) fun v48 =>
  if v48 = true then
    (app 1 c35 ([0#8] : List (BitVec 8))).bind fun v51 =>
    some (.inl v51)
  else
    some (.inr c35)
noncomputable def butteryref05_Put_l0 (x0 : api_Leaf) (s : (List (BitVec 8))) : Option ((List (BitVec 8))) := loopO (fun s => butteryref05_Put_b0 x0 s) s
noncomputable def butteryref05_Put (x0 : api_Leaf) : Option ((List (BitVec 8)) × Int) :=
  (butteryref05_Check x0).bind fun v2 =>
  lt (v2 != (0 : Int)) fun v4 =>
  if v4 = true then
    some ([], v2)
  else
    lt (BitVec.ofInt 64 x0.Stamp) fun v7 =>
    (butteryref02_Word [] v7).bind fun v9 =>
    lt (BitVec.ofInt 8 x0.Kind) fun v12 =>
    lt (((x0.Bytes).length : Int)) fun v14 =>
    lt (quo64 v14 (256 : Int)) fun v16 =>
    lt (BitVec.ofInt 8 v16) fun v18 =>
    lt (((x0.Bytes).length : Int)) fun v20 =>
    lt (Int.tmod v20 (256 : Int)) fun v22 =>
    lt (BitVec.ofInt 8 v22) fun v24 =>
    lt (([v12, v18, v24] : List (BitVec 8))) fun v26 =>
    (app 1 v9 v26).bind fun v28 =>
    (app 1 v28 x0.Bytes).bind fun v32 =>
    (butteryref05_Put_l0 x0 v32).bind fun s43 =>
      (butteryref03_Seal s43).bind fun v56 =>
      lt (BitVec.ofInt 64 x0.Stamp) fun v58 =>
      (butteryref02_Word v56 v58).bind fun v60 =>
      some (v60, (0 : Int))
end Go.Proofs.YtgfedohhkbmobaaDoor
namespace Go.Proofs.YtgfedohhkbmobaaDoor
open Go Go.Va
set_option linter.unusedVariables false
set_option linter.unusedSimpArgs false
set_option maxRecDepth 20000
noncomputable def butteryref05_Get_b0 (x0 : List (BitVec 8)) (v57 : Int) (v61 : Int) (v70 : List (BitVec 8)) (c82 : Int) : Option ((Int) ⊕ (Unit ⊕ (api_Leaf × Int))) :=
  lt (decide (c82 < (244 : Int))) fun v93 =>
  if v93 = true then
    (ix x0 c82).bind fun v96 =>
    lt (v96 != 0#8) fun v98 =>
    if v98 = true then
      some (.inr (.inr ((((⟨(0 : Int), (0 : Int), ([] : List (BitVec 8))⟩ : api_Leaf) : api_Leaf) : api_Leaf), (5 : Int))))
    else
      lt (w64 (c82 + (1 : Int))) fun v103 =>
      some (.inl v103)
  else
    some (.inr (.inl ()))
noncomputable def butteryref05_Get_l0 (x0 : List (BitVec 8)) (v57 : Int) (v61 : Int) (v70 : List (BitVec 8)) (s : Int) : Option (Unit ⊕ (api_Leaf × Int)) := loopO (fun s => butteryref05_Get_b0 x0 v57 v61 v70 s) s
noncomputable def butteryref05_Get (x0 : List (BitVec 8)) : Option (api_Leaf × Int) :=
  lt (((x0).length : Int)) fun v7 =>
  lt (v7 != (256 : Int)) fun v9 =>
  if v9 = true then
    some ((((⟨(0 : Int), (0 : Int), ([] : List (BitVec 8))⟩ : api_Leaf) : api_Leaf) : api_Leaf), (6 : Int))
  else
    (cutTo x0 (8 : Int)).bind fun v13 =>
    (cutFrom x0 (248 : Int)).bind fun v15 =>
    (butteryref02_Same v13 v15).bind fun v17 =>
    lt (!v17) fun v19 =>
    if v19 = true then
      some ((((⟨(0 : Int), (0 : Int), ([] : List (BitVec 8))⟩ : api_Leaf) : api_Leaf) : api_Leaf), (8 : Int))
    else
      (cutTo x0 (8 : Int)).bind fun v23 =>
      (butteryref05_stamp v23).bind fun v25 =>
      lt (v25 == (0 : Int)) fun v27 =>
      if v27 = true then
        some ((((⟨(0 : Int), (0 : Int), ([] : List (BitVec 8))⟩ : api_Leaf) : api_Leaf) : api_Leaf), (9 : Int))
      else
        (cutTo x0 (248 : Int)).bind fun v31 =>
        (butteryref03_Fits v31).bind fun v33 =>
        lt (!v33) fun v35 =>
        if v35 = true then
          some ((((⟨(0 : Int), (0 : Int), ([] : List (BitVec 8))⟩ : api_Leaf) : api_Leaf) : api_Leaf), (7 : Int))
        else
          (ix x0 (9 : Int)).bind fun v39 =>
          lt ((BitVec.toNat v39 : Int)) fun v41 =>
          lt (w64 (v41 * (256 : Int))) fun v43 =>
          (ix x0 (10 : Int)).bind fun v45 =>
          lt ((BitVec.toNat v45 : Int)) fun v47 =>
          lt (w64 (v43 + v47)) fun v49 =>
          lt (decide (v49 > (233 : Int))) fun v51 =>
          if v51 = true then
            some ((((⟨(0 : Int), (0 : Int), ([] : List (BitVec 8))⟩ : api_Leaf) : api_Leaf) : api_Leaf), (5 : Int))
          else
            (cutTo x0 (8 : Int)).bind fun v55 =>
            (butteryref05_stamp v55).bind fun v57 =>
            (ix x0 (8 : Int)).bind fun v59 =>
            lt ((BitVec.toNat v59 : Int)) fun v61 =>
            lt (w64 ((11 : Int) + v49)) fun v66 =>
            (cutO x0 (11 : Int) v66).bind fun v68 =>
            (app 1 ([] : List (BitVec 8)) v68).bind fun v70 =>
            (butteryref05_Check ({ ((⟨v57, v61, ([] : List (BitVec 8))⟩ : api_Leaf) : api_Leaf) with Bytes := v70 } : api_Leaf)).bind fun v75 =>
            lt (v75 != (0 : Int)) fun v77 =>
            if v77 = true then
              some ((((⟨(0 : Int), (0 : Int), ([] : List (BitVec 8))⟩ : api_Leaf) : api_Leaf) : api_Leaf), v75)
            else
              lt (w64 ((11 : Int) + v49)) fun v81 =>
              (butteryref05_Get_l0 x0 v57 v61 v70 v81).bind fun o83 =>
                Sum.elim (fun s90 : Unit =>
                  some ((({ ((⟨v57, v61, ([] : List (BitVec 8))⟩ : api_Leaf) : api_Leaf) with Bytes := v70 } : api_Leaf) : api_Leaf), (0 : Int))
                  ) (fun y => some y) o83
end Go.Proofs.YtgfedohhkbmobaaDoor
namespace Go.Proofs.YtgfedohhkbmobaaDoor
open Go Go.Va
set_option linter.unusedVariables false
set_option linter.unusedSimpArgs false
set_option maxRecDepth 20000
noncomputable def butteryref05_Same (x0 : api_Leaf) (x1 : api_Leaf) : Option (Bool) :=
  lt (x0.Stamp == x1.Stamp) fun v2 =>
  if v2 = true then
    lt (x0.Kind == x1.Kind) fun v5 =>
    if v5 = true then
      (butteryref02_Same x0.Bytes x1.Bytes).bind fun v8 =>
      some v8
    else
      some false
  else
    some false
end Go.Proofs.YtgfedohhkbmobaaDoor
namespace Go.Proofs.YtgfedohhkbmobaaDoor
open Go Go.Va
set_option linter.unusedVariables false
set_option linter.unusedSimpArgs false
def lkE (x : api_Leaf) : Int :=
  if x.Stamp < 1 ∨ x.Stamp > 1099511627776 then 2 else if x.Kind < 1 ∨ x.Kind > 5 then 12 else if 233 < x.Bytes.length then 3 else 0
def lkErr (x : api_Leaf) : Err :=
  if x.Stamp < 1 ∨ x.Stamp > 1099511627776 then .fault [115#8, 116#8, 97#8, 109#8, 112#8] x.Stamp 2 .nil else if x.Kind < 1 ∨ x.Kind > 5 then .fault [107#8, 105#8, 110#8, 100#8] x.Kind 12 .nil else if 233 < x.Bytes.length then .fault [108#8, 101#8, 97#8, 102#8] x.Bytes.length 3 .nil else .nil
theorem leafCheck_eq (x : api_Leaf) : leaf_Check x = some (lkErr x) := by
  unfold leaf_Check lkErr
  have n1 := new_eq [115#8, 116#8, 97#8, 109#8, 112#8] x.Stamp 2 (by decide)
  have n2 := new_eq [107#8, 105#8, 110#8, 100#8] x.Kind 12 (by decide)
  have n3 := new_eq [108#8, 101#8, 97#8, 102#8] x.Bytes.length 3 (by decide)
  have e5 : decide ((x.Bytes.length : Int) > 233) = decide (233 < x.Bytes.length) := decide_eq_decide.2 (by omega)
  simp only [lt_eq, n1, n2, n3, Option.bind_some, e5]
  by_cases h1 : x.Stamp < 1 <;> by_cases h2 : x.Stamp > 1099511627776 <;> by_cases h3 : x.Kind < 1 <;> by_cases h4 : x.Kind > 5 <;> by_cases h5 : 233 < x.Bytes.length <;> simp [h1, h2, h3, h4, h5]
theorem check_eq5 (x : api_Leaf) : ∃ e, leaf_Check x = some e ∧ codeOf e = lkE x ∧ e.isNil = decide (lkE x = 0) := by
  refine ⟨lkErr x, leafCheck_eq x, ?_, ?_⟩
  · unfold lkErr lkE
    split
    · rfl
    · split
      · rfl
      · split
        · rfl
        · rfl
  · unfold lkErr lkE
    split
    · rfl
    · split
      · rfl
      · split
        · rfl
        · rfl
theorem refCheck_eq5 (x : api_Leaf) : butteryref05_Check x = some (lkE x) := by
  unfold butteryref05_Check lkE
  have e5 : decide ((x.Bytes.length : Int) > 233) = decide (233 < x.Bytes.length) := decide_eq_decide.2 (by omega)
  simp only [lt_eq, e5]
  by_cases h1 : x.Stamp < 1 <;> by_cases h2 : x.Stamp > 1099511627776 <;> by_cases h3 : x.Kind < 1 <;> by_cases h4 : x.Kind > 5 <;> by_cases h5 : 233 < x.Bytes.length <;> simp [h1, h2, h3, h4, h5]
theorem lk_ok {x : api_Leaf} (h : lkE x = 0) : 1 ≤ x.Stamp ∧ x.Stamp ≤ 1099511627776 ∧ 1 ≤ x.Kind ∧ x.Kind ≤ 5 ∧ x.Bytes.length ≤ 233 := by
  unfold lkE at h
  split at h
  · cases h
  · split at h
    · cases h
    · split at h
      · cases h
      · omega
theorem lk_of {x : api_Leaf} (h1 : 1 ≤ x.Stamp) (h2 : x.Stamp ≤ 1099511627776) (h3 : 1 ≤ x.Kind) (h4 : x.Kind ≤ 5) (h5 : x.Bytes.length ≤ 233) : lkE x = 0 := by
  unfold lkE
  rw [if_neg (by omega), if_neg (by omega), if_neg (by omega)]
/-! ### words and stamps -/
theorem word_app (l : List (BitVec 8)) (c : BitVec 8) : word (l ++ [c]) = stp (word l) c := by simp [word]
/-- Eight bytes are those of their word. -/
theorem wd_word {l : List (BitVec 8)} (h : l.length = 8) : wd (word l) 8 = l := by
  obtain ⟨a, b, c, d, e, f, g, k, rfl⟩ : ∃ a b c d e f g k, l = [a, b, c, d, e, f, g, k] := by
    match l, h with
    | [a, b, c, d, e, f, g, k], _ => exact ⟨a, b, c, d, e, f, g, k, rfl⟩
  simp only [wd, List.range, List.range.loop, List.map_cons, List.map_nil, word, List.foldl_cons, List.foldl_nil, stp, List.cons.injEq, and_true]
  refine ⟨?_, ?_, ?_, ?_, ?_, ?_, ?_, ?_⟩ <;>
  · apply BitVec.eq_of_getLsbD_eq
    intro i hi
    simp only [BitVec.getLsbD_setWidth, BitVec.getLsbD_ushiftRight, BitVec.getLsbD_or, BitVec.getLsbD_shiftLeft, BitVec.getLsbD_zero]
    have : i = 0 ∨ i = 1 ∨ i = 2 ∨ i = 3 ∨ i = 4 ∨ i = 5 ∨ i = 6 ∨ i = 7 := by omega
    rcases this with rfl | rfl | rfl | rfl | rfl | rfl | rfl | rfl <;> simp
theorem word_inj {l m : List (BitVec 8)} (h1 : l.length = 8) (h2 : m.length = 8) (h : word l = word m) : l = m := by
  rw [← wd_word h1, ← wd_word h2, h]
def fitN (n : BitVec 64) : Int := if 1099511627776#64 < n then 0 else n.toInt
theorem stamps1_eq (n : BitVec 64) : leaf_Stamps_1 n = some (fitN n) := by
  unfold leaf_Stamps_1 fitN
  simp only [lt_eq]
  by_cases h : 1099511627776#64 < n
  · rw [if_pos (decide_eq_true h), if_pos h]
  · rw [if_neg (by simpa using h), if_neg h]
theorem cut8_0 {b : List (BitVec 8)} : cut8 b 0 = b.take 8 := by simp [cut8]
theorem leafWord_eq {b : List (BitVec 8)} (h : 8 ≤ b.length) : leaf_word b = some (word (b.take 8)) := by
  unfold leaf_word
  rw [show (8 : Int) = ((8 : Nat) : Int) from rfl, cutTo_eq h]
  have hl : (b.take 8).length = 8 := by rw [List.length_take]; omega
  simp only [Option.bind_some]
  rw [read_eq (by omega)]
  simp only [Option.bind_some]
  have := octWordR_eq (b := b.take 8) (a := 0) (by omega) (by omega)
  rw [if_pos (by omega), cut8_0, List.take_take] at this
  rw [show ((0 : Nat) : Int) = 0 from rfl] at this
  rw [this]
  rfl
theorem stamp_eq {b : List (BitVec 8)} (h : b.length = 8) : butteryref05_stamp b = some (fitN (word b)) := by
  unfold butteryref05_stamp
  simp only [lt_eq]
  have := eight_eq (b := b) (a := 0) (by omega) (by omega)
  rw [if_pos (by omega), cut8_0, List.take_of_length_le (by omega)] at this
  rw [show ((0 : Nat) : Int) = 0 from rfl] at this
  rw [this]
  simp only [Option.bind_some]
  unfold fitN
  by_cases h : 1099511627776#64 < word b
  · rw [if_pos (decide_eq_true h), if_pos h]
  · rw [if_neg (by simpa using h), if_neg h]
def ahead (b : List (BitVec 8)) : List (BitVec 8) := b.take 8
def behind (b : List (BitVec 8)) : List (BitVec 8) := b.drop 248
def stE (b : List (BitVec 8)) : Int × Int := if b.length = 256 then (fitN (word (ahead b)), fitN (word (behind b))) else (0, 0)
theorem stamps_eq (b : List (BitVec 8)) : leaf_Stamps b = some (stE b) := by
  unfold leaf_Stamps stE
  simp only [lt_eq]
  by_cases h : b.length = 256
  · rw [if_neg (by simp [h]), if_pos h, leafWord_eq (by omega)]
    simp only [Option.bind_some, stamps1_eq]
    rw [show (248 : Int) = ((248 : Nat) : Int) from rfl, cutFrom_eq (by omega)]
    have hl : (b.drop 248).length = 8 := by rw [List.length_drop]; omega
    simp only [Option.bind_some]
    rw [leafWord_eq (by omega), List.take_of_length_le (by omega)]
    simp only [Option.bind_some, stamps1_eq]
    rfl
  · rw [if_pos (by simp; omega), if_neg h]
theorem refStamps_eq (b : List (BitVec 8)) : butteryref05_Stamps b = some (stE b) := by
  unfold butteryref05_Stamps stE
  simp only [lt_eq]
  by_cases h : b.length = 256
  · rw [if_neg (by simp [h]), if_pos h, show (248 : Int) = ((248 : Nat) : Int) from rfl, show (8 : Int) = ((8 : Nat) : Int) from rfl, cutFrom_eq (by omega), cutTo_eq (by omega)]
    simp only [Option.bind_some]
    rw [stamp_eq (by rw [List.length_take]; omega)]
    simp only [Option.bind_some]
    rw [stamp_eq (by rw [List.length_drop]; omega)]
    rfl
  · rw [if_pos (by simp; omega), if_neg h]
theorem fitN_zero {n : BitVec 64} (h : fitN n ≠ 0) : n = BitVec.ofInt 64 (fitN n) ∧ 1 ≤ fitN n ∧ fitN n ≤ 1099511627776 := by
  unfold fitN at h ⊢
  split at h
  · exact absurd rfl h
  · rename_i hn
    rw [if_neg hn]
    have h1 : n.toNat ≤ 1099511627776 := by
      have := hn
      rw [BitVec.lt_def] at this
      simpa using this
    have h2 : n.toInt = (n.toNat : Int) := by rw [BitVec.toInt_eq_toNat_of_lt (by omega)]
    rw [h2] at h ⊢
    refine ⟨?_, by omega, by omega⟩
    apply BitVec.eq_of_toNat_eq
    rw [BitVec.ofInt_natCast, BitVec.toNat_ofNat, Nat.mod_eq_of_lt n.isLt]
theorem fitN_of {s : Int} (h1 : 1 ≤ s) (h2 : s ≤ 1099511627776) : fitN (BitVec.ofInt 64 s) = s := by
  obtain ⟨k, rfl⟩ : ∃ k : Nat, s = k := ⟨s.toNat, by omega⟩
  unfold fitN
  have hk : (BitVec.ofInt 64 (k : Int)).toNat = k := by rw [BitVec.ofInt_natCast, BitVec.toNat_ofNat, Nat.mod_eq_of_lt (by omega)]
  rw [if_neg (by rw [BitVec.lt_def, hk]; simp; omega), BitVec.toInt_eq_toNat_of_lt (by omega), hk]
/-! ### pages put -/
def bodyE (x : api_Leaf) : List (BitVec 8) := wd (BitVec.ofInt 64 x.Stamp) 8 ++ ([BitVec.ofInt 8 x.Kind, 0#8, BitVec.ofNat 8 x.Bytes.length] ++ (x.Bytes ++ List.replicate (233 - x.Bytes.length) 0#8))
def pgE (x : api_Leaf) : List (BitVec 8) := cseal (bodyE x) ++ wd (BitVec.ofInt 64 x.Stamp) 8
theorem body_len {x : api_Leaf} (h : x.Bytes.length ≤ 233) : (bodyE x).length = 244 := by
  simp only [bodyE, List.length_append, wd_len, List.length_cons, List.length_nil, List.length_replicate]; omega
theorem pg_len {x : api_Leaf} (h : x.Bytes.length ≤ 233) : (pgE x).length = 256 := by
  simp only [pgE, List.length_append, wd_len, cseal_len, body_len h]
theorem put_eq5 (x : api_Leaf) : (lkE x = 0 → leaf_Put x = some (pgE x, .nil)) ∧ (lkE x ≠ 0 → ∃ e, leaf_Put x = some ([], e) ∧ codeOf e = lkE x ∧ e.isNil = false) := by
  obtain ⟨e, c1, c2, c3⟩ := check_eq5 x
  unfold leaf_Put
  simp only [c1, Option.bind_some, lt_eq, c3]
  refine ⟨fun h => ?_, fun h => ⟨e, by rw [if_pos (by simp [h])], c2, by rw [c3]; simpa using h⟩⟩
  have hl := (lk_ok h).2.2.2.2
  rw [if_neg (by simp [h]), octWord_eq _ _ (by simp)]
  simp only [Option.bind_some, List.nil_append]
  have e1 : BitVec.ofInt 8 (shr64 (x.Bytes.length : Int) 8) = 0#8 := by
    have : shr64 (x.Bytes.length : Int) 8 = 0 := by
      generalize x.Bytes.length = k at hl
      show Int.fdiv (k : Int) 256 = 0
      rw [Int.fdiv_eq_ediv_of_nonneg _ (by decide)]
      omega
    rw [this]; rfl
  have hw := wd_len (BitVec.ofInt 64 x.Stamp) 8
  rw [e1, app_eq (by simp [hw])]
  simp only [Option.bind_some]
  rw [app_eq (by simp [hw]; omega)]
  simp only [Option.bind_some]
  rw [w64_eq (by simp [hw]; omega) (by simp [hw]; omega)]
  have hm : mkS 1 ((244 : Int) - ((wd (BitVec.ofInt 64 x.Stamp) 8 ++ [BitVec.ofInt 8 x.Kind, 0#8, BitVec.ofInt 8 (x.Bytes.length : Int)] ++ x.Bytes).length : Int)) (0#8 : BitVec 8) = some (List.replicate (233 - x.Bytes.length) 0#8) := by
    have e2 : (244 : Int) - ((wd (BitVec.ofInt 64 x.Stamp) 8 ++ [BitVec.ofInt 8 x.Kind, 0#8, BitVec.ofInt 8 (x.Bytes.length : Int)] ++ x.Bytes).length : Int) = ((233 - x.Bytes.length : Nat) : Int) := by
      simp only [List.length_append, hw, List.length_cons, List.length_nil]; omega
    rw [e2]
    unfold mkS
    rw [if_pos (by omega), Int.toNat_natCast]
  rw [hm]
  simp only [Option.bind_some]
  rw [app_eq (by simp [hw]; omega)]
  simp only [Option.bind_some]
  have e3 : wd (BitVec.ofInt 64 x.Stamp) 8 ++ [BitVec.ofInt 8 x.Kind, 0#8, BitVec.ofInt 8 (x.Bytes.length : Int)] ++ x.Bytes ++ List.replicate (233 - x.Bytes.length) 0#8 = bodyE x := by
    rw [BitVec.ofInt_natCast]; simp [bodyE]
  have hbl := body_len hl
  rw [e3, seal_eq (by omega)]
  simp only [Option.bind_some]
  rw [octWord_eq _ _ (by rw [cseal_len]; omega)]
  rfl
theorem refPut_eq5 (x : api_Leaf) : (lkE x = 0 → butteryref05_Put x = some (pgE x, 0)) ∧ (lkE x ≠ 0 → butteryref05_Put x = some ([], lkE x)) := by
  unfold butteryref05_Put
  simp only [refCheck_eq5, Option.bind_some, lt_eq]
  refine ⟨fun h => ?_, fun h => by rw [if_pos (by simpa using h)]⟩
  have hl := (lk_ok h).2.2.2.2
  rw [if_neg (by simp [h]), refWord_eq _ _ (by simp)]
  simp only [Option.bind_some, List.nil_append]
  have e1 : BitVec.ofInt 8 (quo64 (x.Bytes.length : Int) 256) = 0#8 := by
    have : quo64 (x.Bytes.length : Int) 256 = 0 := by
      rw [quo64, Int.tdiv_eq_ediv_of_nonneg (by omega), w64_eq (by omega) (by omega)]; omega
    rw [this]; rfl
  have e2 : BitVec.ofInt 8 ((x.Bytes.length : Int).tmod 256) = BitVec.ofNat 8 x.Bytes.length := by
    rw [Int.tmod_eq_emod_of_nonneg (by omega), Int.emod_eq_of_lt (by omega) (by omega), BitVec.ofInt_natCast]
  have hw := wd_len (BitVec.ofInt 64 x.Stamp) 8
  rw [e1, e2, app_eq (by simp [hw])]
  simp only [Option.bind_some]
  rw [app_eq (by simp [hw]; omega)]
  simp only [Option.bind_some]
  have k := loopO_up (body := fun s => butteryref05_Put_b0 x s) (fun i : Nat => wd (BitVec.ofInt 64 x.Stamp) 8 ++ [BitVec.ofInt 8 x.Kind, 0#8, BitVec.ofNat 8 x.Bytes.length] ++ x.Bytes ++ List.replicate i 0#8) (233 - x.Bytes.length) (x := bodyE x) (fun i hi => by
    simp only [butteryref05_Put_b0, lt_eq]
    rw [if_pos (decide_eq_true (by simp [hw]; omega)), app_eq (by simp [hw]; omega)]
    simp only [Option.bind_some]
    rw [List.append_assoc, ← List.replicate_succ']) (by
    simp only [butteryref05_Put_b0, lt_eq]
    rw [if_neg (by rw [decide_eq_false (by simp [hw]; omega)]; simp)]
    simp [bodyE])
  have k' : butteryref05_Put_l0 x (wd (BitVec.ofInt 64 x.Stamp) 8 ++ [BitVec.ofInt 8 x.Kind, 0#8, BitVec.ofNat 8 x.Bytes.length] ++ x.Bytes) = some (bodyE x) := by
    unfold butteryref05_Put_l0
    simpa using k
  have hbl := body_len hl
  rw [k']
  simp only [Option.bind_some]
  rw [rcSeal_eq (by omega)]
  simp only [Option.bind_some]
  rw [refWord_eq _ _ (by rw [cseal_len]; omega)]
  rfl
end Go.Proofs.YtgfedohhkbmobaaDoor
namespace Go.Proofs.YtgfedohhkbmobaaDoor
open Go Go.Va
set_option linter.unusedVariables false
set_option linter.unusedSimpArgs false
def zeroL : api_Leaf := ⟨0, 0, []⟩
def szB (b : List (BitVec 8)) : Nat := (b.getD 9 0#8).toNat * 256 + (b.getD 10 0#8).toNat
def inE (b : List (BitVec 8)) (n : Nat) : api_Leaf := ⟨fitN (word (ahead b)), ((b.getD 8 0#8).toNat : Int), (b.take (11 + n)).drop 11⟩
def restE (b : List (BitVec 8)) (n : Nat) : List (BitVec 8) := (b.take 244).drop (11 + n)
def noughts (l : List (BitVec 8)) : Bool := l.all (· == 0#8)
def gtE (b : List (BitVec 8)) : api_Leaf × Int :=
  if b.length ≠ 256 then (zeroL, 6) else if word (ahead b) ≠ word (behind b) then (zeroL, 8) else if fitN (word (ahead b)) = 0 then (zeroL, 9) else if cfits (b.take 248) = false then (zeroL, 7)
  else if 233 < szB b then (zeroL, 5) else if lkE (inE b (szB b)) ≠ 0 then (zeroL, lkE (inE b (szB b))) else if noughts (restE b (szB b)) = false then (zeroL, 5) else (inE b (szB b), 0)
theorem or_shl (a c : BitVec 8) : or64 (shl64 (a.toNat : Int) 8) (c.toNat : Int) = ((a.toNat * 256 + c.toNat : Nat) : Int) := by
  have ha := a.isLt
  have hc := c.isLt
  have e1 : shl64 (a.toNat : Int) 8 = ((a.toNat * 256 : Nat) : Int) := by
    show w64 _ = _
    rw [w64_eq (by simp [Int.shiftLeft_eq]; omega) (by simp [Int.shiftLeft_eq]; omega)]
    simp [Int.shiftLeft_eq]
  rw [e1]
  have e2 : (a.toNat * 256) ||| c.toNat = a.toNat * 256 + c.toNat := by
    have := Nat.two_pow_add_eq_or_of_lt (i := 8) hc a.toNat
    rw [show (2 : Nat) ^ 8 = 256 from rfl, Nat.mul_comm] at this
    exact this.symm
  have e3 : (BitVec.ofInt 64 ((a.toNat * 256 : Nat) : Int) ||| BitVec.ofInt 64 (c.toNat : Int)).toNat = a.toNat * 256 + c.toNat := by
    rw [BitVec.toNat_or, BitVec.ofInt_natCast, BitVec.ofInt_natCast, BitVec.toNat_ofNat, BitVec.toNat_ofNat, Nat.mod_eq_of_lt (by omega), Nat.mod_eq_of_lt (by omega), e2]
  show IntKind.i64.wrap _ = _
  show w64 ((BitVec.ofInt 64 ((a.toNat * 256 : Nat) : Int) ||| BitVec.ofInt 64 (c.toNat : Int)).toNat : Int) = _
  rw [e3, w64_eq (by omega) (by omega)]
theorem noughts_cons (c : BitVec 8) (l : List (BitVec 8)) : noughts (c :: l) = (c == 0#8 && noughts l) := rfl
theorem gt_len {b : List (BitVec 8)} (hl : b.length ≠ 256) : gtE b = (zeroL, 6) := if_pos hl
theorem gt_torn {b : List (BitVec 8)} (hl : b.length = 256) (h1 : word (ahead b) ≠ word (behind b)) : gtE b = (zeroL, 8) := by
  unfold gtE
  rw [if_neg (show ¬ b.length ≠ 256 by simpa using hl), if_pos h1]
theorem gt_none {b : List (BitVec 8)} (hl : b.length = 256) (h1 : word (ahead b) = word (behind b)) (h2 : fitN (word (ahead b)) = 0) : gtE b = (zeroL, 9) := by
  unfold gtE
  rw [if_neg (show ¬ b.length ≠ 256 by simpa using hl), if_neg (show ¬ word (ahead b) ≠ word (behind b) by simpa using h1), if_pos h2]
theorem gt_go {b : List (BitVec 8)} (hl : b.length = 256) (h1 : word (ahead b) = word (behind b)) (h2 : fitN (word (ahead b)) ≠ 0) : gtE b = if cfits (b.take 248) = false then (zeroL, 7)
  else if 233 < szB b then (zeroL, 5) else if lkE (inE b (szB b)) ≠ 0 then (zeroL, lkE (inE b (szB b))) else if noughts (restE b (szB b)) = false then (zeroL, 5) else (inE b (szB b), 0) := by
  unfold gtE
  rw [if_neg (show ¬ b.length ≠ 256 by simpa using hl), if_neg (show ¬ word (ahead b) ≠ word (behind b) by simpa using h1), if_neg h2]
theorem zeros_l (p : Int × Int) (x : api_Leaf) {l : List (BitVec 8)} (hl : l.length ≤ 1000) : ∀ (k i : Nat), k + i = l.length → leaf_Get_l0 p x l (l.length : Int) (i : Int) = some (if noughts (l.drop i) = true then .inl () else .inr (zeroL, .fault [112#8, 97#8, 103#8, 101#8] p.1 5 .nil))
  | 0, i, h => by
    rw [List.drop_of_length_le (by omega), if_pos (show noughts [] = true from rfl)]
    refine loopO_out (body := fun s => leaf_Get_b0 p x l (l.length : Int) s) ?_
    simp only [leaf_Get_b0, lt_eq]
    rw [if_neg (by rw [decide_eq_false (by omega)]; simp)]
  | k + 1, i, h => by
    have hi : i < l.length := by omega
    rw [List.drop_eq_getElem_cons hi]
    by_cases hc : l[i] = 0#8
    · have e1 : leaf_Get_l0 p x l (l.length : Int) (i : Int) = leaf_Get_l0 p x l (l.length : Int) ((i + 1 : Nat) : Int) := by
        refine loopO_in (body := fun s => leaf_Get_b0 p x l (l.length : Int) s) ?_
        simp only [leaf_Get_b0, lt_eq]
        rw [if_pos (decide_eq_true (by omega)), ix_nat hi]
        simp only [Option.bind_some]
        rw [if_neg (by simp [hc]), w64_nat (by omega)]
      rw [e1, zeros_l p x hl k (i + 1) (by omega)]
      rw [noughts_cons]; simp [hc]
    · rw [noughts_cons, if_neg (by simp [hc])]
      refine loopO_out (body := fun s => leaf_Get_b0 p x l (l.length : Int) s) ?_
      simp only [leaf_Get_b0, lt_eq]
      rw [if_pos (decide_eq_true (by omega)), ix_nat hi]
      simp only [Option.bind_some]
      rw [if_pos (by simpa using hc), new_eq _ _ _ (by decide)]
      rfl
theorem refZeros_l (m s : Int) (y : List (BitVec 8)) {b : List (BitVec 8)} (hb : b.length = 256) : ∀ (k i : Nat), k + i = 244 → butteryref05_Get_l0 b m s y (i : Int) = some (if noughts ((b.take 244).drop i) = true then .inl () else .inr (zeroL, 5))
  | 0, i, h => by
    rw [List.drop_of_length_le (by rw [List.length_take]; omega), if_pos (show noughts [] = true from rfl)]
    refine loopO_out (body := fun t => butteryref05_Get_b0 b m s y t) ?_
    simp only [butteryref05_Get_b0, lt_eq]
    rw [if_neg (by rw [decide_eq_false (by omega)]; simp)]
  | k + 1, i, h => by
    have hi : i < (b.take 244).length := by rw [List.length_take]; omega
    have hi2 : i < b.length := by omega
    rw [List.drop_eq_getElem_cons hi, List.getElem_take]
    by_cases hc : b[i] = 0#8
    · have e1 : butteryref05_Get_l0 b m s y (i : Int) = butteryref05_Get_l0 b m s y ((i + 1 : Nat) : Int) := by
        refine loopO_in (body := fun t => butteryref05_Get_b0 b m s y t) ?_
        simp only [butteryref05_Get_b0, lt_eq]
        rw [if_pos (decide_eq_true (by omega)), ix_nat hi2]
        simp only [Option.bind_some]
        rw [if_neg (by simp [hc]), w64_nat (by omega)]
      rw [e1, refZeros_l m s y hb k (i + 1) (by omega)]
      rw [noughts_cons]; simp [hc]
    · rw [noughts_cons, if_neg (by simp [hc])]
      refine loopO_out (body := fun t => butteryref05_Get_b0 b m s y t) ?_
      simp only [butteryref05_Get_b0, lt_eq]
      rw [if_pos (decide_eq_true (by omega)), ix_nat hi2]
      simp only [Option.bind_some]
      rw [if_pos (by simpa using hc)]
      rfl
theorem getD_at {b : List (BitVec 8)} {i : Nat} (h : i < b.length) : b.getD i 0#8 = b[i] := by
  rw [List.getD_eq_getElem?_getD, List.getElem?_eq_getElem h]; rfl
theorem get_eq5 {b : List (BitVec 8)} (hb : b.length ≤ 1000000) : ∃ e, leaf_Get b = some ((gtE b).1, e) ∧ codeOf e = (gtE b).2 ∧ e.isNil = decide ((gtE b).2 = 0) := by
  unfold leaf_Get
  simp only [lt_eq]
  by_cases hl : b.length = 256
  · rw [if_neg (by simp [hl]), stamps_eq]
    have hst : stE b = (fitN (word (ahead b)), fitN (word (behind b))) := by unfold stE; rw [if_pos hl]
    have hbe : (behind b).length = 8 := by simp [behind, hl]
    rw [show (9 : Int) = ((9 : Nat) : Int) from rfl, show (10 : Int) = ((10 : Nat) : Int) from rfl, show (8 : Int) = ((8 : Nat) : Int) from rfl, show (248 : Int) = ((248 : Nat) : Int) from rfl, ix_nat (show 9 < b.length by omega), ix_nat (show 10 < b.length by omega), ix_nat (show 8 < b.length by omega), leafWord_eq (show 8 ≤ b.length by omega), cutFrom_eq (by omega), cutTo_eq (by omega)]
    simp only [Option.bind_some, hst]
    have hw2 : leaf_word (b.drop 248) = some (word (behind b)) := by
      rw [leafWord_eq (by simp [hl]), List.take_of_length_le (by simp [hl])]; rfl
    have hn : or64 (shl64 (b[9].toNat : Int) ((8 : Nat) : Int).toNat) (b[10].toNat : Int) = (szB b : Int) := by
      have := or_shl b[9] b[10]
      unfold szB
      rw [getD_at (show 9 < b.length by omega), getD_at (show 10 < b.length by omega)]
      exact this
    have hn' : or64 (shl64 (b[9].toNat : Int) 8) (b[10].toNat : Int) = (szB b : Int) := hn
    simp only [hw2, hn', Option.bind_some]
    have ha : b.take 8 = ahead b := rfl
    rw [ha]
    by_cases h1 : word (ahead b) = word (behind b)
    · rw [if_neg (by simp [h1])]
      by_cases h2 : fitN (word (ahead b)) = 0
      · rw [gt_none hl h1 h2, h2, new_eq _ _ _ (by decide)]
        exact ⟨_, rfl, rfl, rfl⟩
      · rw [gt_go hl h1 h2, ← h1]
        have h2' : (fitN (word (ahead b)) == 0) = false := by simpa using h2
        simp only [h2', Option.bind_some, Bool.false_eq_true, if_false]
        rw [fits_eq (by rw [List.length_take]; omega)]
        simp only [Option.bind_some]
        cases h3 : cfits (b.take 248) with
        | false =>
          simp only [Bool.not_false, if_true]
          rw [new_eq _ _ _ (by decide)]
          exact ⟨_, rfl, rfl, rfl⟩
        | true =>
          simp only [Bool.not_true, Bool.false_eq_true, if_false, reduceCtorEq]
          by_cases h4 : 233 < szB b
          · have h4' : decide ((szB b : Int) > 233) = true := decide_eq_true (by omega)
            simp only [h4', if_pos h4, if_true]
            rw [new_eq _ _ _ (by decide)]
            exact ⟨_, rfl, rfl, rfl⟩
          · have h4' : decide ((szB b : Int) > 233) = false := decide_eq_false (by omega)
            simp only [h4', if_neg h4, Bool.false_eq_true, if_false]
            have hw : w64 (11 + (szB b : Int)) = ((11 + szB b : Nat) : Int) := by rw [w64_eq (by omega) (by omega)]; omega
            have hc1 : cutO b 11 ((11 + szB b : Nat) : Int) = some ((b.take (11 + szB b)).drop 11) := by
              unfold cutO; rw [if_pos (by omega)]; rfl
            have hc2 : cutO b ((11 + szB b : Nat) : Int) 244 = some (restE b (szB b)) := by
              unfold cutO; rw [if_pos (by omega)]; rfl
            simp only [hw, hc1, hc2, Option.bind_some]
            rw [app_eq (by simp; omega)]
            simp only [Option.bind_some, List.nil_append]
            have hx : (⟨fitN (word (ahead b)), (b[8].toNat : Int), (b.take (11 + szB b)).drop 11⟩ : api_Leaf) = inE b (szB b) := by
              unfold inE; rw [getD_at (show 8 < b.length by omega)]
            rw [hx]
            obtain ⟨e, c1, c2, c3⟩ := check_eq5 (inE b (szB b))
            simp only [c1, Option.bind_some, c3]
            by_cases h5 : lkE (inE b (szB b)) = 0
            · have h5' : (!decide (lkE (inE b (szB b)) = 0)) = false := by simp [h5]
              simp only [h5, decide_true, Bool.not_true, Bool.false_eq_true, if_false, ne_eq, not_true_eq_false]
              have hz := zeros_l (fitN (word (ahead b)), fitN (word (ahead b))) (inE b (szB b)) (l := restE b (szB b)) (by simp [restE]; omega) (restE b (szB b)).length 0 rfl
              rw [List.drop_zero, show ((0 : Nat) : Int) = 0 from rfl] at hz
              rw [hz]
              simp only [Option.bind_some]
              cases h6 : noughts (restE b (szB b)) with
              | true => exact ⟨_, rfl, rfl, rfl⟩
              | false => exact ⟨_, rfl, rfl, rfl⟩
            · have h5' : (!decide (lkE (inE b (szB b)) = 0)) = true := by simp [h5]
              simp only [h5', if_true, if_pos (show lkE (inE b (szB b)) ≠ 0 from h5)]
              rw [wrap_eq _ _ _ (by rw [c3]; simpa using h5)]
              refine ⟨_, rfl, ?_, ?_⟩
              · simp only [codeOf, c2, if_true]
              · simp [Err.isNil, h5]
    · rw [if_pos (by simpa using h1), gt_torn hl h1, new_eq _ _ _ (by decide)]
      exact ⟨_, rfl, rfl, rfl⟩
  · rw [if_pos (by simp; omega), gt_len hl, new_eq _ _ _ (by decide)]
    exact ⟨_, rfl, rfl, rfl⟩
theorem refGet_eq5 {b : List (BitVec 8)} (hb : b.length ≤ 1000000) : butteryref05_Get b = some (gtE b) := by
  unfold butteryref05_Get
  simp only [lt_eq]
  by_cases hl : b.length = 256
  · rw [if_neg (by simp [hl])]
    have hah : (ahead b).length = 8 := by simp [ahead, hl]
    have hbe : (behind b).length = 8 := by simp [behind, hl]
    rw [show (9 : Int) = ((9 : Nat) : Int) from rfl, show (10 : Int) = ((10 : Nat) : Int) from rfl, show (8 : Int) = ((8 : Nat) : Int) from rfl, show (248 : Int) = ((248 : Nat) : Int) from rfl, ix_nat (show 9 < b.length by omega), ix_nat (show 10 < b.length by omega), ix_nat (show 8 < b.length by omega), cutFrom_eq (by omega), cutTo_eq (show 248 ≤ b.length by omega), cutTo_eq (show 8 ≤ b.length by omega)]
    have ha : b.take 8 = ahead b := rfl
    have hbb : b.drop 248 = behind b := rfl
    simp only [Option.bind_some, ha, hbb, same_eq (ahead b) (behind b) (by omega), stamp_eq hah]
    by_cases h1 : word (ahead b) = word (behind b)
    · have h0 := word_inj hah hbe h1
      rw [if_neg (by simp [h0])]
      by_cases h2 : fitN (word (ahead b)) = 0
      · rw [gt_none hl h1 h2, if_pos (by simp [h2])]
        rfl
      · rw [gt_go hl h1 h2, if_neg (by simpa using h2), rcFits_eq (by rw [List.length_take]; omega)]
        simp only [Option.bind_some]
        cases h3 : cfits (b.take 248) with
        | false =>
          simp only [Bool.not_false, if_true]
          rfl
        | true =>
          simp only [Bool.not_true, Bool.false_eq_true, if_false, reduceCtorEq]
          have h9 := b[9].isLt
          have h10 := b[10].isLt
          have hn : w64 (w64 ((b[9].toNat : Int) * 256) + (b[10].toNat : Int)) = (szB b : Int) := by
            unfold szB
            rw [getD_at (show 9 < b.length by omega), getD_at (show 10 < b.length by omega), w64_eq (n := (b[9].toNat : Int) * 256) (by omega) (by omega), w64_eq (by omega) (by omega)]
            omega
          rw [hn]
          by_cases h4 : 233 < szB b
          · have h4' : decide ((szB b : Int) > 233) = true := decide_eq_true (by omega)
            simp only [h4', if_pos h4, if_true]
            rfl
          · have h4' : decide ((szB b : Int) > 233) = false := decide_eq_false (by omega)
            simp only [h4', if_neg h4, Bool.false_eq_true, if_false]
            have hw : w64 (11 + (szB b : Int)) = ((11 + szB b : Nat) : Int) := by rw [w64_eq (by omega) (by omega)]; omega
            have hc1 : cutO b 11 ((11 + szB b : Nat) : Int) = some ((b.take (11 + szB b)).drop 11) := by
              unfold cutO; rw [if_pos (by omega)]; rfl
            simp only [hw, hc1, Option.bind_some]
            rw [app_eq (by simp; omega)]
            simp only [Option.bind_some, List.nil_append]
            have hx : (⟨fitN (word (ahead b)), (b[8].toNat : Int), (b.take (11 + szB b)).drop 11⟩ : api_Leaf) = inE b (szB b) := by
              unfold inE; rw [getD_at (show 8 < b.length by omega)]
            rw [hx]
            simp only [refCheck_eq5, Option.bind_some]
            by_cases h5 : lkE (inE b (szB b)) = 0
            · simp only [h5, bne_self_eq_false, Bool.false_eq_true, if_false, ne_eq, not_true_eq_false]
              rw [refZeros_l _ _ _ hl (244 - (11 + szB b)) (11 + szB b) (by omega)]
              simp only [Option.bind_some]
              have hr : (b.take 244).drop (11 + szB b) = restE b (szB b) := rfl
              rw [hr]
              cases h6 : noughts (restE b (szB b)) with
              | true => rfl
              | false => rfl
            · rw [if_pos (by simpa using h5)]
              simp only [if_pos (show lkE (inE b (szB b)) ≠ 0 from h5)]
              rfl
    · have h0 : ahead b ≠ behind b := fun h => h1 (by rw [h])
      rw [if_pos (by simp [h0]), gt_torn hl h1]
      rfl
  · rw [if_pos (by simp; omega), gt_len hl]
    rfl
theorem same_eq5 (x y : api_Leaf) (hx : x.Bytes.length < 9223372036854775807) : butteryref05_Same x y = some (decide (x = y)) := by
  obtain ⟨a, b, c⟩ := x
  obtain ⟨a', b', c'⟩ := y
  unfold butteryref05_Same
  simp only [lt_eq]
  by_cases h1 : a = a'
  · subst h1
    by_cases h2 : b = b'
    · subst h2
      simp only [beq_self_eq_true, if_true, same_eq c c' hx, Option.bind_some]
      simp
    · simp [h2]
  · simp [h1]
theorem lsame_eq5 (x y : api_Leaf) : leaf_Same x y = some (decide (x = y)) := by
  obtain ⟨a, b, c⟩ := x
  obtain ⟨a', b', c'⟩ := y
  unfold leaf_Same
  simp only [lt_eq]
  by_cases h1 : a = a'
  · subst h1
    by_cases h2 : b = b'
    · subst h2
      by_cases h3 : c = c'
      · subst h3; simp
      · simp [h3]
    · simp [h2]
  · simp [h1]
end Go.Proofs.YtgfedohhkbmobaaDoor
namespace Go.Proofs.YtgfedohhkbmobaaDoor
open Go Go.Va
set_option linter.unusedVariables false
set_option linter.unusedSimpArgs false
theorem gt_spec {b : List (BitVec 8)} (h : (gtE b).2 = 0) : b.length = 256 ∧ word (ahead b) = word (behind b) ∧ fitN (word (ahead b)) ≠ 0 ∧ cfits (b.take 248) = true ∧ szB b ≤ 233 ∧ lkE (inE b (szB b)) = 0 ∧ noughts (restE b (szB b)) = true ∧ (gtE b).1 = inE b (szB b) := by
  by_cases hl : b.length = 256
  · by_cases h1 : word (ahead b) = word (behind b)
    · by_cases h2 : fitN (word (ahead b)) = 0
      · rw [gt_none hl h1 h2] at h; cases h
      · rw [gt_go hl h1 h2] at h ⊢
        cases h3 : cfits (b.take 248) with
        | false => rw [h3] at h; cases h
        | true =>
          simp only [h3, reduceCtorEq, if_false] at h ⊢
          by_cases h4 : 233 < szB b
          · rw [if_pos h4] at h; cases h
          · rw [if_neg h4] at h ⊢
            by_cases h5 : lkE (inE b (szB b)) = 0
            · simp only [h5, ne_eq, not_true_eq_false, if_false] at h ⊢
              cases h6 : noughts (restE b (szB b)) with
              | false => rw [h6] at h; cases h
              | true => exact ⟨hl, h1, h2, by first | trivial | rfl, by omega, by first | trivial | rfl | exact h5, by first | trivial | rfl, rfl⟩
            · rw [if_pos h5] at h; exact absurd h h5
    · rw [gt_torn hl h1] at h; cases h
  · rw [gt_len hl] at h; cases h
theorem gt_zero {b : List (BitVec 8)} (h : (gtE b).2 ≠ 0) : (gtE b).1 = zeroL := by
  by_cases hl : b.length = 256
  · by_cases h1 : word (ahead b) = word (behind b)
    · by_cases h2 : fitN (word (ahead b)) = 0
      · rw [gt_none hl h1 h2]
      · rw [gt_go hl h1 h2] at h ⊢
        split
        · rfl
        · split
          · rfl
          · split
            · rfl
            · split
              · rfl
              · rename_i h3 h4 h5 h6
                rw [if_neg h3, if_neg h4, if_neg h5, if_neg h6] at h
                exact absurd rfl h
    · rw [gt_torn hl h1]
  · rw [gt_len hl]
theorem gt_bytes {b : List (BitVec 8)} (hb : b.length ≤ 1000000) : (gtE b).1.Bytes.length < 9223372036854775807 := by
  by_cases h : (gtE b).2 = 0
  · rw [(gt_spec h).2.2.2.2.2.2.2]
    simp only [inE, List.length_drop, List.length_take]; omega
  · rw [gt_zero h]; simp [zeroL]
theorem noughts_rep (k : Nat) : noughts (List.replicate k 0#8) = true := by
  induction k with
  | zero => rfl
  | succ k ih => rw [List.replicate_succ, noughts_cons, ih]; rfl
theorem rep_noughts : ∀ {l : List (BitVec 8)}, noughts l = true → l = List.replicate l.length 0#8
  | [], _ => rfl
  | c :: l, h => by
    rw [noughts_cons, Bool.and_eq_true] at h
    rw [List.length_cons, List.replicate_succ, ← rep_noughts h.2, eq_of_beq h.1]
theorem pg_ahead {x : api_Leaf} : ahead (pgE x) = wd (BitVec.ofInt 64 x.Stamp) 8 := by
  simp only [ahead, pgE, cseal, bodyE, List.append_assoc]
  rw [List.take_left' (wd_len _ _)]
theorem pg_behind {x : api_Leaf} (h : x.Bytes.length ≤ 233) : behind (pgE x) = wd (BitVec.ofInt 64 x.Stamp) 8 := by
  simp only [behind, pgE]
  rw [List.drop_left' (by rw [cseal_len, body_len h])]
theorem pg_248 {x : api_Leaf} (h : x.Bytes.length ≤ 233) : (pgE x).take 248 = cseal (bodyE x) := by
  simp only [pgE]
  rw [List.take_left' (by rw [cseal_len, body_len h])]
theorem pg_244 {x : api_Leaf} (h : x.Bytes.length ≤ 233) : (pgE x).take 244 = bodyE x := by
  simp only [pgE, cseal, List.append_assoc]
  rw [List.take_left' (body_len h)]
theorem pg_head (x : api_Leaf) : ∃ r, pgE x = wd (BitVec.ofInt 64 x.Stamp) 8 ++ (BitVec.ofInt 8 x.Kind :: 0#8 :: BitVec.ofNat 8 x.Bytes.length :: (x.Bytes ++ r)) := by
  refine ⟨List.replicate (233 - x.Bytes.length) 0#8 ++ (cfour (csum (bodyE x)) ++ wd (BitVec.ofInt 64 x.Stamp) 8), ?_⟩
  simp only [pgE, cseal]
  conv => lhs; unfold bodyE
  simp [bodyE]
theorem gt_pg {x : api_Leaf} (hx : lkE x = 0) : gtE (pgE x) = (x, 0) := by
  obtain ⟨h1, h2, h3, h4, h5⟩ := lk_ok hx
  have hl := pg_len h5
  have hf : fitN (word (ahead (pgE x))) = x.Stamp := by rw [pg_ahead, word_full, fitN_of h1 h2]
  obtain ⟨r, hr⟩ := pg_head x
  have hw := wd_len (BitVec.ofInt 64 x.Stamp) 8
  have hk : (BitVec.ofInt 8 x.Kind).toNat = x.Kind.toNat := by
    obtain ⟨k, hk⟩ : ∃ k : Nat, x.Kind = k := ⟨x.Kind.toNat, by omega⟩
    rw [hk, BitVec.ofInt_natCast, BitVec.toNat_ofNat, Int.toNat_natCast, Nat.mod_eq_of_lt (by omega)]
  have g8 : (pgE x).getD 8 0#8 = BitVec.ofInt 8 x.Kind := by
    rw [hr, List.getD_eq_getElem?_getD, List.getElem?_append_right (by omega), hw]; rfl
  have g9 : (pgE x).getD 9 0#8 = 0#8 := by
    rw [hr, List.getD_eq_getElem?_getD, List.getElem?_append_right (by omega), hw]; rfl
  have g10 : (pgE x).getD 10 0#8 = BitVec.ofNat 8 x.Bytes.length := by
    rw [hr, List.getD_eq_getElem?_getD, List.getElem?_append_right (by omega), hw]; rfl
  have hs : szB (pgE x) = x.Bytes.length := by
    unfold szB
    rw [g9, g10, BitVec.toNat_ofNat, BitVec.toNat_ofNat]
    omega
  have hi : inE (pgE x) x.Bytes.length = x := by
    unfold inE
    rw [hf, g8, hk]
    have e : ((pgE x).take (11 + x.Bytes.length)).drop 11 = x.Bytes := by
      have e2 : pgE x = (wd (BitVec.ofInt 64 x.Stamp) 8 ++ [BitVec.ofInt 8 x.Kind, 0#8, BitVec.ofNat 8 x.Bytes.length]) ++ (x.Bytes ++ r) := by rw [hr]; simp
      have hl2 : (wd (BitVec.ofInt 64 x.Stamp) 8 ++ [BitVec.ofInt 8 x.Kind, 0#8, BitVec.ofNat 8 x.Bytes.length]).length = 11 := by simp [hw]
      rw [List.drop_take, e2, List.drop_left' hl2, show 11 + x.Bytes.length - 11 = x.Bytes.length by omega, List.take_left]
    rw [e]
    obtain ⟨s, k, b⟩ := x
    simp only at h3 ⊢
    rw [Int.toNat_of_nonneg (by omega)]
  have hz : noughts (restE (pgE x) x.Bytes.length) = true := by
    unfold restE
    rw [pg_244 h5]
    have e : bodyE x = (wd (BitVec.ofInt 64 x.Stamp) 8 ++ ([BitVec.ofInt 8 x.Kind, 0#8, BitVec.ofNat 8 x.Bytes.length] ++ x.Bytes)) ++ List.replicate (233 - x.Bytes.length) 0#8 := by simp [bodyE]
    rw [e, List.drop_left' (by simp [hw]; omega)]
    exact noughts_rep _
  rw [gt_go hl (by rw [pg_ahead, pg_behind h5]) (by rw [hf]; omega), pg_248 h5, cseal_fits, hs, hi, hz]
  simp only [reduceCtorEq, if_false, hx, ne_eq, not_true_eq_false]
  rw [if_neg (by omega)]
theorem cut4 (b : List (BitVec 8)) (hl : b.length = 256) (h : cfits (b.take 248) = true) : b = cseal (b.take 244) ++ behind b := by
  unfold cfits at h
  simp only [Bool.and_eq_true, decide_eq_true_eq] at h
  have e1 : (b.take 248).length - 4 = 244 := by rw [List.length_take]; omega
  have e2 := h.2
  rw [e1, List.take_take, show min 244 248 = 244 by omega] at e2
  unfold cseal
  rw [e2]
  have e3 : b.take 244 ++ (b.take 248).drop 244 = b.take 248 := by
    have := List.take_append_drop 244 (b.take 248)
    rwa [List.take_take, show min 244 248 = 244 by omega] at this
  rw [e3]
  exact (List.take_append_drop 248 b).symm
/-- Bytes that are read are the page of what they hold. -/
theorem pg_gt {b : List (BitVec 8)} (h : (gtE b).2 = 0) : lkE (gtE b).1 = 0 ∧ pgE (gtE b).1 = b := by
  obtain ⟨hl, h1, h2, h3, h4, h5, h6, h7⟩ := gt_spec h
  rw [h7]
  refine ⟨h5, ?_⟩
  have hah : (ahead b).length = 8 := by simp [ahead, hl]
  have hbe : (behind b).length = 8 := by simp [behind, hl]
  have hab := word_inj hah hbe h1
  obtain ⟨f1, f2, f3⟩ := fitN_zero h2
  have hw : wd (BitVec.ofInt 64 (fitN (word (ahead b)))) 8 = ahead b := by rw [← f1, wd_word hah]
  generalize hn : szB b = n at *
  have hlen : ((b.take (11 + n)).drop 11).length = n := by rw [List.length_drop, List.length_take]; omega
  have h9 : b.getD 9 0#8 = 0#8 := by
    apply BitVec.eq_of_toNat_eq
    unfold szB at hn
    show _ = 0
    omega
  have h10 : (b.getD 10 0#8).toNat = n := by
    unfold szB at hn
    rw [h9] at hn
    have : (0#8 : BitVec 8).toNat = 0 := rfl
    omega
  have hr : restE b n = List.replicate (233 - n) 0#8 := by
    have e := rep_noughts h6
    have e2 : (restE b n).length = 233 - n := by simp only [restE, List.length_drop, List.length_take]; omega
    rw [e2] at e
    exact e
  have hbody : bodyE (inE b n) = b.take 244 := by
    unfold bodyE inE
    simp only [hw, hlen]
    have e8 : BitVec.ofInt 8 ((b.getD 8 0#8).toNat : Int) = b.getD 8 0#8 := by
      rw [BitVec.ofInt_natCast]
      apply BitVec.eq_of_toNat_eq
      rw [BitVec.toNat_ofNat, Nat.mod_eq_of_lt (b.getD 8 0#8).isLt]
    have e10 : BitVec.ofNat 8 n = b.getD 10 0#8 := by
      apply BitVec.eq_of_toNat_eq
      rw [BitVec.toNat_ofNat, ← h10, Nat.mod_eq_of_lt (b.getD 10 0#8).isLt]
    rw [e8, e10, ← hr]
    have e3 : ([b.getD 8 0#8, 0#8, b.getD 10 0#8] : List (BitVec 8)) = (b.take 11).drop 8 := by
      have h9' : b[9] = 0#8 := by rw [← getD_at (show 9 < b.length by omega), h9]
      have e4 : ([b.getD 8 0#8, 0#8, b.getD 10 0#8] : List (BitVec 8)) = [b[8], b[9], b[10]] := by
        rw [getD_at (show 8 < b.length by omega), getD_at (show 10 < b.length by omega), h9']
      rw [e4]
      apply List.ext_getElem?
      intro i
      rw [List.getElem?_drop, List.getElem?_take]
      match i with
      | 0 => simp
      | 1 => simp
      | 2 => simp
      | i + 3 => simp; omega
    rw [e3]
    unfold restE ahead
    have t1 : b.take 8 ++ (b.take 11).drop 8 = b.take 11 := by
      have := List.take_append_drop 8 (b.take 11)
      rwa [List.take_take, show min 8 11 = 8 by omega] at this
    have t2 : b.take 11 ++ (b.take (11 + n)).drop 11 = b.take (11 + n) := by
      have := List.take_append_drop 11 (b.take (11 + n))
      rwa [List.take_take, show min 11 (11 + n) = 11 by omega] at this
    have t3 : b.take (11 + n) ++ (b.take 244).drop (11 + n) = b.take 244 := by
      have := List.take_append_drop (11 + n) (b.take 244)
      rwa [List.take_take, show min (11 + n) 244 = 11 + n by omega] at this
    rw [← List.append_assoc, t1, ← List.append_assoc, t2, t3]
  unfold pgE
  rw [hbody, show (inE b n).Stamp = fitN (word (ahead b)) from rfl, hw, hab]
  exact (cut4 b hl h3).symm
theorem works05 : butterylaw05_works = some true := by
  have hx : lkE ⟨9, 3, [97#8, 98#8, 99#8]⟩ = 0 := by decide
  have hV : leaf_PutV ⟨9, 3, [97#8, 98#8, 99#8]⟩ = some (pgE ⟨9, 3, [97#8, 98#8, 99#8]⟩, .nil) := (put_eq5 ⟨9, 3, [97#8, 98#8, 99#8]⟩).1 hx
  have hl : (pgE ⟨9, 3, [97#8, 98#8, 99#8]⟩).length = 256 := pg_len (by decide)
  have hP : ∀ b : List (BitVec 8), leaf_GetP b = leaf_Get b := fun _ => rfl
  obtain ⟨e1, g1, g2, g3⟩ := get_eq5 (b := pgE ⟨9, 3, [97#8, 98#8, 99#8]⟩) (by omega)
  rw [gt_pg hx] at g1 g2 g3
  have hbad : lkE ⟨1, 6, []⟩ = 12 := by decide
  obtain ⟨e2, p1, p2, p3⟩ := (put_eq5 ⟨1, 6, []⟩).2 (by rw [hbad]; decide)
  rw [hbad] at p2
  have hE : lkErr ⟨9, 3, [97#8, 98#8, 99#8]⟩ = .nil := by simp [lkErr]
  have hA := pg_ahead (x := ⟨9, 3, [97#8, 98#8, 99#8]⟩)
  have hB := pg_behind (x := ⟨9, 3, [97#8, 98#8, 99#8]⟩) (by decide)
  have hst : stE (pgE ⟨9, 3, [97#8, 98#8, 99#8]⟩) = (9, 9) := by
    unfold stE
    rw [if_pos hl, hA, hB, word_full, fitN_of (by decide) (by decide)]
  unfold butterylaw05_works
  simp only [lt_eq, hV, Option.bind_some]
  generalize hp : pgE ⟨9, 3, [97#8, 98#8, 99#8]⟩ = p at *
  have hc : chk p.length 255 = some () := by unfold chk; rw [if_pos (by omega)]
  have hi : ixA p.length p 255 = some p[255] := ixA_nat (i := 255) (by omega) (by omega)
  have hu : ∀ v, updA p.length p 255 (fun _ => v) = some (p.set 255 v) := fun v => by unfold updA; rw [hi]; rfl
  rw [if_neg (by rw [hl]; decide)]
  simp only [hP, g1, p1, stamps_eq, hst, hc, hi, hu, Option.bind_some]
  have hq : ((p.set 255 (p[255] ^^^ 1#8)).length) = 256 := by rw [List.length_set, hl]
  have hne : word (ahead (p.set 255 (p[255] ^^^ 1#8))) ≠ word (behind (p.set 255 (p[255] ^^^ 1#8))) := by
    have ha : ahead (p.set 255 (p[255] ^^^ 1#8)) = ahead p := by
      unfold ahead
      rw [List.take_set_of_le (by omega)]
    intro h
    have h2 := word_inj (by simp [ahead, hq]) (by simp [behind, hq]) h
    rw [ha, hA, ← hB] at h2
    have h3 := congrArg (fun l : List (BitVec 8) => l[7]?) h2
    simp only [behind, List.getElem?_drop] at h3
    rw [List.getElem?_set_self (by omega), List.getElem?_eq_getElem (by omega)] at h3
    have h4 := Option.some.inj h3
    have h5 : ∀ c : BitVec 8, c ≠ c ^^^ 1#8 := by decide
    exact h5 _ h4
  obtain ⟨e3, q1, q2, q3⟩ := get_eq5 (b := p.set 255 (p[255] ^^^ 1#8)) (by omega)
  rw [gt_torn hq hne] at q1 q2 q3
  simp only [q1, Option.bind_some, g3, lsame_eq5, trouble_Of, p2, q2, leafCheck_eq, hE, decide_true, if_true, beq_self_eq_true]
  rfl
end Go.Proofs.YtgfedohhkbmobaaDoor
