/- Whatever a reader of any bytes is asked, one behind the other, is what the chapter says; behind the first thing that is wrong it reads nothing. (part 4 of 5) -/
import Derived.Test.YtjaaepnejihbkaaKOctetsReads3
namespace Go.Va
open Go
set_option linter.unusedVariables false
set_option linter.unusedSimpArgs false
theorem shr64_nat {n m : Nat} (h : m ≤ 64) : shr64 (n : Int) m = ((n / 2 ^ m : Nat) : Int) := by
  unfold shr64
  rw [Nat.min_eq_left h]
  have : (2 : Int) ^ m = ((2 ^ m : Nat) : Int) := by simp
  rw [this, Int.fdiv_eq_ediv_of_nonneg _ (Int.natCast_nonneg _), ← Int.natCast_ediv]
theorem quo64_nat {n m : Nat} (h : n < 9223372036854775808) : quo64 (n : Int) (m : Int) = ((n / m : Nat) : Int) := by
  unfold quo64
  have := Nat.div_le_self n m
  rw [Int.tdiv_eq_ediv_of_nonneg (Int.natCast_nonneg _), ← Int.natCast_ediv]
  generalize n / m = q at *
  exact w64_eq (by omega) (by omega)
theorem tmod_nat (n m : Nat) : Int.tmod (n : Int) (m : Int) = ((n % m : Nat) : Int) := by
  rw [Int.tmod_eq_emod_of_nonneg (Int.natCast_nonneg _)]; rfl
theorem or_low (a b : Nat) (h : b < 128) : a * 128 ||| b = a * 128 + b := by
  have := Nat.two_pow_add_eq_or_of_lt (i := 7) (b := b) (by omega) a
  rw [show 2 ^ 7 * a + b = a * 128 + b by omega, show 2 ^ 7 * a = a * 128 by omega] at this
  exact this.symm
theorem or64_nat {a b : Nat} (ha : a < 9223372036854775808) (hb : b < 9223372036854775808) : or64 (a : Int) (b : Int) = ((a ||| b : Nat) : Int) := by
  have h : a ||| b < 2 ^ 63 := Nat.or_lt_two_pow (by omega) (by omega)
  show w64 ((BitVec.ofInt 64 (a : Int) ||| BitVec.ofInt 64 (b : Int) : BitVec 64).toNat : Int) = _
  rw [BitVec.toNat_or, BitVec.toNat_ofInt, BitVec.toNat_ofInt]
  have e1 : ((a : Int) % ((2 ^ 64 : Nat) : Int)).toNat = a := by omega
  have e2 : ((b : Int) % ((2 ^ 64 : Nat) : Int)).toNat = b := by omega
  rw [e1, e2, w64_eq (by omega) (by omega)]
theorem shl64_7 {a : Nat} (ha : a < 72057594037927936) : shl64 (a : Int) 7 = ((a * 128 : Nat) : Int) := by
  unfold shl64
  rw [w64_eq] <;> simp <;> omega
theorem or64_7 {a b : Nat} (ha : a < 72057594037927936) (hb : b < 128) : or64 (shl64 (a : Int) 7) (b : Int) = ((a * 128 + b : Nat) : Int) := by
  rw [shl64_7 ha, or64_nat (by omega) (by omega), or_low a b hb]
theorem byte_and (x : BitVec 8) : (x &&& 127#8).toNat = x.toNat % 128 := by
  rw [BitVec.toNat_and, show (127#8).toNat = 2 ^ 7 - 1 from rfl, Nat.and_two_pow_sub_one_eq_mod]
theorem byte_or (x : BitVec 8) : x ||| 128#8 = BitVec.ofNat 8 (x.toNat % 128 + 128) := by
  have : ∀ y : Fin 256, (BitVec.ofFin y : BitVec 8) ||| 128#8 = BitVec.ofNat 8 ((BitVec.ofFin y : BitVec 8).toNat % 128 + 128) := by decide +kernel
  exact this x.toFin
theorem byte_and' (x : BitVec 8) : x &&& 127#8 = BitVec.ofNat 8 (x.toNat % 128) := by
  apply BitVec.eq_of_toNat_eq
  rw [byte_and]; simp
  have := x.isLt
  omega
theorem byte_int (n : Nat) : BitVec.ofInt 8 (n : Int) = BitVec.ofNat 8 n := by
  apply BitVec.eq_of_toNat_eq
  simp [BitVec.toNat_ofInt]
theorem byte_hi (n : Nat) : BitVec.ofInt 8 (n : Int) ||| 128#8 = BitVec.ofNat 8 (n % 128 + 128) := by
  rw [byte_int, byte_or]; congr 1; simp
theorem byte_lo (n : Nat) : BitVec.ofInt 8 (n : Int) &&& 127#8 = BitVec.ofNat 8 (n % 128) := by
  rw [byte_int, byte_and']; congr 1; simp
/-! ### seven bits a byte -/
/-- The bytes that go on. -/
def pre (m : Nat) : List (BitVec 8) := if m = 0 then [] else pre (m / 128) ++ [BitVec.ofNat 8 (m % 128 + 128)]
termination_by m
decreasing_by omega
def num7 (n : Nat) : List (BitVec 8) := pre (n / 128) ++ [BitVec.ofNat 8 (n % 128)]
theorem pre_zero : pre 0 = [] := by rw [pre]; rfl
theorem pre_pos {m : Nat} (h : 0 < m) : pre m = pre (m / 128) ++ [BitVec.ofNat 8 (m % 128 + 128)] := by
  rw [pre, if_neg (by omega)]
theorem pre_len : ∀ (k m : Nat), m < 128 ^ k → (pre m).length ≤ k
  | 0, m, h => by
    have : m = 0 := by simpa using h
    subst this; rw [pre_zero]; simp
  | k + 1, m, h => by
    by_cases h0 : m = 0
    · subst h0; rw [pre_zero]; simp
    · rw [pre_pos (by omega)]
      have := pre_len k (m / 128) (by rw [Nat.div_lt_iff_lt_mul (by decide)]; rw [Nat.pow_succ] at h; exact h)
      simp; exact this
theorem num7_len {n : Nat} (h : n < 9223372036854775808) : (num7 n).length ≤ 9 := by
  have := pre_len 8 (n / 128) (by omega)
  simp [num7]; omega
theorem num7_small {n : Nat} (h : n < 128) : num7 n = [BitVec.ofNat 8 n] := by
  rw [num7, show n / 128 = 0 by omega, pre_zero, Nat.mod_eq_of_lt h]; rfl
/-- The same from the highest one on. -/
def seq7 (n : Nat) : Nat → List (BitVec 8)
  | 0 => []
  | c + 1 => BitVec.ofNat 8 (n / 128 ^ (c + 1) % 128 + 128) :: seq7 n c
theorem seq7_snoc (n : Nat) : ∀ c, seq7 n (c + 1) = seq7 (n / 128) c ++ [BitVec.ofNat 8 (n / 128 % 128 + 128)]
  | 0 => by simp [seq7]
  | c + 1 => by
    rw [seq7, seq7_snoc n c, seq7]
    simp only [List.cons_append]
    rw [Nat.div_div_eq_div_mul, ← Nat.pow_succ']
theorem seq7_pre : ∀ (h n : Nat), n / 128 ^ h < 128 → (∀ j, j < h → 128 ≤ n / 128 ^ j) → seq7 n h = pre (n / 128)
  | 0, n, h1, h2 => by
    rw [show n / 128 = 0 by simp at h1; omega, pre_zero]; rfl
  | h + 1, n, h1, h2 => by
    have h0 := h2 0 (by omega)
    simp at h0
    rw [seq7_snoc, pre_pos (by omega), seq7_pre h (n / 128) (by rw [Nat.div_div_eq_div_mul, ← Nat.pow_succ']; exact h1) (fun j hj => by
      rw [Nat.div_div_eq_div_mul, ← Nat.pow_succ']; exact h2 (j + 1) (by omega))]
/-- How many bytes. -/
def nlen (n : Nat) : Nat := if n < 128 then 1 else nlen (n / 128) + 1
termination_by n
decreasing_by omega
theorem nlen_lt {n : Nat} (h : n < 128) : nlen n = 1 := by rw [nlen, if_pos h]
theorem nlen_ge {n : Nat} (h : 128 ≤ n) : nlen n = nlen (n / 128) + 1 := by rw [nlen, if_neg (by omega)]
/-! ### reading -/
def up7 : Int ⊕ (Nat × Nat) → Int ⊕ (Nat × Nat)
  | .inl e => .inl e
  | .inr (m, k) => .inr (m, k + 1)
/-- What a number is that begins here, and how many bytes it has; or what is wrong first. -/
def rd7 (most : Nat) : List (BitVec 8) → Bool → Nat → Int ⊕ (Nat × Nat)
  | [], _, _ => .inl 6
  | c :: l, f, n =>
    if c = 128#8 ∧ f = true then .inl 5 else if most / 128 < n then .inl 2 else
    if 128 ≤ c.toNat then up7 (rd7 most l false (n * 128 + c.toNat % 128))
    else if most < n * 128 + c.toNat then .inl 2 else .inr (n * 128 + c.toNat, 1)
theorem rd7_le {most : Nat} : ∀ {l : List (BitVec 8)} {f : Bool} {n m k : Nat}, rd7 most l f n = .inr (m, k) → m ≤ most ∧ 1 ≤ k ∧ k ≤ l.length
  | [], f, n, m, k, h => by simp [rd7] at h
  | c :: l, f, n, m, k, h => by
    simp only [rd7] at h
    split at h
    · cases h
    · split at h
      · cases h
      · split at h
        · cases hr : rd7 most l false (n * 128 + c.toNat % 128) with
          | inl e => rw [hr] at h; cases h
          | inr p =>
            obtain ⟨m', k'⟩ := p
            rw [hr] at h
            simp only [up7, Sum.inr.injEq, Prod.mk.injEq] at h
            obtain ⟨rfl, rfl⟩ := h
            have := rd7_le hr
            simp; omega
        · split at h
          · cases h
          · simp only [Sum.inr.injEq, Prod.mk.injEq] at h
            obtain ⟨rfl, rfl⟩ := h
            simp; omega
end Go.Va
namespace Go.Proofs.Ytjaaepnejihbkaa
open Go Go.Va
set_option linter.unusedVariables false
set_option linter.unusedSimpArgs false
set_option maxRecDepth 20000
noncomputable def butteryref02_num_b0  (c9 : List (BitVec 8)) (c10 : Int) : Option (((List (BitVec 8)) × Int) ⊕ ((List (BitVec 8)))) :=
  lt (decide (c10 > (0 : Int))) fun v22 =>
  if v22 = true then
    lt (Int.tmod c10 (128 : Int)) fun v25 =>
    lt (w64 (v25 + (128 : Int))) fun v27 =>
    lt (BitVec.ofInt 8 v27) fun v29 =>
    lt (([v29] : List (BitVec 8))) fun v31 =>
    (app 1 v31 c9).bind fun v33 =>
    lt (quo64 c10 (128 : Int)) fun v37 =>
    some (.inl (v33, v37))
  else
    some (.inr c9)
noncomputable def butteryref02_num_l0  (s : (List (BitVec 8)) × Int) : Option ((List (BitVec 8))) := loopO (fun s => butteryref02_num_b0 s.1 s.2) s
noncomputable def butteryref02_num (x0 : Int) : Option ((List (BitVec 8))) :=
  lt (Int.tmod x0 (128 : Int)) fun v2 =>
  lt (BitVec.ofInt 8 v2) fun v4 =>
  lt (([v4] : List (BitVec 8))) fun v6 =>
  lt (quo64 x0 (128 : Int)) fun v8 =>
  (butteryref02_num_l0 (v6, v8)).bind fun s19 =>
    some s19
end Go.Proofs.Ytjaaepnejihbkaa
namespace Go.Proofs.Ytjaaepnejihbkaa
open Go Go.Va
set_option linter.unusedVariables false
set_option linter.unusedSimpArgs false
set_option maxRecDepth 20000
noncomputable def butteryref02_Put_b0 (x1 : List Int) (c5 : List (BitVec 8)) (c6 : Int) : Option (((List (BitVec 8)) × Int) ⊕ ((List (BitVec 8)))) :=
  lt (((x1).length : Int)) fun v17 =>
  lt (decide (c6 < v17)) fun v19 =>
  if v19 = true then
    (ix x1 c6).bind fun v22 =>
    (butteryref02_num v22).bind fun v24 =>
    (app 1 c5 v24).bind fun v26 =>
    lt (w64 (c6 + (1 : Int))) fun v30 =>
    some (.inl (v26, v30))
  else
    some (.inr c5)
noncomputable def butteryref02_Put_l0 (x1 : List Int) (s : (List (BitVec 8)) × Int) : Option ((List (BitVec 8))) := loopO (fun s => butteryref02_Put_b0 x1 s.1 s.2) s
noncomputable def butteryref02_Put (x0 : List (BitVec 8)) (x1 : List Int) : Option ((List (BitVec 8))) :=
  (app 1 ([] : List (BitVec 8)) x0).bind fun v2 =>
  (butteryref02_Put_l0 x1 (v2, (0 : Int))).bind fun s14 =>
    some s14
end Go.Proofs.Ytjaaepnejihbkaa
namespace Go.Proofs.Ytjaaepnejihbkaa
open Go Go.Va
set_option linter.unusedVariables false
set_option linter.unusedSimpArgs false
set_option maxRecDepth 20000
noncomputable def butteryref02_Bytes (x0 : List (BitVec 8)) (x1 : List (BitVec 8)) : Option ((List (BitVec 8))) :=
  lt (((x1).length : Int)) fun v2 =>
  lt (([v2] : List Int)) fun v4 =>
  (butteryref02_Put x0 v4).bind fun v6 =>
  (app 1 v6 x1).bind fun v9 =>
  some v9
end Go.Proofs.Ytjaaepnejihbkaa
namespace Go.Proofs.Ytjaaepnejihbkaa
open Go Go.Va
set_option linter.unusedVariables false
set_option linter.unusedSimpArgs false
set_option maxRecDepth 20000
noncomputable def butteryref02_Word_b0 (x1 : BitVec 64) (c5 : List (BitVec 8)) (c6 : BitVec 64) (c7 : Int) : Option (((List (BitVec 8)) × (BitVec 64) × Int) ⊕ ((List (BitVec 8)))) :=
  lt (decide (c7 < (8 : Int))) fun v18 =>
  if v18 = true then
    ((dvU c6).map fun m => x1 / m).bind fun v21 =>
    lt (v21 % 256#64) fun v23 =>
    lt (BitVec.setWidth 8 v23) fun v25 =>
    lt (([v25] : List (BitVec 8))) fun v27 =>
    (app 1 c5 v27).bind fun v29 =>
    lt (c6 / 256#64) fun v33 =>
    lt (w64 (c7 + (1 : Int))) fun v35 =>
    some (.inl (v29, v33, v35))
  else
    some (.inr c5)
noncomputable def butteryref02_Word_l0 (x1 : BitVec 64) (s : (List (BitVec 8)) × (BitVec 64) × Int) : Option ((List (BitVec 8))) := loopO (fun s => butteryref02_Word_b0 x1 s.1 s.2.1 s.2.2) s
noncomputable def butteryref02_Word (x0 : List (BitVec 8)) (x1 : BitVec 64) : Option ((List (BitVec 8))) :=
  (app 1 ([] : List (BitVec 8)) x0).bind fun v2 =>
  (butteryref02_Word_l0 x1 (v2, 72057594037927936#64, (0 : Int))).bind fun s15 =>
    some s15
end Go.Proofs.Ytjaaepnejihbkaa
namespace Go.Proofs.Ytjaaepnejihbkaa
open Go Go.Va
set_option linter.unusedVariables false
set_option linter.unusedSimpArgs false
set_option maxRecDepth 20000
noncomputable def butteryref02_Len_b0  (c3 : Int) (c4 : Int) : Option ((Int × Int) ⊕ (Int)) :=
  lt (decide (c4 > (0 : Int))) fun v15 =>
  if v15 = true then
    lt (w64 (c3 + (1 : Int))) fun v18 =>
    lt (quo64 c4 (128 : Int)) fun v20 =>
    some (.inl (v18, v20))
  else
    some (.inr c3)
noncomputable def butteryref02_Len_l0  (s : Int × Int) : Option (Int) := loopO (fun s => butteryref02_Len_b0 s.1 s.2) s
noncomputable def butteryref02_Len (x0 : Int) : Option (Int) :=
  lt (quo64 x0 (128 : Int)) fun v2 =>
  (butteryref02_Len_l0 ((1 : Int), v2)).bind fun s12 =>
    some s12
end Go.Proofs.Ytjaaepnejihbkaa
namespace Go.Proofs.Ytjaaepnejihbkaa
open Go Go.Va
set_option linter.unusedVariables false
set_option linter.unusedSimpArgs false
set_option maxRecDepth 20000
noncomputable def butteryref02_Key (x0 : List (BitVec 8)) : Option (Int) :=
  lt (x0 == ([] : List (BitVec 8))) fun v2 =>
  if v2 = true then
    some (1 : Int)
  else
    lt (((x0).length : Int)) fun v5 =>
    lt (decide (v5 > (40 : Int))) fun v7 =>
    if v7 = true then
      some (3 : Int)
    else
      some (0 : Int)
end Go.Proofs.Ytjaaepnejihbkaa
namespace Go.Proofs.Ytjaaepnejihbkaa
open Go Go.Va
set_option linter.unusedVariables false
set_option linter.unusedSimpArgs false
set_option maxRecDepth 20000
noncomputable def butterylaw02_few_b0 (x0 : List Int) (c6 : Int) : Option ((Int) ⊕ (Unit ⊕ (Bool))) :=
  lt (((x0).length : Int)) fun v17 =>
  lt (decide (c6 < v17)) fun v19 =>
  if v19 = true then
    (ix x0 c6).bind fun v22 =>
    lt (decide (v22 < (0 : Int))) fun v24 =>
    if v24 = true then
      some (.inr (.inr false))
    else
      lt (w64 (c6 + (1 : Int))) fun v28 =>
      some (.inl v28)
  else
    some (.inr (.inl ()))
noncomputable def butterylaw02_few_l0 (x0 : List Int) (s : Int) : Option (Unit ⊕ (Bool)) := loopO (fun s => butterylaw02_few_b0 x0 s) s
noncomputable def butterylaw02_few (x0 : List Int) : Option (Bool) :=
  lt (((x0).length : Int)) fun v2 =>
  lt (decide (v2 > (100 : Int))) fun v4 =>
  if v4 = true then
    some false
  else
    (butterylaw02_few_l0 x0 (0 : Int)).bind fun o7 =>
      Sum.elim (fun s14 : Unit =>
        some true
        ) (fun y => some y) o7
end Go.Proofs.Ytjaaepnejihbkaa
namespace Go.Proofs.Ytjaaepnejihbkaa
open Go Go.Va
set_option linter.unusedVariables false
set_option linter.unusedSimpArgs false
theorem same_eq (x y : List (BitVec 8)) (hx : x.length < 9223372036854775807) : butteryref02_Same x y = some (decide (x = y)) := by
  unfold butteryref02_Same
  simp only [lt_eq]
  by_cases hl : x.length = y.length
  · rw [if_neg (by simp [hl])]
    have h := loopO_find (body := fun s => butteryref02_Same_b0 x y s) (fun i : Nat => (i : Int)) x.length (fun i => if x[i]? ≠ y[i]? then some (Sum.inr false) else none) (x := .inl ()) (fun i hi => by
      simp only [butteryref02_Same_b0, lt_eq, ix_nat hi, ix_nat (show i < y.length by omega), Option.bind_some]
      rw [if_pos (by simpa using hi)]
      by_cases he : x[i] = y[i]
      · rw [if_neg (by simp [he]), if_neg (by simp [hi, show i < y.length by omega, he]), w64_nat (by omega)]; rfl
      · rw [if_pos (by simpa using he), if_pos (by simp [hi, show i < y.length by omega, he])]; rfl) (by simp [butteryref02_Same_b0, lt_eq])
    rw [show ((0 : Nat) : Int) = 0 from rfl] at h
    simp only [butteryref02_Same_l0, h, Option.bind_some]
    by_cases he : x = y
    · rw [List.findSome?_eq_none_iff.2 (fun i _ => by rw [if_neg (by simp [he])])]
      simp [he]
    · cases hf : (List.range x.length).findSome? (fun i => if x[i]? ≠ y[i]? then some (Sum.inr (α := Unit) false) else none) with
      | none =>
        refine absurd (List.ext_getElem? fun i => ?_) he
        have h1 := List.findSome?_eq_none_iff.1 hf
        rcases Nat.lt_or_ge i x.length with hi | hi
        · have := h1 i (by simpa using hi)
          by_cases hne : x[i]? = y[i]?
          · exact hne
          · rw [if_pos hne] at this; cases this
        · rw [List.getElem?_eq_none hi, List.getElem?_eq_none (by omega)]
      | some w =>
        obtain ⟨i, _, h2⟩ := List.exists_of_findSome?_eq_some hf
        split at h2
        · cases h2; simp [he]
        · cases h2
  · rw [if_pos (by simpa using fun e => hl (by exact_mod_cast e))]
    rw [decide_eq_false (fun e => hl (by rw [e]))]
theorem refnum_l : ∀ (k m : Nat) (out : List (BitVec 8)), m < 128 ^ k → m < 9223372036854775808 → out.length + k ≤ 1000 → butteryref02_num_l0 (out, (m : Int)) = some (pre m ++ out)
  | 0, m, out, h, h2, hl => by
    have : m = 0 := by simpa using h
    subst this
    rw [pre_zero]
    exact loopO_out (by simp [butteryref02_num_b0, lt_eq])
  | k + 1, m, out, h, h2, hl => by
    by_cases h0 : m = 0
    · subst h0
      rw [pre_zero]
      exact loopO_out (by simp [butteryref02_num_b0, lt_eq])
    · have hb : butteryref02_num_b0 out (m : Int) = some (.inl (BitVec.ofNat 8 (m % 128 + 128) :: out, ((m / 128 : Nat) : Int))) := by
        simp only [butteryref02_num_b0, lt_eq]
        rw [if_pos (by simp; omega)]
        have e1 : Int.tmod (m : Int) 128 = ((m % 128 : Nat) : Int) := tmod_nat m 128
        have e2 : quo64 (m : Int) 128 = ((m / 128 : Nat) : Int) := quo64_nat h2
        rw [e1, e2, w64_eq (by omega) (by omega), app_eq (by simp; omega)]
        rw [show (((m % 128 : Nat) : Int) + 128) = ((m % 128 + 128 : Nat) : Int) by omega, byte_int]
        rfl
      have := loopO_in (body := fun s => butteryref02_num_b0 s.1 s.2) (s := (out, (m : Int))) hb
      rw [butteryref02_num_l0, this]
      have ih := refnum_l k (m / 128) (BitVec.ofNat 8 (m % 128 + 128) :: out) (by rw [Nat.div_lt_iff_lt_mul (by decide)]; rw [Nat.pow_succ] at h; exact h) (by omega) (by simp; omega)
      rw [butteryref02_num_l0] at ih
      rw [ih, pre_pos (m := m) (by omega)]
      simp
theorem refnum_eq {n : Nat} (h : n < 9223372036854775808) : butteryref02_num (n : Int) = some (num7 n) := by
  simp only [butteryref02_num, lt_eq]
  have e1 : Int.tmod (n : Int) 128 = ((n % 128 : Nat) : Int) := tmod_nat n 128
  have e2 : quo64 (n : Int) 128 = ((n / 128 : Nat) : Int) := quo64_nat h
  rw [e1, e2, byte_int, refnum_l 9 (n / 128) _ (by omega) (by omega) (by simp)]
  rfl
/-- Numbers one behind the other. -/
def nums (l : List Int) : List (BitVec 8) := l.flatMap fun n => num7 n.toNat
def okN (l : List Int) : Prop := l.length ≤ 1000 ∧ ∀ n ∈ l, 0 ≤ n ∧ n ≤ 9223372036854775807
theorem nums_len : ∀ {l : List Int}, (∀ n ∈ l, 0 ≤ n ∧ n ≤ 9223372036854775807) → (nums l).length ≤ 9 * l.length
  | [], _ => Nat.le_refl _
  | n :: l, h => by
    have h1 := nums_len (l := l) (fun m hm => h m (List.mem_cons_of_mem _ hm))
    have h2 := h n List.mem_cons_self
    have h3 := num7_len (n := n.toNat) (by omega)
    simp only [nums, List.flatMap_cons, List.length_append, List.length_cons] at h1 ⊢
    omega
theorem nums_snoc (l : List Int) (n : Int) : nums (l ++ [n]) = nums l ++ num7 n.toNat := by simp [nums]
theorem refPut_eq (b : List (BitVec 8)) {l : List Int} (hb : b.length ≤ 1000000) (hl : okN l) : butteryref02_Put b l = some (b ++ nums l) := by
  simp only [butteryref02_Put]
  rw [app_eq (by simp; omega)]
  simp only [List.nil_append, Option.bind_some]
  have h := loopO_up (body := fun s => butteryref02_Put_b0 l s.1 s.2) (fun i => (b ++ nums (l.take i), (i : Int))) l.length (x := b ++ nums l) (fun i hi => by
    obtain ⟨hn0, hn1⟩ := hl.2 _ (List.getElem_mem hi)
    have hn : butteryref02_num l[i] = some (num7 l[i].toNat) := by
      have := refnum_eq (n := l[i].toNat) (by omega)
      rwa [Int.toNat_of_nonneg hn0] at this
    have h1 := nums_len (l := l.take i) (fun m hm => hl.2 m (List.mem_of_mem_take hm))
    have h2 := num7_len (n := l[i].toNat) (by omega)
    have h3 := hl.1
    simp only [List.length_take] at h1
    simp only [butteryref02_Put_b0, lt_eq, ix_nat hi, Option.bind_some, hn]
    rw [if_pos (by simpa using hi), app_eq (by simp only [List.length_append]; omega), w64_nat (by omega)]
    simp only [Option.bind_some]
    rw [List.take_succ_eq_append_getElem hi, nums_snoc, List.append_assoc]) (by simp [butteryref02_Put_b0, lt_eq])
  simp only [butteryref02_Put_l0]
  have h0 : b ++ nums (l.take 0) = b := by simp [nums]
  rw [h0] at h
  rw [show ((0 : Nat) : Int) = 0 from rfl] at h
  rw [h]; rfl
theorem oct_l1 (l : List Int) (v6 : Int) (c7 : List (BitVec 8)) (c8 : Int) {n : Nat} (hn : n < 9223372036854775808) : ∃ h : Nat, octets_Put_l1 l v6 c7 c8 (n : Int) 0 = some (h : Int) ∧ h ≤ 9 ∧ n / 128 ^ h < 128 ∧ ∀ j, j < h → 128 ≤ n / 128 ^ j := by
  have key := loopO_inv (body := fun s => octets_Put_b1 l v6 c7 c8 (n : Int) s) (fun s => ∃ h : Nat, s = (h : Int) ∧ h ≤ 9 ∧ ∀ j, j < h → 128 ≤ n / 128 ^ j) (fun s => 10 - s.toNat) (fun x => ∃ h : Nat, x = (h : Int) ∧ h ≤ 9 ∧ n / 128 ^ h < 128 ∧ ∀ j, j < h → 128 ≤ n / 128 ^ j) (fun s => by
    rintro ⟨h, rfl, h9, hj⟩
    have ew : w64 (7 * (h : Int)) = ((7 * h : Nat) : Int) := by rw [w64_eq (by omega) (by omega)]; omega
    have es : shr64 (n : Int) (7 * h) = ((n / 128 ^ h : Nat) : Int) := by
      rw [shr64_nat (by omega), Nat.pow_mul]
    simp only [octets_Put_b1, lt_eq, ew, sc_eq (Int.natCast_nonneg _), Int.toNat_natCast, Option.map_some, Option.bind_some, es]
    by_cases hc : 128 ≤ n / 128 ^ h
    · left
      have h8 : h ≤ 8 := by
        rcases Nat.lt_or_ge 8 h with h8 | h8
        · have : h = 9 := by omega
          subst this
          omega
        · exact h8
      refine ⟨((h + 1 : Nat) : Int), ?_, ⟨h + 1, rfl, by omega, fun j hj' => ?_⟩, by omega⟩
      · rw [if_pos (decide_eq_true (show ((n / 128 ^ h : Nat) : Int) ≥ 128 by omega)), w64_nat (by omega)]
      · by_cases e : j = h
        · subst e; exact hc
        · exact hj j (by omega)
    · right
      exact ⟨_, by rw [if_neg (by rw [decide_eq_false (show ¬ ((n / 128 ^ h : Nat) : Int) ≥ 128 by omega)]; simp)], h, rfl, h9, by omega, hj⟩) (s := 0) ⟨0, rfl, by omega, fun j hj => by omega⟩
  obtain ⟨x, h1, h, rfl, h2⟩ := key
  exact ⟨h, h1, h2⟩
theorem oct_l2 (l : List Int) (v6 : Int) (c8 : Int) {n : Nat} : ∀ (h : Nat) (out : List (BitVec 8)), h ≤ 9 → out.length + h ≤ 100000000 → octets_Put_l2 l v6 c8 (n : Int) (out, (h : Int)) = some (out ++ seq7 n h)
  | 0, out, h9, hl => by
    simp only [seq7, List.append_nil]
    exact loopO_out (by simp [octets_Put_b2, lt_eq])
  | h + 1, out, h9, hl => by
    have ew : w64 (7 * ((h + 1 : Nat) : Int)) = ((7 * (h + 1) : Nat) : Int) := by rw [w64_eq (by omega) (by omega)]; omega
    have es : shr64 (n : Int) (7 * (h + 1)) = ((n / 128 ^ (h + 1) : Nat) : Int) := by
      rw [shr64_nat (by omega), Nat.pow_mul]
    have hb : octets_Put_b2 l v6 c8 (n : Int) out ((h + 1 : Nat) : Int) = some (.inl (out ++ [BitVec.ofNat 8 (n / 128 ^ (h + 1) % 128 + 128)], (h : Int))) := by
      simp only [octets_Put_b2, lt_eq, ew, sc_eq (Int.natCast_nonneg _), Int.toNat_natCast, Option.map_some, Option.bind_some, es]
      rw [if_pos (decide_eq_true (by omega)), app_eq (by simp; omega), byte_hi, w64_eq (by omega) (by omega)]
      simp only [Option.bind_some]
      rw [show (((h + 1 : Nat) : Int) - 1) = (h : Int) by omega]
    have := loopO_in (body := fun s => octets_Put_b2 l v6 c8 (n : Int) s.1 s.2) (s := (out, ((h + 1 : Nat) : Int))) hb
    rw [octets_Put_l2, this]
    have ih := oct_l2 l v6 c8 (n := n) h (out ++ [BitVec.ofNat 8 (n / 128 ^ (h + 1) % 128 + 128)]) (by omega) (by simp; omega)
    rw [octets_Put_l2] at ih
    rw [ih, seq7, List.append_assoc]; rfl
theorem octPut_eq (b : List (BitVec 8)) {l : List Int} (hb : b.length ≤ 1000000) (hl : okN l) : octets_Put b l = some (b ++ nums l) := by
  simp only [octets_Put]
  rw [app_eq (by simp; omega)]
  simp only [List.nil_append, Option.bind_some, lt_eq]
  have h := loopO_up (body := fun s => octets_Put_b0 l (l.length : Int) s.1 s.2) (fun i => (b ++ nums (l.take i), (i : Int))) l.length (x := b ++ nums l) (fun i hi => by
    obtain ⟨hn0, hn1⟩ := hl.2 _ (List.getElem_mem hi)
    obtain ⟨n, hn⟩ : ∃ n : Nat, l[i] = (n : Int) := ⟨l[i].toNat, by omega⟩
    have hlt : n < 9223372036854775808 := by omega
    have h1 := nums_len (l := l.take i) (fun m hm => hl.2 m (List.mem_of_mem_take hm))
    have h3 := hl.1
    simp only [List.length_take] at h1
    obtain ⟨h, k1, k2, k3, k4⟩ := oct_l1 l (l.length : Int) (b ++ nums (l.take i)) (i : Int) hlt
    have h2 := num7_len hlt
    have hs := seq7_pre h n k3 k4
    simp only [octets_Put_b0, lt_eq, ix_nat hi, Option.bind_some, hn, k1]
    rw [oct_l2 l _ _ h _ k2 (by simp only [List.length_append]; omega), hs]
    have h2' : (pre (n / 128)).length ≤ 9 := by simp [num7] at h2; omega
    simp only [Option.bind_some, byte_lo]
    rw [if_pos (by simpa using hi), app_eq (by simp only [List.length_append, List.length_cons, List.length_nil]; omega), w64_nat (by omega)]
    simp only [Option.bind_some]
    rw [List.take_succ_eq_append_getElem hi, nums_snoc, hn, Int.toNat_natCast, num7]
    simp only [List.append_assoc]) (by simp [octets_Put_b0, lt_eq])
  simp only [octets_Put_l0]
  have h0 : b ++ nums (l.take 0) = b := by simp [nums]
  rw [h0] at h
  rw [show ((0 : Nat) : Int) = 0 from rfl] at h
  rw [h]; rfl
theorem okN_one {n : Nat} (h : n < 9223372036854775808) : okN [(n : Int)] := ⟨by simp, fun m hm => by simp at hm; omega⟩
theorem octBytes_eq (b t : List (BitVec 8)) (hb : b.length ≤ 1000000) (ht : t.length ≤ 1000000) : octets_Bytes b t = some (b ++ num7 t.length ++ t) := by
  have h2 := num7_len (n := t.length) (by omega)
  simp only [octets_Bytes, lt_eq, octPut_eq b hb (okN_one (n := t.length) (by omega)), Option.bind_some, nums, List.flatMap_cons, List.flatMap_nil, List.append_nil, Int.toNat_natCast]
  rw [app_eq (by simp only [List.length_append]; omega)]; rfl
theorem refBytes_eq (b t : List (BitVec 8)) (hb : b.length ≤ 1000000) (ht : t.length ≤ 1000000) : butteryref02_Bytes b t = some (b ++ num7 t.length ++ t) := by
  have h2 := num7_len (n := t.length) (by omega)
  simp only [butteryref02_Bytes, lt_eq, refPut_eq b hb (okN_one (n := t.length) (by omega)), Option.bind_some, nums, List.flatMap_cons, List.flatMap_nil, List.append_nil, Int.toNat_natCast]
  rw [app_eq (by simp only [List.length_append]; omega)]; rfl
end Go.Proofs.Ytjaaepnejihbkaa
namespace Go.Proofs.Ytjaaepnejihbkaa
open Go Go.Va
set_option linter.unusedVariables false
set_option linter.unusedSimpArgs false
/-- The first i bytes of a word. -/
def wd (n : BitVec 64) (i : Nat) : List (BitVec 8) := (List.range i).map fun j => (n >>> (56 - 8 * j)).setWidth 8
theorem wd_succ (n : BitVec 64) (i : Nat) : wd n (i + 1) = wd n i ++ [(n >>> (56 - 8 * i)).setWidth 8] := by
  simp [wd, List.range_succ]
theorem wd_len (n : BitVec 64) (i : Nat) : (wd n i).length = i := by simp [wd]
theorem octWord_eq (b : List (BitVec 8)) (n : BitVec 64) (hb : b.length ≤ 1000000) : octets_Word b n = some (b ++ wd n 8) := by
  simp only [octets_Word]
  rw [app_eq (by simp; omega)]
  simp only [List.nil_append, Option.bind_some]
  have h := loopO_up (body := fun s => octets_Word_b0 n s.1 s.2) (fun i => (b ++ wd n i, 56 - 8 * (i : Int))) 8 (x := b ++ wd n 8) (fun i hi => by
    have hs : sc (56 - 8 * (i : Int)) = some (56 - 8 * i) := by rw [sc_eq (by omega)]; congr 1; omega
    simp only [octets_Word_b0, lt_eq, hs, Option.map_some, Option.bind_some]
    rw [if_pos (decide_eq_true (by omega)), app_eq (by simp only [List.length_append, wd_len, List.length_cons, List.length_nil]; omega), w64_eq (by omega) (by omega)]
    simp only [Option.bind_some]
    rw [wd_succ, List.append_assoc, show (56 - 8 * (i : Int) - 8) = 56 - 8 * ((i + 1 : Nat) : Int) by omega]) (by simp [octets_Word_b0, lt_eq])
  have h0 : b ++ wd n 0 = b := by simp [wd]
  rw [h0, show (56 - 8 * ((0 : Nat) : Int)) = 56 by omega] at h
  simp only [octets_Word_l0, h, Option.bind_some]
theorem refWord_eq (b : List (BitVec 8)) (n : BitVec 64) (hb : b.length ≤ 1000000) : butteryref02_Word b n = some (b ++ wd n 8) := by
  simp only [butteryref02_Word]
  rw [app_eq (by simp; omega)]
  simp only [List.nil_append, Option.bind_some]
  have h := loopO_up (body := fun s => butteryref02_Word_b0 n s.1 s.2.1 s.2.2) (fun i => (b ++ wd n i, BitVec.ofNat 64 (2 ^ 56 / 256 ^ i), (i : Int))) 8 (x := b ++ wd n 8) (fun i hi => by
    have hx : ∀ i : Fin 8, BitVec.ofNat 64 (2 ^ 56 / 256 ^ i.val) ≠ 0#64 ∧ BitVec.ofNat 64 (2 ^ 56 / 256 ^ i.val) / 256#64 = BitVec.ofNat 64 (2 ^ 56 / 256 ^ (i.val + 1)) ∧ 2 ^ 56 / 256 ^ i.val = 2 ^ (56 - 8 * i.val) := by decide
    obtain ⟨k1, k2, k3⟩ := hx ⟨i, hi⟩
    simp only [butteryref02_Word_b0, lt_eq, dvU_eq k1, Option.map_some, Option.bind_some]
    rw [if_pos (decide_eq_true (by omega)), app_eq (by simp only [List.length_append, wd_len, List.length_cons, List.length_nil]; omega), w64_nat (by omega)]
    simp only [Option.bind_some]
    rw [wd_succ, List.append_assoc, k2]
    have : BitVec.setWidth 8 (n / BitVec.ofNat 64 (2 ^ 56 / 256 ^ i) % 256#64) = (n >>> (56 - 8 * i)).setWidth 8 := by
      apply BitVec.eq_of_toNat_eq
      simp only at k3
      rw [k3]
      have h2 : 2 ^ (56 - 8 * i) < 2 ^ 64 := Nat.pow_lt_pow_right (by decide) (by omega)
      simp only [BitVec.toNat_setWidth, BitVec.toNat_umod, BitVec.toNat_udiv, BitVec.toNat_ofNat, BitVec.toNat_ushiftRight, Nat.shiftRight_eq_div_pow]
      rw [Nat.mod_eq_of_lt h2]
      generalize n.toNat / 2 ^ (56 - 8 * i) = q
      rw [show 256 % 2 ^ 64 = 256 by decide]
      omega
    rw [this]) (by simp [butteryref02_Word_b0, lt_eq])
  have h0 : b ++ wd n 0 = b := by simp [wd]
  rw [h0, show BitVec.ofNat 64 (2 ^ 56 / 256 ^ 0) = 72057594037927936#64 by decide, show ((0 : Nat) : Int) = 0 from rfl] at h
  simp only [butteryref02_Word_l0, h, Option.bind_some]
theorem shr35 {n : Nat} : shr64 (n : Int) 35 = ((n / 34359738368 : Nat) : Int) := by rw [shr64_nat (by omega)]
theorem octLen_n {n : Nat} (h : n < 9223372036854775808) : ∀ k, octets_Len_n (k + 3) (n : Int) = some (nlen n : Int) := by
  have hs : ∀ (rec : Int → Option Int) {n : Nat}, n < 34359738368 → octets_Len_F rec (n : Int) = some (nlen n : Int) := by
    intro rec n hn
    simp only [octets_Len_F, lt_eq]
    rw [if_neg (by rw [decide_eq_false (by omega)]; simp)]
    by_cases h4 : 268435456 ≤ n
    · rw [if_pos (decide_eq_true (by omega)), nlen_ge (by omega), nlen_ge (by omega), nlen_ge (by omega), nlen_ge (by omega), nlen_lt (by omega)]; rfl
    rw [if_neg (by rw [decide_eq_false (by omega)]; simp)]
    by_cases h3 : 2097152 ≤ n
    · rw [if_pos (decide_eq_true (by omega)), nlen_ge (by omega), nlen_ge (by omega), nlen_ge (by omega), nlen_lt (by omega)]; rfl
    rw [if_neg (by rw [decide_eq_false (by omega)]; simp)]
    by_cases h2 : 16384 ≤ n
    · rw [if_pos (decide_eq_true (by omega)), nlen_ge (by omega), nlen_ge (by omega), nlen_lt (by omega)]; rfl
    rw [if_neg (by rw [decide_eq_false (by omega)]; simp)]
    by_cases h1 : 128 ≤ n
    · rw [if_pos (decide_eq_true (by omega)), nlen_ge (by omega), nlen_lt (by omega)]; rfl
    rw [if_neg (by rw [decide_eq_false (by omega)]; simp), nlen_lt (by omega)]; rfl
  intro k
  by_cases hn : n < 34359738368
  · exact hs (octets_Len_n (k + 2)) hn
  · show octets_Len_F (octets_Len_n (k + 2)) (n : Int) = _
    simp only [octets_Len_F, lt_eq]
    rw [if_pos (decide_eq_true (by omega)), shr35]
    have : octets_Len_n (k + 2) ((n / 34359738368 : Nat) : Int) = _ := hs (octets_Len_n (k + 1)) (by omega)
    rw [this, Option.bind_some]
    have hq : nlen n = nlen (n / 34359738368) + 5 := by
      rw [nlen_ge (n := n) (by omega), nlen_ge (n := n / 128) (by omega), nlen_ge (n := n / 128 / 128) (by omega), nlen_ge (n := n / 128 / 128 / 128) (by omega), nlen_ge (n := n / 128 / 128 / 128 / 128) (by omega)]
      rw [show n / 128 / 128 / 128 / 128 / 128 = n / 34359738368 by omega]
    have hb : nlen (n / 34359738368) ≤ 10 := by
      have : n / 34359738368 < 268435456 := by omega
      generalize n / 34359738368 = m at this
      rcases Nat.lt_or_ge m 128 with h1 | h1
      · rw [nlen_lt h1]; omega
      rw [nlen_ge h1]
      rcases Nat.lt_or_ge (m / 128) 128 with h2 | h2
      · rw [nlen_lt h2]; omega
      rw [nlen_ge h2]
      rcases Nat.lt_or_ge (m / 128 / 128) 128 with h3 | h3
      · rw [nlen_lt h3]; omega
      rw [nlen_ge h3, nlen_lt (by omega)]; omega
    rw [w64_eq (by omega) (by omega), hq]
    congr 1; omega
theorem octLen_eq {n : Nat} (h : n < 9223372036854775808) : octets_Len (n : Int) = some (nlen n : Int) := octLen_n h 999997
theorem refLen_l : ∀ (k m c : Nat), m < 128 ^ k → m < 9223372036854775808 → c + k ≤ 1000 → butteryref02_Len_l0 ((c : Int), (m : Int)) = some ((c + (if m = 0 then 0 else nlen m) : Nat) : Int)
  | 0, m, c, h, h2, hl => by
    have : m = 0 := by simpa using h
    subst this
    exact loopO_out (by simp [butteryref02_Len_b0, lt_eq])
  | k + 1, m, c, h, h2, hl => by
    by_cases h0 : m = 0
    · subst h0
      exact loopO_out (by simp [butteryref02_Len_b0, lt_eq])
    · have e2 : quo64 (m : Int) 128 = ((m / 128 : Nat) : Int) := quo64_nat h2
      have hb : butteryref02_Len_b0 (c : Int) (m : Int) = some (.inl (((c + 1 : Nat) : Int), ((m / 128 : Nat) : Int))) := by
        simp only [butteryref02_Len_b0, lt_eq]
        rw [if_pos (decide_eq_true (by omega)), e2, w64_nat (by omega)]
      have := loopO_in (body := fun s => butteryref02_Len_b0 s.1 s.2) (s := ((c : Int), (m : Int))) hb
      rw [butteryref02_Len_l0, this]
      have ih := refLen_l k (m / 128) (c + 1) (by rw [Nat.div_lt_iff_lt_mul (by decide)]; rw [Nat.pow_succ] at h; exact h) (by omega) (by omega)
      rw [butteryref02_Len_l0] at ih
      rw [ih, if_neg h0]
      by_cases h1 : m / 128 = 0
      · rw [if_pos h1, nlen_lt (by omega)]
      · rw [if_neg h1, nlen_ge (n := m) (by omega)]
        congr 2; omega
theorem refLen_eq {n : Nat} (h : n < 9223372036854775808) : butteryref02_Len (n : Int) = some (nlen n : Int) := by
  have e2 : quo64 (n : Int) 128 = ((n / 128 : Nat) : Int) := quo64_nat h
  have := refLen_l 9 (n / 128) 1 (by omega) (by omega) (by omega)
  simp only [butteryref02_Len, lt_eq, e2]
  rw [show (1 : Int) = ((1 : Nat) : Int) from rfl, this]
  simp only [Option.bind_some]
  by_cases h0 : n / 128 = 0
  · rw [if_pos h0, nlen_lt (by omega)]
  · rw [if_neg h0, nlen_ge (n := n) (by omega)]
    congr 2; omega
theorem key_eq (x : List (BitVec 8)) : octets_Key x = butteryref02_Key x := by
  simp only [octets_Key, butteryref02_Key, lt_eq]
  cases x with
  | nil => rfl
  | cons a x => rw [if_neg (show ¬ ((((a :: x).length : Int) == 0) = true) by simp; omega), if_neg (show ¬ ((a :: x == []) = true) by simp)]
theorem key_some (x : List (BitVec 8)) : ∃ v, octets_Key x = some v := by
  simp only [octets_Key, lt_eq]
  split
  · exact ⟨_, rfl⟩
  · split <;> exact ⟨_, rfl⟩
theorem few_true {l : List Int} (h : butterylaw02_few l = some true) : l.length ≤ 100 ∧ ∀ n ∈ l, 0 ≤ n := by
  simp only [butterylaw02_few, lt_eq] at h
  split at h
  · cases h
  · rename_i hl
    have hl : l.length ≤ 100 := by have h1 := hl; simp at h1; omega
    refine ⟨hl, ?_⟩
    have k := loopO_find (body := fun s => butterylaw02_few_b0 l s) (fun i : Nat => (i : Int)) l.length (fun i => if l.getD i 0 < 0 then some (Sum.inr false) else none) (x := .inl ()) (fun i hi => by
      simp only [butterylaw02_few_b0, lt_eq, ix_nat hi, Option.bind_some]
      rw [if_pos (by simpa using hi)]
      have e : l.getD i 0 = l[i] := by simp [hi]
      by_cases he : l[i] < 0
      · rw [if_pos (by simpa using he), if_pos (by rw [e]; exact he)]; rfl
      · rw [if_neg (by simpa using he), if_neg (by rw [e]; exact he), w64_nat (by omega)]; rfl) (by simp [butterylaw02_few_b0, lt_eq])
    rw [show ((0 : Nat) : Int) = 0 from rfl] at k
    simp only [butterylaw02_few_l0, k, Option.bind_some] at h
    cases hf : (List.range l.length).findSome? (fun i => if l.getD i 0 < 0 then some (Sum.inr (α := Unit) false) else none) with
    | none =>
      intro n hn
      obtain ⟨i, hi, rfl⟩ := List.getElem_of_mem hn
      have := List.findSome?_eq_none_iff.1 hf i (by simpa using hi)
      have e : l.getD i 0 = l[i] := by simp [hi]
      rw [e] at this
      split at this
      · cases this
      · omega
    | some w =>
      rw [hf] at h
      obtain ⟨i, _, h2⟩ := List.exists_of_findSome?_eq_some hf
      split at h2
      · cases h2; cases h
      · cases h2
theorem few_some (l : List Int) : ∃ v, butterylaw02_few l = some v := by
  simp only [butterylaw02_few, lt_eq]
  split
  · exact ⟨_, rfl⟩
  · rename_i hl0
    have hl : l.length ≤ 100 := by have h1 := hl0; simp at h1; omega
    have k := loopO_find (body := fun s => butterylaw02_few_b0 l s) (fun i : Nat => (i : Int)) l.length (fun i => if l.getD i 0 < 0 then some (Sum.inr false) else none) (x := .inl ()) (fun i hi => by
      simp only [butterylaw02_few_b0, lt_eq, ix_nat hi, Option.bind_some]
      rw [if_pos (by simpa using hi)]
      have e : l.getD i 0 = l[i] := by simp [hi]
      by_cases he : l[i] < 0
      · rw [if_pos (by simpa using he), if_pos (by rw [e]; exact he)]; rfl
      · rw [if_neg (by simpa using he), if_neg (by rw [e]; exact he), w64_nat (by omega)]; rfl) (by simp [butterylaw02_few_b0, lt_eq])
    rw [show ((0 : Nat) : Int) = 0 from rfl] at k
    simp only [butterylaw02_few_l0, k, Option.bind_some]
    cases h : ((List.range l.length).findSome? (fun i => if l.getD i 0 < 0 then some (Sum.inr (α := Unit) false) else none)).getD (.inl ()) with
    | inl u => exact ⟨_, rfl⟩
    | inr u => exact ⟨_, rfl⟩
end Go.Proofs.Ytjaaepnejihbkaa
namespace Go.Proofs.Ytjaaepnejihbkaa
open Go Go.Va
set_option linter.unusedVariables false
set_option linter.unusedSimpArgs false
theorem drop_cons {b l : List (BitVec 8)} {c : BitVec 8} {pos : Nat} (h : b.drop pos = c :: l) : ∃ hp : pos < b.length, b[pos] = c ∧ b.drop (pos + 1) = l := by
  have hp : pos < b.length := by
    rcases Nat.lt_or_ge pos b.length with h1 | h1
    · exact h1
    · rw [List.drop_of_length_le h1] at h; cases h
  rw [List.drop_eq_getElem_cons hp] at h
  simp only [List.cons.injEq] at h
  exact ⟨hp, h.1, h.2⟩
theorem fail_eq (b : List (BitVec 8)) (a e : Int) : octets_Reader_Fail ⟨b, a, 0⟩ e = some ⟨b, a, e⟩ := rfl
theorem rfail_eq (b : List (BitVec 8)) (a e : Int) : butteryref02_fail ⟨b, a, 0⟩ e = some ⟨b, a, e⟩ := rfl
def oOut (b : List (BitVec 8)) (a pos : Nat) : Int ⊕ (Nat × Nat) → octets_Reader ⊕ (Int × octets_Reader)
  | .inl e => .inl ⟨b, a, e⟩
  | .inr (m, k) => .inr ((m : Int), ⟨b, ((pos + k : Nat) : Int), 0⟩)
theorem oOut_go (b : List (BitVec 8)) (a pos : Nat) (r : Int ⊕ (Nat × Nat)) : oOut b a pos (up7 r) = oOut b a (pos + 1) r := by
  cases r with
  | inl e => rfl
  | inr p => simp only [up7, oOut]; rw [show pos + (p.2 + 1) = pos + 1 + p.2 by omega]
theorem rd7_err {most : Nat} : ∀ {l : List (BitVec 8)} {f : Bool} {n : Nat} {e : Int}, rd7 most l f n = .inl e → e = 2 ∨ e = 5 ∨ e = 6
  | [], f, n, e, h => by simp [rd7] at h; omega
  | c :: l, f, n, e, h => by
    simp only [rd7] at h
    split at h
    · cases h; simp
    · split at h
      · cases h; simp
      · split at h
        · cases hr : rd7 most l false (n * 128 + c.toNat % 128) with
          | inl e' => rw [hr] at h; cases h; exact rd7_err hr
          | inr p => rw [hr] at h; cases h
        · split at h
          · cases h; simp
          · cases h
theorem octNum_stop (most : Int) (b : List (BitVec 8)) (n pos a e : Int) (he : e ≠ 0) : octets_Reader_Number_l0 most (n, pos, ⟨b, a, e⟩) = some (.inl ⟨b, a, e⟩) :=
  loopO_out (by simp [octets_Reader_Number_b0, lt_eq, he])
theorem le_byte (c : BitVec 8) : (128#8 ≤ c) ↔ 128 ≤ c.toNat := by rw [BitVec.le_def]; rfl
theorem octNum_l {b : List (BitVec 8)} {most a : Nat} (hb : b.length ≤ 1000000) (hm : most < 9223372036854775808) : ∀ (l : List (BitVec 8)) (pos n : Nat) (f : Bool), b.drop pos = l → pos ≤ b.length → (f = true → n = 0 ∧ pos = a) → (f = false → a < pos) → n < 9223372036854775808 →
    octets_Reader_Number_l0 (most : Int) ((n : Int), (pos : Int), ⟨b, (a : Int), 0⟩) = some (oOut b a pos (rd7 most l f n))
  | [], pos, n, f, hl, hp, _, _, _ => by
    have hlen : pos = b.length := by
      have := congrArg List.length hl
      simp at this; omega
    refine loopO_out ?_
    simp only [octets_Reader_Number_b0, lt_eq]
    rw [if_pos (by rfl), if_pos (decide_eq_true (by omega)), fail_eq]
    rfl
  | c :: l, pos, n, f, hl, hp, hf, hg, hn => by
    obtain ⟨hlt, hc, hd⟩ := drop_cons hl
    have e0 : w64 ((pos : Int) + 1) = ((pos + 1 : Nat) : Int) := w64_nat (by omega)
    have e1 : w64 ((a : Int) + 1) = ((a + 1 : Nat) : Int) := by
      have : a ≤ pos := by cases f with | true => have := (hf rfl).2; omega | false => have := hg rfl; omega
      exact w64_nat (by omega)
    have e2 : shr64 (most : Int) 7 = ((most / 128 : Nat) : Int) := by rw [shr64_nat (by omega)]
    have hcl := c.isLt
    have hcond : (if (c == 128#8) = true then (if ((n : Int) == 0) = true then some (((pos + 1 : Nat) : Int) == ((a + 1 : Nat) : Int)) else some false) else some false) = some (decide (c = 128#8 ∧ f = true)) := by
      by_cases h1 : c = 128#8
      · rw [if_pos (by simp [h1])]
        cases f with
        | true =>
          obtain ⟨rfl, rfl⟩ := hf rfl
          simp [h1]
        | false =>
          have := hg rfl
          split
          · have : (((pos + 1 : Nat) : Int) == ((a + 1 : Nat) : Int)) = false := by simp; omega
            rw [this]; simp
          · simp
      · rw [if_neg (by simpa using h1)]; simp [h1]
    have hb0 : octets_Reader_Number_b0 (most : Int) (n : Int) (pos : Int) ⟨b, (a : Int), 0⟩ =
        if c = 128#8 ∧ f = true then some (.inl ((n : Int), ((pos + 1 : Nat) : Int), ⟨b, (a : Int), 5⟩)) else if most / 128 < n then some (.inl ((n : Int), ((pos + 1 : Nat) : Int), ⟨b, (a : Int), 2⟩)) else
        if 128 ≤ c.toNat then some (.inl (((n * 128 + c.toNat % 128 : Nat) : Int), ((pos + 1 : Nat) : Int), ⟨b, (a : Int), 0⟩)) else
        if most < n * 128 + c.toNat then some (.inl (((n * 128 + c.toNat : Nat) : Int), ((pos + 1 : Nat) : Int), ⟨b, (a : Int), 2⟩)) else some (.inr (.inr (((n * 128 + c.toNat : Nat) : Int), ⟨b, ((pos + 1 : Nat) : Int), 0⟩))) := by
      simp only [octets_Reader_Number_b0, lt_eq]
      rw [if_pos (by rfl), if_neg (by rw [decide_eq_false (by omega)]; simp), ix_nat hlt, hc]
      simp only [Option.bind_some, e0, e1, e2]
      rw [hcond]
      simp only [Option.bind_some, decide_eq_true_eq]
      by_cases h1 : c = 128#8 ∧ f = true
      · rw [if_pos h1, if_pos h1, fail_eq]; rfl
      · rw [if_neg h1, if_neg h1]
        by_cases h2 : most / 128 < n
        · rw [if_pos (by omega), if_pos h2, fail_eq]; rfl
        · rw [if_neg (by omega), if_neg h2]
          by_cases h3 : 128 ≤ c.toNat
          · rw [if_pos ((le_byte c).2 h3), if_pos h3, byte_and, or64_7 (by omega) (by omega)]
          · rw [if_neg (fun h => h3 ((le_byte c).1 h)), if_neg h3, or64_7 (by omega) (by omega)]
            by_cases h4 : most < n * 128 + c.toNat
            · rw [if_pos (by omega), if_pos h4, fail_eq]; rfl
            · rw [if_neg (by omega), if_neg h4]
    have step : ∀ (s' : Int × Int × octets_Reader), octets_Reader_Number_b0 (most : Int) (n : Int) (pos : Int) ⟨b, (a : Int), 0⟩ = some (.inl s') → octets_Reader_Number_l0 (most : Int) ((n : Int), (pos : Int), ⟨b, (a : Int), 0⟩) = octets_Reader_Number_l0 (most : Int) s' := fun s' h => loopO_in (body := fun s => octets_Reader_Number_b0 (most : Int) s.1 s.2.1 s.2.2) h
    simp only [rd7]
    by_cases h1 : c = 128#8 ∧ f = true
    · rw [if_pos h1] at hb0 ⊢
      rw [step _ hb0, octNum_stop _ _ _ _ _ _ (by decide)]; rfl
    · rw [if_neg h1] at hb0 ⊢
      by_cases h2 : most / 128 < n
      · rw [if_pos h2] at hb0 ⊢
        rw [step _ hb0, octNum_stop _ _ _ _ _ _ (by decide)]; rfl
      · rw [if_neg h2] at hb0 ⊢
        by_cases h3 : 128 ≤ c.toNat
        · rw [if_pos h3] at hb0 ⊢
          rw [step _ hb0, octNum_l hb hm l (pos + 1) (n * 128 + c.toNat % 128) false hd (by omega) (by simp) (fun _ => by cases f with | true => have := (hf rfl).2; omega | false => have := hg rfl; omega) (by omega), oOut_go]
        · rw [if_neg h3] at hb0 ⊢
          by_cases h4 : most < n * 128 + c.toNat
          · rw [if_pos h4] at hb0 ⊢
            rw [step _ hb0, octNum_stop _ _ _ _ _ _ (by decide)]; rfl
          · rw [if_neg h4] at hb0 ⊢
            exact loopO_out (body := fun s => octets_Reader_Number_b0 (most : Int) s.1 s.2.1 s.2.2) hb0
def rOut (b : List (BitVec 8)) (a pos : Nat) : Int ⊕ (Nat × Nat) → Unit ⊕ (butteryref02_Reader × Int)
  | .inl e => if e = 6 then .inl () else .inr (⟨b, a, e⟩, 0)
  | .inr (m, k) => .inr (⟨b, ((pos + k : Nat) : Int), 0⟩, (m : Int))
theorem rOut_go (b : List (BitVec 8)) (a pos : Nat) (r : Int ⊕ (Nat × Nat)) : rOut b a pos (up7 r) = rOut b a (pos + 1) r := by
  cases r with
  | inl e => rfl
  | inr p => simp only [up7, rOut]; rw [show pos + (p.2 + 1) = pos + 1 + p.2 by omega]
theorem refNum_l {b : List (BitVec 8)} {most a : Nat} (hb : b.length ≤ 1000000) (hm : most < 9223372036854775808) : ∀ (l : List (BitVec 8)) (pos n : Nat) (f : Bool), b.drop pos = l → pos ≤ b.length → (f = true → n = 0 ∧ pos = a) → (f = false → a < pos) → n < 9223372036854775808 →
    butteryref02_Number_l0 ⟨b, (a : Int), 0⟩ (most : Int) ((n : Int), (pos : Int)) = some (rOut b a pos (rd7 most l f n))
  | [], pos, n, f, hl, hp, _, _, _ => by
    have hlen : pos = b.length := by
      have := congrArg List.length hl
      simp at this; omega
    refine loopO_out ?_
    simp only [butteryref02_Number_b0, lt_eq]
    rw [if_neg (by rw [decide_eq_false (by omega)]; simp)]
    rfl
  | c :: l, pos, n, f, hl, hp, hf, hg, hn => by
    obtain ⟨hlt, hc, hd⟩ := drop_cons hl
    have e0 : w64 ((pos : Int) + 1) = ((pos + 1 : Nat) : Int) := w64_nat (by omega)
    have e2 : quo64 (most : Int) 128 = ((most / 128 : Nat) : Int) := quo64_nat hm
    have e3 : Int.tmod (c.toNat : Int) 128 = ((c.toNat % 128 : Nat) : Int) := tmod_nat _ 128
    have hcl := c.isLt
    have e4 : ((c.toNat : Int) == 128) = decide (c = 128#8) := by
      rw [Bool.eq_iff_iff]; simp only [beq_iff_eq, decide_eq_true_eq]
      constructor
      · intro h; apply BitVec.eq_of_toNat_eq; show _ = 128; omega
      · rintro rfl; rfl
    have hcond : (if decide (c = 128#8) = true then some ((pos : Int) == (a : Int)) else some false) = some (decide (c = 128#8 ∧ f = true)) := by
      by_cases h1 : c = 128#8
      · rw [if_pos (by simp [h1])]
        cases f with
        | true =>
          obtain ⟨rfl, rfl⟩ := hf rfl
          simp [h1]
        | false =>
          have := hg rfl
          have : ((pos : Int) == (a : Int)) = false := by simp; omega
          rw [this]; simp
      · rw [if_neg (by simpa using h1)]; simp [h1]
    have hb0 : butteryref02_Number_b0 ⟨b, (a : Int), 0⟩ (most : Int) (n : Int) (pos : Int) =
        if c = 128#8 ∧ f = true then some (.inr (.inr (⟨b, (a : Int), 5⟩, 0))) else if most / 128 < n then some (.inr (.inr (⟨b, (a : Int), 2⟩, 0))) else
        if 128 ≤ c.toNat then some (.inl (((n * 128 + c.toNat % 128 : Nat) : Int), ((pos + 1 : Nat) : Int))) else
        if most < n * 128 + c.toNat then some (.inr (.inr (⟨b, (a : Int), 2⟩, 0))) else some (.inr (.inr (⟨b, ((pos + 1 : Nat) : Int), 0⟩, ((n * 128 + c.toNat : Nat) : Int)))) := by
      simp only [butteryref02_Number_b0, lt_eq]
      rw [if_pos (decide_eq_true (by omega)), ix_nat hlt, hc]
      simp only [Option.bind_some, e0, e2, e3, e4]
      rw [hcond]
      simp only [Option.bind_some, decide_eq_true_eq]
      by_cases h1 : c = 128#8 ∧ f = true
      · rw [if_pos h1, if_pos h1, rfail_eq]; rfl
      · rw [if_neg h1, if_neg h1]
        by_cases h2 : most / 128 < n
        · rw [if_pos (by omega), if_pos h2, rfail_eq]; rfl
        · rw [if_neg (by omega), if_neg h2, w64_eq (n := (n : Int) * 128) (by omega) (by omega), w64_eq (by omega) (by omega)]
          by_cases h3 : 128 ≤ c.toNat
          · rw [if_pos (by omega), if_pos h3]
            rw [show ((n : Int) * 128 + ((c.toNat % 128 : Nat) : Int)) = ((n * 128 + c.toNat % 128 : Nat) : Int) by omega]
          · rw [if_neg (by omega), if_neg h3]
            rw [show ((n : Int) * 128 + ((c.toNat % 128 : Nat) : Int)) = ((n * 128 + c.toNat : Nat) : Int) by omega]
            by_cases h4 : most < n * 128 + c.toNat
            · rw [if_pos (by omega), if_pos h4, rfail_eq]; rfl
            · rw [if_neg (by omega), if_neg h4]
    have hout : ∀ x, butteryref02_Number_b0 ⟨b, (a : Int), 0⟩ (most : Int) (n : Int) (pos : Int) = some (.inr x) → butteryref02_Number_l0 ⟨b, (a : Int), 0⟩ (most : Int) ((n : Int), (pos : Int)) = some x := fun x h => loopO_out (body := fun s => butteryref02_Number_b0 ⟨b, (a : Int), 0⟩ (most : Int) s.1 s.2) h
    have step : ∀ (s' : Int × Int), butteryref02_Number_b0 ⟨b, (a : Int), 0⟩ (most : Int) (n : Int) (pos : Int) = some (.inl s') → butteryref02_Number_l0 ⟨b, (a : Int), 0⟩ (most : Int) ((n : Int), (pos : Int)) = butteryref02_Number_l0 ⟨b, (a : Int), 0⟩ (most : Int) s' := fun s' h => loopO_in (body := fun s => butteryref02_Number_b0 ⟨b, (a : Int), 0⟩ (most : Int) s.1 s.2) h
    simp only [rd7]
    by_cases h1 : c = 128#8 ∧ f = true
    · rw [if_pos h1] at hb0 ⊢
      exact hout _ hb0
    · rw [if_neg h1] at hb0 ⊢
      by_cases h2 : most / 128 < n
      · rw [if_pos h2] at hb0 ⊢
        exact hout _ hb0
      · rw [if_neg h2] at hb0 ⊢
        by_cases h3 : 128 ≤ c.toNat
        · rw [if_pos h3] at hb0 ⊢
          rw [step _ hb0, refNum_l hb hm l (pos + 1) (n * 128 + c.toNat % 128) false hd (by omega) (by simp) (fun _ => by cases f with | true => have := (hf rfl).2; omega | false => have := hg rfl; omega) (by omega), rOut_go]
        · rw [if_neg h3] at hb0 ⊢
          by_cases h4 : most < n * 128 + c.toNat
          · rw [if_pos h4] at hb0 ⊢
            exact hout _ hb0
          · rw [if_neg h4] at hb0 ⊢
            exact hout _ hb0
/-- What is read, and where the reader stands then. -/
def rdN (b : List (BitVec 8)) (a most : Nat) : Nat × Nat × Int := match rd7 most (b.drop a) true 0 with
  | .inl e => (0, a, e)
  | .inr (m, k) => (m, a + k, 0)
theorem octNum_eq {b : List (BitVec 8)} {a most : Nat} (hb : b.length ≤ 1000000) (ha : a ≤ b.length) (hm : most < 9223372036854775808) : octets_Reader_Number ⟨b, a, 0⟩ most = some (((rdN b a most).1 : Int), ⟨b, ((rdN b a most).2.1 : Int), (rdN b a most).2.2⟩) := by
  simp only [octets_Reader_Number]
  have := octNum_l hb hm (b.drop a) a 0 true rfl ha (fun _ => ⟨rfl, rfl⟩) (fun h => by cases h) (by omega)
  rw [show ((0 : Nat) : Int) = 0 from rfl] at this
  rw [this]
  unfold rdN
  cases rd7 most (b.drop a) true 0 with
  | inl e => rfl
  | inr p => rfl
theorem refNum_eq {b : List (BitVec 8)} {a most : Nat} (hb : b.length ≤ 1000000) (ha : a ≤ b.length) (hm : most < 9223372036854775808) : butteryref02_Number ⟨b, a, 0⟩ most = some (⟨b, ((rdN b a most).2.1 : Int), (rdN b a most).2.2⟩, ((rdN b a most).1 : Int)) := by
  simp only [butteryref02_Number, lt_eq]
  rw [if_neg (by simp)]
  have := refNum_l hb hm (b.drop a) a 0 true rfl ha (fun _ => ⟨rfl, rfl⟩) (fun h => by cases h) (by omega)
  rw [show ((0 : Nat) : Int) = 0 from rfl] at this
  rw [this]
  unfold rdN
  cases h : rd7 most (b.drop a) true 0 with
  | inl e =>
    rcases rd7_err h with rfl | rfl | rfl <;> rfl
  | inr p => rfl
theorem rdN_le {b : List (BitVec 8)} {a most : Nat} (ha : a ≤ b.length) : (rdN b a most).2.1 ≤ b.length ∧ a ≤ (rdN b a most).2.1 ∧ (rdN b a most).1 ≤ most ∧ ((rdN b a most).2.2 ≠ 0 → (rdN b a most).1 = 0 ∧ (rdN b a most).2.1 = a) := by
  unfold rdN
  cases h : rd7 most (b.drop a) true 0 with
  | inl e => exact ⟨ha, Nat.le_refl _, Nat.zero_le _, fun _ => ⟨rfl, rfl⟩⟩
  | inr p =>
    have := rd7_le h
    simp only [List.length_drop] at this
    exact ⟨by simp only; omega, by simp only; omega, this.1, fun h => absurd rfl h⟩
theorem rdN_off {b : List (BitVec 8)} {a : Int} {most e : Int} (he : e ≠ 0) : octets_Reader_Number ⟨b, a, e⟩ most = some (0, ⟨b, a, e⟩) := by
  simp only [octets_Reader_Number, octNum_stop _ _ _ _ _ _ he]; rfl
theorem refN_off {b : List (BitVec 8)} {a : Int} {most e : Int} (he : e ≠ 0) : butteryref02_Number ⟨b, a, e⟩ most = some (⟨b, a, e⟩, 0) := by
  simp [butteryref02_Number, lt_eq, he]
theorem left_eq {b : List (BitVec 8)} {a : Nat} {e : Int} (hb : b.length ≤ 1000000) (ha : a ≤ b.length) : octets_Reader_Left ⟨b, a, e⟩ = some ((b.length - a : Nat) : Int) := by
  simp only [octets_Reader_Left, lt_eq]
  rw [w64_eq (by omega) (by omega)]
  congr 1; omega
end Go.Proofs.Ytjaaepnejihbkaa
namespace Go.Proofs.Ytjaaepnejihbkaa
open Go Go.Va
set_option linter.unusedVariables false
set_option linter.unusedSimpArgs false
def stp (a : BitVec 64) (c : BitVec 8) : BitVec 64 := a <<< 8 ||| c.setWidth 64
def word (l : List (BitVec 8)) : BitVec 64 := l.foldl stp 0#64
theorem stp_add (a : BitVec 64) (c : BitVec 8) : a * 256#64 + c.setWidth 64 = stp a c := by
  have h1 : a * 256#64 = a <<< 8 := by
    apply BitVec.eq_of_toNat_eq
    simp [Nat.shiftLeft_eq]
  have h2 : a <<< 8 &&& c.setWidth 64 = 0#64 := by
    apply BitVec.eq_of_getLsbD_eq
    intro i hi
    simp only [BitVec.getLsbD_and, BitVec.getLsbD_shiftLeft, BitVec.getLsbD_setWidth, BitVec.getLsbD_zero]
    by_cases h : i < 8
    · simp [h]
    · rw [BitVec.getLsbD_of_ge c i (by omega)]; simp
  rw [h1, BitVec.add_eq_or_of_and_eq_zero _ _ h2]; rfl
theorem word_wd (n : BitVec 64) : ∀ i, i ≤ 8 → word (wd n i) = n >>> (64 - 8 * i)
  | 0, _ => by
    apply BitVec.eq_of_getLsbD_eq
    intro j hj
    rw [BitVec.getLsbD_ushiftRight, BitVec.getLsbD_of_ge n _ (by omega)]; simp [word, wd]
  | i + 1, h => by
    rw [wd_succ, word, List.foldl_append]
    have ih := word_wd n i (by omega)
    rw [word] at ih
    rw [ih]
    simp only [List.foldl_cons, List.foldl_nil, stp]
    apply BitVec.eq_of_getLsbD_eq
    intro j hj
    simp only [BitVec.getLsbD_or, BitVec.getLsbD_shiftLeft, BitVec.getLsbD_ushiftRight, BitVec.getLsbD_setWidth]
    by_cases h8 : j < 8
    · simp [h8, hj, show 64 - 8 * (i + 1) = 56 - 8 * i by omega]
    · simp only [h8, hj, decide_true, decide_false, Bool.not_false, Bool.and_true, Bool.true_and, Bool.false_and, Bool.and_false, Bool.or_false]
      congr 1; omega
theorem word_full (n : BitVec 64) : word (wd n 8) = n := by
  rw [word_wd n 8 (by omega)]; simp
/-- Eight bytes. -/
def cut8 (b : List (BitVec 8)) (a : Nat) : List (BitVec 8) := (b.take (a + 8)).drop a
theorem cut8_len {b : List (BitVec 8)} {a : Nat} (h : a + 8 ≤ b.length) : (cut8 b a).length = 8 := by simp [cut8]; omega
theorem octWord_l (l : List (BitVec 8)) (hl : l.length < 9223372036854775807) : octets_Reader_Word_l0 l (l.length : Int) (0#64, 0) = some (word l) :=
  loopO_foldl l stp id (body := fun s => octets_Reader_Word_b0 l (l.length : Int) s.1 s.2) (fun s i hi => by
    simp only [octets_Reader_Word_b0, lt_eq, ix_nat hi, Option.bind_some, w64_nat (show i < 9223372036854775807 by omega)]
    rw [if_pos (by simpa using hi)]; rfl) (fun s => by simp [octets_Reader_Word_b0, lt_eq]) 0#64
theorem octWordR_eq {b : List (BitVec 8)} {a : Nat} (hb : b.length ≤ 1000000) (ha : a ≤ b.length) : octets_Reader_Word ⟨b, a, 0⟩ = some (if a + 8 ≤ b.length then (word (cut8 b a), ⟨b, ((a + 8 : Nat) : Int), 0⟩) else (0#64, ⟨b, a, 6⟩)) := by
  simp only [octets_Reader_Word, lt_eq]
  rw [if_pos (by rfl), left_eq hb ha]
  simp only [Option.bind_some]
  by_cases h : a + 8 ≤ b.length
  · rw [if_pos h, if_neg (by rw [decide_eq_false (by omega)]; simp)]
    simp only [Option.bind_some]
    rw [if_neg (by simp), w64_eq (by omega) (by omega), show (a : Int) + 8 = ((a + 8 : Nat) : Int) by omega, cutO_eq (by omega) h]
    have := octWord_l (cut8 b a) (by rw [cut8_len h]; omega)
    unfold cut8 at this
    simp only [Option.bind_some, this]
    rfl
  · rw [if_neg h, if_pos (decide_eq_true (by omega)), fail_eq]
    rfl
theorem octWordR_off {b : List (BitVec 8)} {a e : Int} (he : e ≠ 0) : octets_Reader_Word ⟨b, a, e⟩ = some (0#64, ⟨b, a, e⟩) := by
  simp [octets_Reader_Word, lt_eq, he]
theorem eight_eq {b : List (BitVec 8)} {a : Nat} (hb : b.length ≤ 1000000) (ha : a ≤ b.length) : butteryref02_Eight ⟨b, a, 0⟩ = some (if a + 8 ≤ b.length then (⟨b, ((a + 8 : Nat) : Int), 0⟩, word (cut8 b a)) else (⟨b, a, 6⟩, 0#64)) := by
  simp only [butteryref02_Eight, lt_eq]
  rw [if_neg (by simp), w64_eq (by omega) (by omega)]
  by_cases h : a + 8 ≤ b.length
  · rw [if_pos h, if_neg (by rw [decide_eq_false (by omega)]; simp)]
    have hl := cut8_len h
    have k := loopO_foldl (cut8 b a) stp id (body := fun s => butteryref02_Eight_b0 ⟨b, a, 0⟩ s.1 s.2) (fun s i hi => by
      have hi8 : i < 8 := by omega
      have e1 : w64 ((a : Int) + (i : Int)) = ((a + i : Nat) : Int) := by rw [w64_eq (by omega) (by omega)]; omega
      simp only [butteryref02_Eight_b0, lt_eq, e1, ix_nat (show a + i < b.length by omega), Option.bind_some, w64_nat (show i < 9223372036854775807 by omega)]
      rw [if_pos (decide_eq_true (by omega)), stp_add]
      have : (cut8 b a)[i] = b[a + i] := by simp [cut8]
      rw [this]) (fun s => by rw [hl]; simp [butteryref02_Eight_b0, lt_eq]) 0#64
    simp only [butteryref02_Eight_l0, k, Option.bind_some]
    rw [w64_eq (n := (a : Int) + 8) (by omega) (by omega), show (a : Int) + 8 = ((a + 8 : Nat) : Int) by omega]
    rfl
  · rw [if_neg h, if_pos (decide_eq_true (by omega)), rfail_eq]
    rfl
theorem eight_off {b : List (BitVec 8)} {a e : Int} (he : e ≠ 0) : butteryref02_Eight ⟨b, a, e⟩ = some (⟨b, a, e⟩, 0#64) := by
  simp [butteryref02_Eight, lt_eq, he]
/-- What bytes are read: they, where the reader stands then, what is wrong. -/
def rdB (b : List (BitVec 8)) (a most : Nat) : List (BitVec 8) × Nat × Int :=
  if (rdN b a most).2.2 ≠ 0 then ([], (rdN b a most).2.1, (rdN b a most).2.2) else
  if b.length < (rdN b a most).2.1 + (rdN b a most).1 then ([], a, 6) else ((b.take ((rdN b a most).2.1 + (rdN b a most).1)).drop (rdN b a most).2.1, (rdN b a most).2.1 + (rdN b a most).1, 0)
theorem octBytesR_eq {b : List (BitVec 8)} {a most : Nat} (hb : b.length ≤ 1000000) (ha : a ≤ b.length) (hm : most < 9223372036854775808) : octets_Reader_Bytes ⟨b, a, 0⟩ most = some ((rdB b a most).1, ⟨b, ((rdB b a most).2.1 : Int), (rdB b a most).2.2⟩) := by
  simp only [octets_Reader_Bytes, octNum_eq hb ha hm, Option.bind_some, lt_eq]
  obtain ⟨h1, h2, h3, h4⟩ := rdN_le (most := most) ha
  unfold rdB
  generalize rdN b a most = z at *
  obtain ⟨n, p, e⟩ := z
  simp only at *
  by_cases he : e = 0
  · subst he
    rw [if_neg (by simp), if_neg (by simp), left_eq hb h1]
    simp only [Option.bind_some]
    by_cases hc : b.length < p + n
    · rw [if_pos hc, if_pos (decide_eq_true (by omega)), fail_eq]; rfl
    · rw [if_neg hc, if_neg (by rw [decide_eq_false (by omega)]; simp), w64_eq (by omega) (by omega), show (p : Int) + (n : Int) = ((p + n : Nat) : Int) by omega, cutO_eq (by omega) (by omega)]
      simp only [Option.bind_some]
      rw [app_eq (by simp; omega)]; rfl
  · rw [if_pos (by simpa using he), if_pos he]
theorem octBytesR_off {b : List (BitVec 8)} {a e most : Int} (he : e ≠ 0) : octets_Reader_Bytes ⟨b, a, e⟩ most = some ([], ⟨b, a, e⟩) := by
  simp [octets_Reader_Bytes, rdN_off he, lt_eq, he]
theorem text_eq {b : List (BitVec 8)} {a most : Nat} (hb : b.length ≤ 1000000) (ha : a ≤ b.length) (hm : most < 9223372036854775808) : butteryref02_Text ⟨b, a, 0⟩ most = some (⟨b, ((rdB b a most).2.1 : Int), (rdB b a most).2.2⟩, (rdB b a most).1) := by
  simp only [butteryref02_Text, refNum_eq hb ha hm, Option.bind_some, lt_eq]
  obtain ⟨h1, h2, h3, h4⟩ := rdN_le (most := most) ha
  unfold rdB
  generalize rdN b a most = z at *
  obtain ⟨n, p, e⟩ := z
  simp only at *
  by_cases he : e = 0
  · subst he
    rw [if_neg (show ¬ (((0 : Int) != 0) = true) by simp), if_neg (show ¬ ((0 : Int) ≠ 0) by simp), w64_eq (n := (b.length : Int) - (p : Int)) (by omega) (by omega)]
    by_cases hc : b.length < p + n
    · rw [if_pos hc, if_pos (decide_eq_true (by omega)), rfail_eq]; rfl
    · rw [if_neg hc, if_neg (by rw [decide_eq_false (by omega)]; simp), w64_eq (by omega) (by omega), show (p : Int) + (n : Int) = ((p + n : Nat) : Int) by omega, cutO_eq (by omega) (by omega)]
      simp only [Option.bind_some]
      rw [app_eq (by simp; omega)]; rfl
  · rw [if_pos (by simpa using he), if_pos he]
theorem text_off {b : List (BitVec 8)} {a e most : Int} (he : e ≠ 0) : butteryref02_Text ⟨b, a, e⟩ most = some (⟨b, a, e⟩, []) := by
  simp [butteryref02_Text, refN_off he, lt_eq, he]
theorem rdB_le {b : List (BitVec 8)} {a most : Nat} (ha : a ≤ b.length) : (rdB b a most).2.1 ≤ b.length ∧ a ≤ (rdB b a most).2.1 ∧ (rdB b a most).1.length ≤ b.length := by
  obtain ⟨h1, h2, h3, h4⟩ := rdN_le (most := most) ha
  unfold rdB
  generalize rdN b a most = z at *
  obtain ⟨n, p, e⟩ := z
  simp only at *
  split
  · exact ⟨h1, h2, by simp⟩
  · split
    · exact ⟨ha, Nat.le_refl _, by simp⟩
    · exact ⟨by simp only; omega, by simp only; omega, by simp; omega⟩
theorem end_eq {b : List (BitVec 8)} {a : Nat} {e : Int} (hb : b.length ≤ 1000000) (ha : a ≤ b.length) : octets_Reader_End ⟨b, a, e⟩ = some (if e = 0 ∧ a < b.length then 5 else e, ⟨b, a, if e = 0 ∧ a < b.length then 5 else e⟩) := by
  simp only [octets_Reader_End, left_eq hb ha, Option.bind_some, lt_eq]
  by_cases h : a < b.length
  · rw [if_pos (decide_eq_true (by omega))]
    by_cases he : e = 0
    · subst he; rw [fail_eq]; simp [h]
    · simp [octets_Reader_Fail, lt_eq, he]
  · rw [if_neg (by rw [decide_eq_false (by omega)]; simp)]; simp [h]
theorem rend_eq {b : List (BitVec 8)} {a : Nat} {e : Int} : butteryref02_End ⟨b, a, e⟩ = some (if e = 0 ∧ a < b.length then 5 else e) := by
  simp only [butteryref02_End, lt_eq]
  by_cases he : e = 0
  · subst he
    rw [if_pos (by rfl)]
    by_cases h : a < b.length
    · simp [h]
    · simp [h]
  · simp [he]
theorem read_eq {b : List (BitVec 8)} (hb : b.length ≤ 1000000) : octets_Read b = some ⟨b, 0, 0⟩ := by
  simp only [octets_Read, lt_eq]
  rw [app_eq (by simp; omega)]; rfl
theorem works02 : butterylaw02_works = some true := by
  have n1 : num7 300 = [130#8, 44#8] := by rw [num7, pre_pos (by decide), pre_zero]; rfl
  have n2 : num7 5 = [5#8] := by rw [num7_small (by decide)]
  have n3 : num7 2 = [2#8] := by rw [num7_small (by decide)]
  have p1 : octets_Put [] [(300 : Int), 5] = some [130#8, 44#8, 5#8] := by
    rw [octPut_eq [] (by simp) ⟨by simp, by simp⟩]
    simp [nums, n1, n2]
  have p2 : octets_Bytes [130#8, 44#8, 5#8] [97#8, 98#8] = some [130#8, 44#8, 5#8, 2#8, 97#8, 98#8] := by
    rw [octBytes_eq _ _ (by simp) (by simp)]
    simp [n3]
  have r1 : octets_Reader_Number ⟨[130#8, 44#8, 5#8, 2#8, 97#8, 98#8], 0, 0⟩ 1000 = some (300, ⟨[130#8, 44#8, 5#8, 2#8, 97#8, 98#8], 2, 0⟩) := by
    have := octNum_eq (b := [130#8, 44#8, 5#8, 2#8, 97#8, 98#8]) (a := 0) (most := 1000) (by simp) (by simp) (by omega)
    exact this
  have r2 : octets_Reader_Number ⟨[130#8, 44#8, 5#8, 2#8, 97#8, 98#8], 2, 0⟩ 9 = some (5, ⟨[130#8, 44#8, 5#8, 2#8, 97#8, 98#8], 3, 0⟩) := by
    have := octNum_eq (b := [130#8, 44#8, 5#8, 2#8, 97#8, 98#8]) (a := 2) (most := 9) (by simp) (by simp) (by omega)
    exact this
  have r3 : octets_Reader_Bytes ⟨[130#8, 44#8, 5#8, 2#8, 97#8, 98#8], 3, 0⟩ 2 = some ([97#8, 98#8], ⟨[130#8, 44#8, 5#8, 2#8, 97#8, 98#8], 6, 0⟩) := by
    have := octBytesR_eq (b := [130#8, 44#8, 5#8, 2#8, 97#8, 98#8]) (a := 3) (most := 2) (by simp) (by simp) (by omega)
    exact this
  have r4 : octets_Reader_End ⟨[130#8, 44#8, 5#8, 2#8, 97#8, 98#8], 6, 0⟩ = some (0, ⟨[130#8, 44#8, 5#8, 2#8, 97#8, 98#8], 6, 0⟩) := by
    have := end_eq (b := [130#8, 44#8, 5#8, 2#8, 97#8, 98#8]) (a := 6) (e := 0) (by simp) (by simp)
    exact this
  have l1 : octets_Len 300 = some 2 := by
    have := octLen_eq (n := 300) (by omega)
    rw [nlen_ge (by omega), nlen_lt (by omega)] at this
    exact this
  unfold butterylaw02_works
  rw [p1, Option.bind_some, p2, Option.bind_some, read_eq (by simp), Option.bind_some]
  simp only [lt_eq]
  rw [if_neg (by simp), r1, Option.bind_some, r2, Option.bind_some, r3, Option.bind_some]
  simp only [lt_eq, ix, octWord_eq [] 1#64 (by simp), l1]
  simp [r4, lt_eq, wd_len, octets_Key]
end Go.Proofs.Ytjaaepnejihbkaa
namespace Go.Proofs.Ytjaaepnejihbkaa
open Go Go.Va
set_option linter.unusedSimpArgs false
set_option linter.unusedVariables false
def wf_runtime_boundsError (x : runtime_boundsError) : Prop := (wfI .i64) x.x ∧ (wfI .i64) x.y ∧ wfT x.signed ∧ wfT x.code
theorem opens7 : Opens Try.prog 7 e_runtime_boundsError wf_runtime_boundsError := by
  intro H enc w fuel cs x hx
  obtain ⟨xs, m, _, _, hl, hn, hx⟩ := DataW.trod_struct Try.underlying7 hx
  rw [cellsOf_sz tk sz7 (by decide)] at hl
  obtain ⟨y0, w0, r0, o0⟩ := opens_f hx hn 0 (o := 0) (s := 1) rfl (opens_i64 Try.underlying2) rfl (cellsOf_sz tk sz2 (by decide))
  obtain ⟨y1, w1, r1, o1⟩ := opens_f hx hn 1 (o := 1) (s := 1) rfl (opens_i64 Try.underlying3) rfl (cellsOf_sz tk sz3 (by decide))
  obtain ⟨y2, w2, r2, o2⟩ := opens_f hx hn 2 (o := 2) (s := 1) rfl (opens_b Try.underlying4) rfl (cellsOf_sz tk sz4 (by decide))
  obtain ⟨y3, w3, r3, o3⟩ := opens_f hx hn 3 (o := 3) (s := 1) rfl (opens_u rfl rfl Try.underlying6) rfl (cellsOf_sz tk sz6 (by decide))
  refine ⟨⟨y0, y1, y2, y3⟩, ⟨w0, w1, w2, w3⟩, ?_, ?_⟩
  · have h := (rel_piece r0 (rel_piece r1 (rel_piece r2 (rel_piece r3 (rel_end hl)))))
    rw [List.drop_zero] at h
    first | exact h | (simp only [List.append_nil, List.append_assoc] at h ⊢; exact h) | (simpa [AV.cells, e_runtime_boundsError, c_runtime_boundsError] using h)
  · have h := (one_piece o0 (one_piece o1 (one_piece o2 (one_piece o3 (one_end hl)))))
    rw [List.drop_zero] at h
    exact h
theorem opens8 : Opens Try.prog 8 e_runtime_boundsError wf_runtime_boundsError := by
  intro H enc w fuel cs x hx
  obtain ⟨xs, m, _, _, hl, hn, hx⟩ := DataW.trod_struct Try.underlying8 hx
  rw [cellsOf_sz tk sz8 (by decide)] at hl
  obtain ⟨y0, w0, r0, o0⟩ := opens_f hx hn 0 (o := 0) (s := 1) rfl (opens_i64 Try.underlying2) rfl (cellsOf_sz tk sz2 (by decide))
  obtain ⟨y1, w1, r1, o1⟩ := opens_f hx hn 1 (o := 1) (s := 1) rfl (opens_i64 Try.underlying3) rfl (cellsOf_sz tk sz3 (by decide))
  obtain ⟨y2, w2, r2, o2⟩ := opens_f hx hn 2 (o := 2) (s := 1) rfl (opens_b Try.underlying4) rfl (cellsOf_sz tk sz4 (by decide))
  obtain ⟨y3, w3, r3, o3⟩ := opens_f hx hn 3 (o := 3) (s := 1) rfl (opens_u rfl rfl Try.underlying6) rfl (cellsOf_sz tk sz6 (by decide))
  refine ⟨⟨y0, y1, y2, y3⟩, ⟨w0, w1, w2, w3⟩, ?_, ?_⟩
  · have h := (rel_piece r0 (rel_piece r1 (rel_piece r2 (rel_piece r3 (rel_end hl)))))
    rw [List.drop_zero] at h
    first | exact h | (simp only [List.append_nil, List.append_assoc] at h ⊢; exact h) | (simpa [AV.cells, e_runtime_boundsError, c_runtime_boundsError] using h)
  · have h := (one_piece o0 (one_piece o1 (one_piece o2 (one_piece o3 (one_end hl)))))
    rw [List.drop_zero] at h
    exact h
def wf_runtime_errorAddressString (x : runtime_errorAddressString) : Prop := wfS x.msg ∧ wfT x.addr
theorem opens13 : Opens Try.prog 13 e_runtime_errorAddressString wf_runtime_errorAddressString := by
  intro H enc w fuel cs x hx
  obtain ⟨xs, m, _, _, hl, hn, hx⟩ := DataW.trod_struct Try.underlying13 hx
  rw [cellsOf_sz tk sz13 (by decide)] at hl
  obtain ⟨y0, w0, r0, o0⟩ := opens_f hx hn 0 (o := 0) (s := 1) rfl (opens_s Try.underlying9) rfl (cellsOf_sz tk sz9 (by decide))
  obtain ⟨y1, w1, r1, o1⟩ := opens_f hx hn 1 (o := 1) (s := 1) rfl (opens_u rfl rfl Try.underlying12) rfl (cellsOf_sz tk sz12 (by decide))
  refine ⟨⟨y0, y1⟩, ⟨w0, w1⟩, ?_, ?_⟩
  · have h := (rel_piece r0 (rel_piece r1 (rel_end hl)))
    rw [List.drop_zero] at h
    first | exact h | (simp only [List.append_nil, List.append_assoc] at h ⊢; exact h) | (simpa [AV.cells, e_runtime_errorAddressString, c_runtime_errorAddressString] using h)
  · have h := (one_piece o0 (one_piece o1 (one_end hl)))
    rw [List.drop_zero] at h
    exact h
theorem opens14 : Opens Try.prog 14 e_runtime_errorAddressString wf_runtime_errorAddressString := by
  intro H enc w fuel cs x hx
  obtain ⟨xs, m, _, _, hl, hn, hx⟩ := DataW.trod_struct Try.underlying14 hx
  rw [cellsOf_sz tk sz14 (by decide)] at hl
  obtain ⟨y0, w0, r0, o0⟩ := opens_f hx hn 0 (o := 0) (s := 1) rfl (opens_s Try.underlying9) rfl (cellsOf_sz tk sz9 (by decide))
  obtain ⟨y1, w1, r1, o1⟩ := opens_f hx hn 1 (o := 1) (s := 1) rfl (opens_u rfl rfl Try.underlying12) rfl (cellsOf_sz tk sz12 (by decide))
  refine ⟨⟨y0, y1⟩, ⟨w0, w1⟩, ?_, ?_⟩
  · have h := (rel_piece r0 (rel_piece r1 (rel_end hl)))
    rw [List.drop_zero] at h
    first | exact h | (simp only [List.append_nil, List.append_assoc] at h ⊢; exact h) | (simpa [AV.cells, e_runtime_errorAddressString, c_runtime_errorAddressString] using h)
  · have h := (one_piece o0 (one_piece o1 (one_end hl)))
    rw [List.drop_zero] at h
    exact h
def wf_butteryref02_Reader (x : butteryref02_Reader) : Prop := (wfL wfT) x.B ∧ (wfI .i64) x.At ∧ (wfI .i64) x.Code
theorem opens45 : Opens Try.prog 45 e_butteryref02_Reader wf_butteryref02_Reader := by
  intro H enc w fuel cs x hx
  obtain ⟨xs, m, _, _, hl, hn, hx⟩ := DataW.trod_struct Try.underlying45 hx
  rw [cellsOf_sz tk sz45 (by decide)] at hl
  obtain ⟨y0, w0, r0, o0⟩ := opens_f hx hn 0 (o := 0) (s := 1) rfl (opens_l tk Try.underlying22 (enc_u td5 sz5) (opens_u rfl rfl Try.underlying5)) rfl (cellsOf_sz tk sz22 (by decide))
  obtain ⟨y1, w1, r1, o1⟩ := opens_f hx hn 1 (o := 1) (s := 1) rfl (opens_i64 Try.underlying3) rfl (cellsOf_sz tk sz3 (by decide))
  obtain ⟨y2, w2, r2, o2⟩ := opens_f hx hn 2 (o := 2) (s := 1) rfl (opens_i64 Try.underlying33) rfl (cellsOf_sz tk sz33 (by decide))
  refine ⟨⟨y0, y1, y2⟩, ⟨w0, w1, w2⟩, ?_, ?_⟩
  · have h := (rel_piece r0 (rel_piece r1 (rel_piece r2 (rel_end hl))))
    rw [List.drop_zero] at h
    first | exact h | (simp only [List.append_nil, List.append_assoc] at h ⊢; exact h) | (simpa [AV.cells, e_butteryref02_Reader, c_butteryref02_Reader] using h)
  · have h := (one_piece o0 (one_piece o1 (one_piece o2 (one_end hl))))
    rw [List.drop_zero] at h
    exact h
theorem opens46 : Opens Try.prog 46 e_butteryref02_Reader wf_butteryref02_Reader := by
  intro H enc w fuel cs x hx
  obtain ⟨xs, m, _, _, hl, hn, hx⟩ := DataW.trod_struct Try.underlying46 hx
  rw [cellsOf_sz tk sz46 (by decide)] at hl
  obtain ⟨y0, w0, r0, o0⟩ := opens_f hx hn 0 (o := 0) (s := 1) rfl (opens_l tk Try.underlying22 (enc_u td5 sz5) (opens_u rfl rfl Try.underlying5)) rfl (cellsOf_sz tk sz22 (by decide))
  obtain ⟨y1, w1, r1, o1⟩ := opens_f hx hn 1 (o := 1) (s := 1) rfl (opens_i64 Try.underlying3) rfl (cellsOf_sz tk sz3 (by decide))
  obtain ⟨y2, w2, r2, o2⟩ := opens_f hx hn 2 (o := 2) (s := 1) rfl (opens_i64 Try.underlying33) rfl (cellsOf_sz tk sz33 (by decide))
  refine ⟨⟨y0, y1, y2⟩, ⟨w0, w1, w2⟩, ?_, ?_⟩
  · have h := (rel_piece r0 (rel_piece r1 (rel_piece r2 (rel_end hl))))
    rw [List.drop_zero] at h
    first | exact h | (simp only [List.append_nil, List.append_assoc] at h ⊢; exact h) | (simpa [AV.cells, e_butteryref02_Reader, c_butteryref02_Reader] using h)
  · have h := (one_piece o0 (one_piece o1 (one_piece o2 (one_end hl))))
    rw [List.drop_zero] at h
    exact h
def wf_butterylaw02_Ask (x : butterylaw02_Ask) : Prop := (wfI .i64) x.Kind ∧ (wfI .i64) x.N
theorem opens47 : Opens Try.prog 47 e_butterylaw02_Ask wf_butterylaw02_Ask := by
  intro H enc w fuel cs x hx
  obtain ⟨xs, m, _, _, hl, hn, hx⟩ := DataW.trod_struct Try.underlying47 hx
  rw [cellsOf_sz tk sz47 (by decide)] at hl
  obtain ⟨y0, w0, r0, o0⟩ := opens_f hx hn 0 (o := 0) (s := 1) rfl (opens_i64 Try.underlying3) rfl (cellsOf_sz tk sz3 (by decide))
  obtain ⟨y1, w1, r1, o1⟩ := opens_f hx hn 1 (o := 1) (s := 1) rfl (opens_i64 Try.underlying3) rfl (cellsOf_sz tk sz3 (by decide))
  refine ⟨⟨y0, y1⟩, ⟨w0, w1⟩, ?_, ?_⟩
  · have h := (rel_piece r0 (rel_piece r1 (rel_end hl)))
    rw [List.drop_zero] at h
    first | exact h | (simp only [List.append_nil, List.append_assoc] at h ⊢; exact h) | (simpa [AV.cells, e_butterylaw02_Ask, c_butterylaw02_Ask] using h)
  · have h := (one_piece o0 (one_piece o1 (one_end hl)))
    rw [List.drop_zero] at h
    exact h
theorem opens48 : Opens Try.prog 48 e_butterylaw02_Ask wf_butterylaw02_Ask := by
  intro H enc w fuel cs x hx
  obtain ⟨xs, m, _, _, hl, hn, hx⟩ := DataW.trod_struct Try.underlying48 hx
  rw [cellsOf_sz tk sz48 (by decide)] at hl
  obtain ⟨y0, w0, r0, o0⟩ := opens_f hx hn 0 (o := 0) (s := 1) rfl (opens_i64 Try.underlying3) rfl (cellsOf_sz tk sz3 (by decide))
  obtain ⟨y1, w1, r1, o1⟩ := opens_f hx hn 1 (o := 1) (s := 1) rfl (opens_i64 Try.underlying3) rfl (cellsOf_sz tk sz3 (by decide))
  refine ⟨⟨y0, y1⟩, ⟨w0, w1⟩, ?_, ?_⟩
  · have h := (rel_piece r0 (rel_piece r1 (rel_end hl)))
    rw [List.drop_zero] at h
    first | exact h | (simp only [List.append_nil, List.append_assoc] at h ⊢; exact h) | (simpa [AV.cells, e_butterylaw02_Ask, c_butterylaw02_Ask] using h)
  · have h := (one_piece o0 (one_piece o1 (one_end hl)))
    rw [List.drop_zero] at h
    exact h
def wf_octets_Reader (x : octets_Reader) : Prop := (wfL wfT) x.b ∧ (wfI .i64) x.at_ ∧ (wfI .i64) x.code
theorem opens59 : Opens Try.prog 59 e_octets_Reader wf_octets_Reader := by
  intro H enc w fuel cs x hx
  obtain ⟨xs, m, _, _, hl, hn, hx⟩ := DataW.trod_struct Try.underlying59 hx
  rw [cellsOf_sz tk sz59 (by decide)] at hl
  obtain ⟨y0, w0, r0, o0⟩ := opens_f hx hn 0 (o := 0) (s := 1) rfl (opens_l tk Try.underlying22 (enc_u td5 sz5) (opens_u rfl rfl Try.underlying5)) rfl (cellsOf_sz tk sz22 (by decide))
  obtain ⟨y1, w1, r1, o1⟩ := opens_f hx hn 1 (o := 1) (s := 1) rfl (opens_i64 Try.underlying3) rfl (cellsOf_sz tk sz3 (by decide))
  obtain ⟨y2, w2, r2, o2⟩ := opens_f hx hn 2 (o := 2) (s := 1) rfl (opens_i64 Try.underlying33) rfl (cellsOf_sz tk sz33 (by decide))
  refine ⟨⟨y0, y1, y2⟩, ⟨w0, w1, w2⟩, ?_, ?_⟩
  · have h := (rel_piece r0 (rel_piece r1 (rel_piece r2 (rel_end hl))))
    rw [List.drop_zero] at h
    first | exact h | (simp only [List.append_nil, List.append_assoc] at h ⊢; exact h) | (simpa [AV.cells, e_octets_Reader, c_octets_Reader] using h)
  · have h := (one_piece o0 (one_piece o1 (one_piece o2 (one_end hl))))
    rw [List.drop_zero] at h
    exact h
theorem opens60 : Opens Try.prog 60 e_octets_Reader wf_octets_Reader := by
  intro H enc w fuel cs x hx
  obtain ⟨xs, m, _, _, hl, hn, hx⟩ := DataW.trod_struct Try.underlying60 hx
  rw [cellsOf_sz tk sz60 (by decide)] at hl
  obtain ⟨y0, w0, r0, o0⟩ := opens_f hx hn 0 (o := 0) (s := 1) rfl (opens_l tk Try.underlying22 (enc_u td5 sz5) (opens_u rfl rfl Try.underlying5)) rfl (cellsOf_sz tk sz22 (by decide))
  obtain ⟨y1, w1, r1, o1⟩ := opens_f hx hn 1 (o := 1) (s := 1) rfl (opens_i64 Try.underlying3) rfl (cellsOf_sz tk sz3 (by decide))
  obtain ⟨y2, w2, r2, o2⟩ := opens_f hx hn 2 (o := 2) (s := 1) rfl (opens_i64 Try.underlying33) rfl (cellsOf_sz tk sz33 (by decide))
  refine ⟨⟨y0, y1, y2⟩, ⟨w0, w1, w2⟩, ?_, ?_⟩
  · have h := (rel_piece r0 (rel_piece r1 (rel_piece r2 (rel_end hl))))
    rw [List.drop_zero] at h
    first | exact h | (simp only [List.append_nil, List.append_assoc] at h ⊢; exact h) | (simpa [AV.cells, e_octets_Reader, c_octets_Reader] using h)
  · have h := (one_piece o0 (one_piece o1 (one_piece o2 (one_end hl))))
    rw [List.drop_zero] at h
    exact h
end Go.Proofs.Ytjaaepnejihbkaa
namespace Go.Proofs.Ytjaaepnejihbkaa
open Go Go.Va
set_option linter.unusedVariables false
set_option linter.unusedSimpArgs false
/-- What a reader is, and the program's reader beside it. -/
structure rdr where
  a : Nat
  e : Int
def rdr.x (r : rdr) (b : List (BitVec 8)) : butteryref02_Reader := ⟨b, r.a, r.e⟩
def rdr.o (r : rdr) (b : List (BitVec 8)) : octets_Reader := ⟨b, r.a, r.e⟩
theorem num_both {b : List (BitVec 8)} (hb : b.length ≤ 1000000) (r : rdr) (hr : r.a ≤ b.length) {m : Int} (h0 : 0 ≤ m) (h1 : m ≤ 9223372036854775807) : ∃ (s : rdr) (n : Int), s.a ≤ b.length ∧ butteryref02_Number (r.x b) m = some (s.x b, n) ∧ octets_Reader_Number (r.o b) m = some (n, s.o b) := by
  obtain ⟨m, rfl⟩ : ∃ n : Nat, m = (n : Int) := ⟨m.toNat, by omega⟩
  obtain ⟨a, e⟩ := r
  by_cases he : e = 0
  · subst he
    exact ⟨⟨(rdN b a m).2.1, (rdN b a m).2.2⟩, _, (rdN_le hr).1, refNum_eq hb hr (by omega), octNum_eq hb hr (by omega)⟩
  · exact ⟨⟨a, e⟩, 0, hr, refN_off he, rdN_off he⟩
theorem text_both {b : List (BitVec 8)} (hb : b.length ≤ 1000000) (r : rdr) (hr : r.a ≤ b.length) {m : Int} (h0 : 0 ≤ m) (h1 : m ≤ 9223372036854775807) : ∃ (s : rdr) (n : List (BitVec 8)), s.a ≤ b.length ∧ n.length ≤ b.length ∧ butteryref02_Text (r.x b) m = some (s.x b, n) ∧ octets_Reader_Bytes (r.o b) m = some (n, s.o b) := by
  obtain ⟨m, rfl⟩ : ∃ n : Nat, m = (n : Int) := ⟨m.toNat, by omega⟩
  obtain ⟨a, e⟩ := r
  by_cases he : e = 0
  · subst he
    exact ⟨⟨(rdB b a m).2.1, (rdB b a m).2.2⟩, _, (rdB_le hr).1, (rdB_le hr).2.2, text_eq hb hr (by omega), octBytesR_eq hb hr (by omega)⟩
  · exact ⟨⟨a, e⟩, [], hr, by simp, text_off he, octBytesR_off he⟩
theorem word_both {b : List (BitVec 8)} (hb : b.length ≤ 1000000) (r : rdr) (hr : r.a ≤ b.length) : ∃ (s : rdr) (n : BitVec 64), s.a ≤ b.length ∧ butteryref02_Eight (r.x b) = some (s.x b, n) ∧ octets_Reader_Word (r.o b) = some (n, s.o b) := by
  obtain ⟨a, e⟩ := r
  by_cases he : e = 0
  · subst he
    by_cases h : a + 8 ≤ b.length
    · exact ⟨⟨a + 8, 0⟩, _, h, by rw [rdr.x, eight_eq hb hr, if_pos h]; rfl, by rw [rdr.o, octWordR_eq hb hr, if_pos h]; rfl⟩
    · exact ⟨⟨a, 6⟩, _, hr, by rw [rdr.x, eight_eq hb hr, if_neg h]; rfl, by rw [rdr.o, octWordR_eq hb hr, if_neg h]; rfl⟩
  · exact ⟨⟨a, e⟩, _, hr, eight_off he, octWordR_off he⟩
theorem OctetsReads_b0 {b : List (BitVec 8)} (hb : b.length ≤ 1000) {l : List butterylaw02_Ask} (hl : l.length ≤ 50) (hw : ∀ q ∈ l, q.N ≤ 9223372036854775807) (r : rdr) (hr : r.a ≤ b.length) (i : Nat) :
    (∃ s : rdr, s.a ≤ b.length ∧ i < l.length ∧ butterylaw02_OctetsReads_b0 b l (i : Int) (r.x b) (r.o b) = some (.inl (((i + 1 : Nat) : Int), s.x b, s.o b))) ∨ butterylaw02_OctetsReads_b0 b l (i : Int) (r.x b) (r.o b) = some (.inr (.inr true)) ∨ butterylaw02_OctetsReads_b0 b l (i : Int) (r.x b) (r.o b) = some (.inr (.inl (r.x b, r.o b))) := by
  simp only [butterylaw02_OctetsReads_b0, lt_eq]
  by_cases hi : i < l.length
  · rw [if_pos (decide_eq_true (by omega)), ix_nat hi]
    simp only [Option.bind_some]
    have hq := hw _ (List.getElem_mem hi)
    generalize l[i] = q at *
    obtain ⟨k, m⟩ := q
    simp only at *
    by_cases h0 : m < 0
    · rw [if_pos (decide_eq_true h0), works02]; exact .inr (.inl rfl)
    rw [if_neg (by rw [decide_eq_false h0]; simp)]
    left
    have fin : ∀ s : rdr, s.a ≤ b.length → (octets_Reader_Code (s.o b)).bind (fun v159 => if (v159 != (s.x b).Code) = true then some true else (octets_Reader_At (s.o b)).bind fun v164 => if (v164 != (s.x b).At) = true then some true else (octets_Reader_Left (s.o b)).bind fun v169 => some (v169 != w64 ((b.length : Int) - (s.x b).At))) = some false := by
      intro s hs
      simp only [octets_Reader_Code, octets_Reader_At, rdr.o, rdr.x, Option.bind_some, bne_self_eq_false, left_eq (show b.length ≤ 1000000 by omega) hs]
      rw [w64_eq (by omega) (by omega)]
      simp; omega
    have e1 : w64 ((i : Int) + 1) = ((i + 1 : Nat) : Int) := w64_nat (by omega)
    obtain ⟨sN, nN, a1, a2, a3⟩ := num_both (show b.length ≤ 1000000 by omega) r hr (by omega) hq
    obtain ⟨sT, nT, t1, t0, t2, t3⟩ := text_both (show b.length ≤ 1000000 by omega) r hr (by omega) hq
    obtain ⟨sW, nW, w1, w2, w3⟩ := word_both (show b.length ≤ 1000000 by omega) r hr
    by_cases k0 : k = 0
    · refine ⟨sN, a1, hi, ?_⟩
      rw [if_pos (by simp [k0])]
      simp only [a2, a3, Option.bind_some, bne_self_eq_false]
      rw [if_neg (by simp)]
      simp only [Option.bind_some, Sum.elim_inl, fin sN a1, e1]
      rfl
    rw [if_neg (by simpa using k0)]
    by_cases k1 : k = 1
    · refine ⟨sT, t1, hi, ?_⟩
      rw [if_pos (by simp [k1])]
      simp only [t2, t3, Option.bind_some, same_eq nT nT (by omega), decide_true, Bool.not_true]
      rw [if_neg (by simp)]
      simp only [Option.bind_some, Sum.elim_inl, fin sT t1, e1]
      rfl
    rw [if_neg (by simpa using k1)]
    by_cases k2 : k = 2
    · refine ⟨sW, w1, hi, ?_⟩
      rw [if_pos (by simp [k2])]
      simp only [w2, w3, Option.bind_some, bne_self_eq_false]
      rw [if_neg (by simp)]
      simp only [Option.bind_some, Sum.elim_inl, fin sW w1, e1]
      rfl
    rw [if_neg (by simpa using k2)]
    by_cases k3 : k = 3
    · rw [if_pos (by simp [k3])]
      by_cases hc : r.e = 0 ∧ Int.tmod m 7 = 0
      · refine ⟨⟨r.a, 12⟩, hr, hi, ?_⟩
        have e2 : (if ((r.x b).Code == 0) = true then some (Int.tmod m 7 == 0) else some false) = some true := by
          rw [if_pos (by simp [rdr.x, hc.1])]; simp [hc.2]
        have e3 : octets_Reader_Fail (r.o b) 12 = some (rdr.o ⟨r.a, 12⟩ b) := by rw [rdr.o, hc.1]; rfl
        have e4 : ({ (r.x b) with Code := 12 } : butteryref02_Reader) = rdr.x ⟨r.a, 12⟩ b := rfl
        simp only [e2, e3, e4, Option.bind_some, if_true, Sum.elim_inl, fin ⟨r.a, 12⟩ hr, e1]
        rfl
      · refine ⟨r, hr, hi, ?_⟩
        have e2 : (if ((r.x b).Code == 0) = true then some (Int.tmod m 7 == 0) else some false) = some false := by
          by_cases h : r.e = 0
          · rw [if_pos (by simp [rdr.x, h])]; simp; exact fun h2 => hc ⟨h, h2⟩
          · rw [if_neg (by simp [rdr.x, h])]
        simp only [e2, Option.bind_some]
        rw [if_neg (by simp)]
        simp only [Option.bind_some, Sum.elim_inl, fin r hr, e1]
        rfl
    · rw [if_neg (by simpa using k3)]
      refine ⟨r, hr, hi, ?_⟩
      simp only [Option.bind_some, Sum.elim_inl, fin r hr, e1]
      rfl
  · rw [if_neg (by rw [decide_eq_false (by omega)]; simp)]
    exact .inr (.inr rfl)
theorem OctetsReads_pure (b : List (BitVec 8)) (l : List butterylaw02_Ask) (_ : wfL wfT b) (hl : wfL wf_butterylaw02_Ask l) : butterylaw02_OctetsReads b l = some true := by
  have hw : ∀ q ∈ l, q.N ≤ 9223372036854775807 := fun q hq => ((hl.2 q hq).2).2
  unfold butterylaw02_OctetsReads
  simp only [lt_eq]
  by_cases hb : b.length > 1000
  · rw [if_pos (decide_eq_true (by omega))]; simp [works02]
  rw [if_neg (by rw [decide_eq_false (by omega)]; simp)]
  by_cases h0 : l.length > 50
  · rw [decide_eq_true (by omega)]; simp [works02]
  rw [decide_eq_false (by omega)]
  simp only [Option.bind_some]
  rw [if_neg (by simp), read_eq (by omega)]
  simp only [Option.bind_some]
  have key := loopO_inv (body := fun s => butterylaw02_OctetsReads_b0 b l s.1 s.2.1 s.2.2) (fun s => ∃ (i : Nat) (r : rdr), r.a ≤ b.length ∧ s = ((i : Int), r.x b, r.o b)) (fun s => l.length - s.1.toNat) (fun x => x = .inr true ∨ ∃ r : rdr, r.a ≤ b.length ∧ x = .inl (r.x b, r.o b)) (fun s => by
    rintro ⟨i, r, hr, rfl⟩
    rcases OctetsReads_b0 (show b.length ≤ 1000 by omega) (show l.length ≤ 50 by omega) hw r hr i with ⟨s, h1, h2, h3⟩ | h | h
    · exact .inl ⟨_, h3, ⟨i + 1, s, h1, rfl⟩, by simp only [Int.toNat_natCast]; omega⟩
    · exact .inr ⟨_, h, .inl rfl⟩
    · exact .inr ⟨_, h, .inr ⟨r, hr, rfl⟩⟩) (s := ((0 : Int), rdr.x ⟨0, 0⟩ b, rdr.o ⟨0, 0⟩ b)) ⟨0, ⟨0, 0⟩, Nat.zero_le _, rfl⟩
  obtain ⟨x, h1, h2⟩ := key
  have h1' : butterylaw02_OctetsReads_l0 b l ((0 : Int), (⟨b, 0, 0⟩ : butteryref02_Reader), (⟨b, 0, 0⟩ : octets_Reader)) = some x := h1
  rw [h1']
  simp only [Option.bind_some]
  rcases h2 with rfl | ⟨r, hr, rfl⟩
  · rfl
  · simp only [Sum.elim_inl, rdr.x, rdr.o, end_eq (show b.length ≤ 1000000 by omega) hr, rend_eq, Option.bind_some]
    rw [if_pos (by simp)]
    simp [works02]
end Go.Proofs.Ytjaaepnejihbkaa
