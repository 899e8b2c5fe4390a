/- Whatever is sent, taken, lost, doubled and spoilt, each call answers what the chapter says, and all that is on its way is what it says. (part 7 of 8) -/
import Derived.Test.YtedcgeghgbgonaaGreatDoorKLinesDoes6
import Derived.ChangeSame
import Derived.ChangeVars
import Derived.JoinedOf
import Derived.LaidHandle
import Derived.LaidLaws
import Derived.RowKit
import Derived.RowKitTokens
import Derived.Stop.Joined
import Derived.Test.YtedcgeghgbgonaaGreatDoorRows
namespace Go.Va
open Go
set_option linter.unusedVariables false
set_option linter.unusedSimpArgs false
theorem shr64_nat {n m : Nat} (h : m ≤ 64) : shr64 (n : Int) m = ((n / 2 ^ m : Nat) : Int) := by
  unfold shr64
  rw [Nat.min_eq_left h]
  have : (2 : Int) ^ m = ((2 ^ m : Nat) : Int) := by simp
  rw [this, Int.fdiv_eq_ediv_of_nonneg _ (Int.natCast_nonneg _), ← Int.natCast_ediv]
theorem quo64_nat {n m : Nat} (h : n < 9223372036854775808) : quo64 (n : Int) (m : Int) = ((n / m : Nat) : Int) := by
  unfold quo64
  have := Nat.div_le_self n m
  rw [Int.tdiv_eq_ediv_of_nonneg (Int.natCast_nonneg _), ← Int.natCast_ediv]
  generalize n / m = q at *
  exact w64_eq (by omega) (by omega)
theorem tmod_nat (n m : Nat) : Int.tmod (n : Int) (m : Int) = ((n % m : Nat) : Int) := by
  rw [Int.tmod_eq_emod_of_nonneg (Int.natCast_nonneg _)]; rfl
theorem or_low (a b : Nat) (h : b < 128) : a * 128 ||| b = a * 128 + b := by
  have := Nat.two_pow_add_eq_or_of_lt (i := 7) (b := b) (by omega) a
  rw [show 2 ^ 7 * a + b = a * 128 + b by omega, show 2 ^ 7 * a = a * 128 by omega] at this
  exact this.symm
theorem or64_nat {a b : Nat} (ha : a < 9223372036854775808) (hb : b < 9223372036854775808) : or64 (a : Int) (b : Int) = ((a ||| b : Nat) : Int) := by
  have h : a ||| b < 2 ^ 63 := Nat.or_lt_two_pow (by omega) (by omega)
  show w64 ((BitVec.ofInt 64 (a : Int) ||| BitVec.ofInt 64 (b : Int) : BitVec 64).toNat : Int) = _
  rw [BitVec.toNat_or, BitVec.toNat_ofInt, BitVec.toNat_ofInt]
  have e1 : ((a : Int) % ((2 ^ 64 : Nat) : Int)).toNat = a := by omega
  have e2 : ((b : Int) % ((2 ^ 64 : Nat) : Int)).toNat = b := by omega
  rw [e1, e2, w64_eq (by omega) (by omega)]
theorem shl64_7 {a : Nat} (ha : a < 72057594037927936) : shl64 (a : Int) 7 = ((a * 128 : Nat) : Int) := by
  unfold shl64
  rw [w64_eq] <;> simp <;> omega
theorem or64_7 {a b : Nat} (ha : a < 72057594037927936) (hb : b < 128) : or64 (shl64 (a : Int) 7) (b : Int) = ((a * 128 + b : Nat) : Int) := by
  rw [shl64_7 ha, or64_nat (by omega) (by omega), or_low a b hb]
theorem byte_and (x : BitVec 8) : (x &&& 127#8).toNat = x.toNat % 128 := by
  rw [BitVec.toNat_and, show (127#8).toNat = 2 ^ 7 - 1 from rfl, Nat.and_two_pow_sub_one_eq_mod]
theorem byte_or (x : BitVec 8) : x ||| 128#8 = BitVec.ofNat 8 (x.toNat % 128 + 128) := by
  have : ∀ y : Fin 256, (BitVec.ofFin y : BitVec 8) ||| 128#8 = BitVec.ofNat 8 ((BitVec.ofFin y : BitVec 8).toNat % 128 + 128) := by decide +kernel
  exact this x.toFin
theorem byte_and' (x : BitVec 8) : x &&& 127#8 = BitVec.ofNat 8 (x.toNat % 128) := by
  apply BitVec.eq_of_toNat_eq
  rw [byte_and]; simp
  have := x.isLt
  omega
theorem byte_int (n : Nat) : BitVec.ofInt 8 (n : Int) = BitVec.ofNat 8 n := by
  apply BitVec.eq_of_toNat_eq
  simp [BitVec.toNat_ofInt]
theorem byte_hi (n : Nat) : BitVec.ofInt 8 (n : Int) ||| 128#8 = BitVec.ofNat 8 (n % 128 + 128) := by
  rw [byte_int, byte_or]; congr 1; simp
theorem byte_lo (n : Nat) : BitVec.ofInt 8 (n : Int) &&& 127#8 = BitVec.ofNat 8 (n % 128) := by
  rw [byte_int, byte_and']; congr 1; simp
def pre (m : Nat) : List (BitVec 8) := if m = 0 then [] else pre (m / 128) ++ [BitVec.ofNat 8 (m % 128 + 128)]
termination_by m
decreasing_by omega
def num7 (n : Nat) : List (BitVec 8) := pre (n / 128) ++ [BitVec.ofNat 8 (n % 128)]
theorem pre_zero : pre 0 = [] := by rw [pre]; rfl
theorem pre_pos {m : Nat} (h : 0 < m) : pre m = pre (m / 128) ++ [BitVec.ofNat 8 (m % 128 + 128)] := by
  rw [pre, if_neg (by omega)]
theorem pre_len : ∀ (k m : Nat), m < 128 ^ k → (pre m).length ≤ k
  | 0, m, h => by
    have : m = 0 := by simpa using h
    subst this; rw [pre_zero]; simp
  | k + 1, m, h => by
    by_cases h0 : m = 0
    · subst h0; rw [pre_zero]; simp
    · rw [pre_pos (by omega)]
      have := pre_len k (m / 128) (by rw [Nat.div_lt_iff_lt_mul (by decide)]; rw [Nat.pow_succ] at h; exact h)
      simp; exact this
theorem num7_len {n : Nat} (h : n < 9223372036854775808) : (num7 n).length ≤ 9 := by
  have := pre_len 8 (n / 128) (by omega)
  simp [num7]; omega
def seq7 (n : Nat) : Nat → List (BitVec 8)
  | 0 => []
  | c + 1 => BitVec.ofNat 8 (n / 128 ^ (c + 1) % 128 + 128) :: seq7 n c
theorem seq7_snoc (n : Nat) : ∀ c, seq7 n (c + 1) = seq7 (n / 128) c ++ [BitVec.ofNat 8 (n / 128 % 128 + 128)]
  | 0 => by simp [seq7]
  | c + 1 => by
    rw [seq7, seq7_snoc n c, seq7]
    simp only [List.cons_append]
    rw [Nat.div_div_eq_div_mul, ← Nat.pow_succ']
theorem seq7_pre : ∀ (h n : Nat), n / 128 ^ h < 128 → (∀ j, j < h → 128 ≤ n / 128 ^ j) → seq7 n h = pre (n / 128)
  | 0, n, h1, h2 => by
    rw [show n / 128 = 0 by simp at h1; omega, pre_zero]; rfl
  | h + 1, n, h1, h2 => by
    have h0 := h2 0 (by omega)
    simp at h0
    rw [seq7_snoc, pre_pos (by omega), seq7_pre h (n / 128) (by rw [Nat.div_div_eq_div_mul, ← Nat.pow_succ']; exact h1) (fun j hj => by
      rw [Nat.div_div_eq_div_mul, ← Nat.pow_succ']; exact h2 (j + 1) (by omega))]
def nlen (n : Nat) : Nat := if n < 128 then 1 else nlen (n / 128) + 1
termination_by n
decreasing_by omega
def up7 : Int ⊕ (Nat × Nat) → Int ⊕ (Nat × Nat)
  | .inl e => .inl e
  | .inr (m, k) => .inr (m, k + 1)
def rd7 (most : Nat) : List (BitVec 8) → Bool → Nat → Int ⊕ (Nat × Nat)
  | [], _, _ => .inl 6
  | c :: l, f, n =>
    if c = 128#8 ∧ f = true then .inl 5 else if most / 128 < n then .inl 2 else
    if 128 ≤ c.toNat then up7 (rd7 most l false (n * 128 + c.toNat % 128))
    else if most < n * 128 + c.toNat then .inl 2 else .inr (n * 128 + c.toNat, 1)
theorem rd7_le {most : Nat} : ∀ {l : List (BitVec 8)} {f : Bool} {n m k : Nat}, rd7 most l f n = .inr (m, k) → m ≤ most ∧ 1 ≤ k ∧ k ≤ l.length
  | [], f, n, m, k, h => by simp [rd7] at h
  | c :: l, f, n, m, k, h => by
    simp only [rd7] at h
    split at h
    · cases h
    · split at h
      · cases h
      · split at h
        · cases hr : rd7 most l false (n * 128 + c.toNat % 128) with
          | inl e => rw [hr] at h; cases h
          | inr p =>
            obtain ⟨m', k'⟩ := p
            rw [hr] at h
            simp only [up7, Sum.inr.injEq, Prod.mk.injEq] at h
            obtain ⟨rfl, rfl⟩ := h
            have := rd7_le hr
            simp; omega
        · split at h
          · cases h
          · simp only [Sum.inr.injEq, Prod.mk.injEq] at h
            obtain ⟨rfl, rfl⟩ := h
            simp; omega
end Go.Va
namespace Go.Proofs.YtedcgeghgbgonaaGreatDoor
open Go Go.Va
set_option linter.unusedVariables false
set_option linter.unusedSimpArgs false
theorem same_eq (x y : List (BitVec 8)) (hx : x.length < 9223372036854775807) : R02_Same x y = some (decide (x = y)) := by
  unfold R02_Same
  simp only [lt_eq]
  by_cases hl : x.length = y.length
  · rw [if_neg (by simp [hl])]
    have h := loopO_find (body := fun s => R02_Same_b0 x y s) (fun i : Nat => (i : Int)) x.length (fun i => if x[i]? ≠ y[i]? then some (Sum.inr false) else none) (x := .inl ()) (fun i hi => by
      simp only [R02_Same_b0, lt_eq, ix_nat hi, ix_nat (show i < y.length by omega), Option.bind_some]
      rw [if_pos (by simpa using hi)]
      by_cases he : x[i] = y[i]
      · rw [if_neg (by simp [he]), if_neg (by simp [hi, show i < y.length by omega, he]), w64_nat (by omega)]; rfl
      · rw [if_pos (by simpa using he), if_pos (by simp [hi, show i < y.length by omega, he])]; rfl) (by simp [R02_Same_b0, lt_eq])
    rw [show ((0 : Nat) : Int) = 0 from rfl] at h
    simp only [R02_Same_l0, h, Option.bind_some]
    by_cases he : x = y
    · rw [List.findSome?_eq_none_iff.2 (fun i _ => by rw [if_neg (by simp [he])])]
      simp [he]
    · cases hf : (List.range x.length).findSome? (fun i => if x[i]? ≠ y[i]? then some (Sum.inr (α := Unit) false) else none) with
      | none =>
        refine absurd (List.ext_getElem? fun i => ?_) he
        have h1 := List.findSome?_eq_none_iff.1 hf
        rcases Nat.lt_or_ge i x.length with hi | hi
        · have := h1 i (by simpa using hi)
          by_cases hne : x[i]? = y[i]?
          · exact hne
          · rw [if_pos hne] at this; cases this
        · rw [List.getElem?_eq_none hi, List.getElem?_eq_none (by omega)]
      | some w =>
        obtain ⟨i, _, h2⟩ := List.exists_of_findSome?_eq_some hf
        split at h2
        · cases h2; simp [he]
        · cases h2
  · rw [if_pos (by simpa using fun e => hl (by exact_mod_cast e))]
    rw [decide_eq_false (fun e => hl (by rw [e]))]
theorem refnum_l : ∀ (k m : Nat) (out : List (BitVec 8)), m < 128 ^ k → m < 9223372036854775808 → out.length + k ≤ 1000 → R02_num_l0 (out, (m : Int)) = some (pre m ++ out)
  | 0, m, out, h, h2, hl => by
    have : m = 0 := by simpa using h
    subst this
    rw [pre_zero]
    exact loopO_out (by simp [R02_num_b0, lt_eq])
  | k + 1, m, out, h, h2, hl => by
    by_cases h0 : m = 0
    · subst h0
      rw [pre_zero]
      exact loopO_out (by simp [R02_num_b0, lt_eq])
    · have hb : R02_num_b0 out (m : Int) = some (.inl (BitVec.ofNat 8 (m % 128 + 128) :: out, ((m / 128 : Nat) : Int))) := by
        simp only [R02_num_b0, lt_eq]
        rw [if_pos (by simp; omega)]
        have e1 : Int.tmod (m : Int) 128 = ((m % 128 : Nat) : Int) := tmod_nat m 128
        have e2 : quo64 (m : Int) 128 = ((m / 128 : Nat) : Int) := quo64_nat h2
        rw [e1, e2, w64_eq (by omega) (by omega), app_eq (by simp; omega)]
        rw [show (((m % 128 : Nat) : Int) + 128) = ((m % 128 + 128 : Nat) : Int) by omega, byte_int]
        rfl
      have := loopO_in (body := fun s => R02_num_b0 s.1 s.2) (s := (out, (m : Int))) hb
      rw [R02_num_l0, this]
      have ih := refnum_l k (m / 128) (BitVec.ofNat 8 (m % 128 + 128) :: out) (by rw [Nat.div_lt_iff_lt_mul (by decide)]; rw [Nat.pow_succ] at h; exact h) (by omega) (by simp; omega)
      rw [R02_num_l0] at ih
      rw [ih, pre_pos (m := m) (by omega)]
      simp
theorem refnum_eq {n : Nat} (h : n < 9223372036854775808) : R02_num (n : Int) = some (num7 n) := by
  simp only [R02_num, lt_eq]
  have e1 : Int.tmod (n : Int) 128 = ((n % 128 : Nat) : Int) := tmod_nat n 128
  have e2 : quo64 (n : Int) 128 = ((n / 128 : Nat) : Int) := quo64_nat h
  rw [e1, e2, byte_int, refnum_l 9 (n / 128) _ (by omega) (by omega) (by simp)]
  rfl
def nums (l : List Int) : List (BitVec 8) := l.flatMap fun n => num7 n.toNat
def okN (l : List Int) : Prop := l.length ≤ 1000 ∧ ∀ n ∈ l, 0 ≤ n ∧ n ≤ 9223372036854775807
theorem nums_len : ∀ {l : List Int}, (∀ n ∈ l, 0 ≤ n ∧ n ≤ 9223372036854775807) → (nums l).length ≤ 9 * l.length
  | [], _ => Nat.le_refl _
  | n :: l, h => by
    have h1 := nums_len (l := l) (fun m hm => h m (List.mem_cons_of_mem _ hm))
    have h2 := h n List.mem_cons_self
    have h3 := num7_len (n := n.toNat) (by omega)
    simp only [nums, List.flatMap_cons, List.length_append, List.length_cons] at h1 ⊢
    omega
theorem nums_snoc (l : List Int) (n : Int) : nums (l ++ [n]) = nums l ++ num7 n.toNat := by simp [nums]
theorem refPut_eq (b : List (BitVec 8)) {l : List Int} (hb : b.length ≤ 1000000) (hl : okN l) : R02_Put b l = some (b ++ nums l) := by
  simp only [R02_Put]
  rw [app_eq (by simp; omega)]
  simp only [List.nil_append, Option.bind_some]
  have h := loopO_up (body := fun s => R02_Put_b0 l s.1 s.2) (fun i => (b ++ nums (l.take i), (i : Int))) l.length (x := b ++ nums l) (fun i hi => by
    obtain ⟨hn0, hn1⟩ := hl.2 _ (List.getElem_mem hi)
    have hn : R02_num l[i] = some (num7 l[i].toNat) := by
      have := refnum_eq (n := l[i].toNat) (by omega)
      rwa [Int.toNat_of_nonneg hn0] at this
    have h1 := nums_len (l := l.take i) (fun m hm => hl.2 m (List.mem_of_mem_take hm))
    have h2 := num7_len (n := l[i].toNat) (by omega)
    have h3 := hl.1
    simp only [List.length_take] at h1
    simp only [R02_Put_b0, lt_eq, ix_nat hi, Option.bind_some, hn]
    rw [if_pos (by simpa using hi), app_eq (by simp only [List.length_append]; omega), w64_nat (by omega)]
    simp only [Option.bind_some]
    rw [List.take_succ_eq_append_getElem hi, nums_snoc, List.append_assoc]) (by simp [R02_Put_b0, lt_eq])
  simp only [R02_Put_l0]
  have h0 : b ++ nums (l.take 0) = b := by simp [nums]
  rw [h0] at h
  rw [show ((0 : Nat) : Int) = 0 from rfl] at h
  rw [h]; rfl
theorem oct_l1 (l : List Int) (v6 : Int) (c7 : List (BitVec 8)) (c8 : Int) {n : Nat} (hn : n < 9223372036854775808) : ∃ h : Nat, octets_Put_l1 l v6 c7 c8 (n : Int) 0 = some (h : Int) ∧ h ≤ 9 ∧ n / 128 ^ h < 128 ∧ ∀ j, j < h → 128 ≤ n / 128 ^ j := by
  have key := loopO_inv (body := fun s => octets_Put_b1 l v6 c7 c8 (n : Int) s) (fun s => ∃ h : Nat, s = (h : Int) ∧ h ≤ 9 ∧ ∀ j, j < h → 128 ≤ n / 128 ^ j) (fun s => 10 - s.toNat) (fun x => ∃ h : Nat, x = (h : Int) ∧ h ≤ 9 ∧ n / 128 ^ h < 128 ∧ ∀ j, j < h → 128 ≤ n / 128 ^ j) (fun s => by
    rintro ⟨h, rfl, h9, hj⟩
    have ew : w64 (7 * (h : Int)) = ((7 * h : Nat) : Int) := by rw [w64_eq (by omega) (by omega)]; omega
    have es : shr64 (n : Int) (7 * h) = ((n / 128 ^ h : Nat) : Int) := by
      rw [shr64_nat (by omega), Nat.pow_mul]
    simp only [octets_Put_b1, lt_eq, ew, sc_eq (Int.natCast_nonneg _), Int.toNat_natCast, Option.map_some, Option.bind_some, es]
    by_cases hc : 128 ≤ n / 128 ^ h
    · left
      have h8 : h ≤ 8 := by
        rcases Nat.lt_or_ge 8 h with h8 | h8
        · have : h = 9 := by omega
          subst this
          omega
        · exact h8
      refine ⟨((h + 1 : Nat) : Int), ?_, ⟨h + 1, rfl, by omega, fun j hj' => ?_⟩, by omega⟩
      · rw [if_pos (decide_eq_true (show ((n / 128 ^ h : Nat) : Int) ≥ 128 by omega)), w64_nat (by omega)]
      · by_cases e : j = h
        · subst e; exact hc
        · exact hj j (by omega)
    · right
      exact ⟨_, by rw [if_neg (by rw [decide_eq_false (show ¬ ((n / 128 ^ h : Nat) : Int) ≥ 128 by omega)]; simp)], h, rfl, h9, by omega, hj⟩) (s := 0) ⟨0, rfl, by omega, fun j hj => by omega⟩
  obtain ⟨x, h1, h, rfl, h2⟩ := key
  exact ⟨h, h1, h2⟩
theorem oct_l2 (l : List Int) (v6 : Int) (c8 : Int) {n : Nat} : ∀ (h : Nat) (out : List (BitVec 8)), h ≤ 9 → out.length + h ≤ 100000000 → octets_Put_l2 l v6 c8 (n : Int) (out, (h : Int)) = some (out ++ seq7 n h)
  | 0, out, h9, hl => by
    simp only [seq7, List.append_nil]
    exact loopO_out (by simp [octets_Put_b2, lt_eq])
  | h + 1, out, h9, hl => by
    have ew : w64 (7 * ((h + 1 : Nat) : Int)) = ((7 * (h + 1) : Nat) : Int) := by rw [w64_eq (by omega) (by omega)]; omega
    have es : shr64 (n : Int) (7 * (h + 1)) = ((n / 128 ^ (h + 1) : Nat) : Int) := by
      rw [shr64_nat (by omega), Nat.pow_mul]
    have hb : octets_Put_b2 l v6 c8 (n : Int) out ((h + 1 : Nat) : Int) = some (.inl (out ++ [BitVec.ofNat 8 (n / 128 ^ (h + 1) % 128 + 128)], (h : Int))) := by
      simp only [octets_Put_b2, lt_eq, ew, sc_eq (Int.natCast_nonneg _), Int.toNat_natCast, Option.map_some, Option.bind_some, es]
      rw [if_pos (decide_eq_true (by omega)), app_eq (by simp; omega), byte_hi, w64_eq (by omega) (by omega)]
      simp only [Option.bind_some]
      rw [show (((h + 1 : Nat) : Int) - 1) = (h : Int) by omega]
    have := loopO_in (body := fun s => octets_Put_b2 l v6 c8 (n : Int) s.1 s.2) (s := (out, ((h + 1 : Nat) : Int))) hb
    rw [octets_Put_l2, this]
    have ih := oct_l2 l v6 c8 (n := n) h (out ++ [BitVec.ofNat 8 (n / 128 ^ (h + 1) % 128 + 128)]) (by omega) (by simp; omega)
    rw [octets_Put_l2] at ih
    rw [ih, seq7, List.append_assoc]; rfl
theorem octPut_eq (b : List (BitVec 8)) {l : List Int} (hb : b.length ≤ 1000000) (hl : okN l) : octets_Put b l = some (b ++ nums l) := by
  simp only [octets_Put]
  rw [app_eq (by simp; omega)]
  simp only [List.nil_append, Option.bind_some, lt_eq]
  have h := loopO_up (body := fun s => octets_Put_b0 l (l.length : Int) s.1 s.2) (fun i => (b ++ nums (l.take i), (i : Int))) l.length (x := b ++ nums l) (fun i hi => by
    obtain ⟨hn0, hn1⟩ := hl.2 _ (List.getElem_mem hi)
    obtain ⟨n, hn⟩ : ∃ n : Nat, l[i] = (n : Int) := ⟨l[i].toNat, by omega⟩
    have hlt : n < 9223372036854775808 := by omega
    have h1 := nums_len (l := l.take i) (fun m hm => hl.2 m (List.mem_of_mem_take hm))
    have h3 := hl.1
    simp only [List.length_take] at h1
    obtain ⟨h, k1, k2, k3, k4⟩ := oct_l1 l (l.length : Int) (b ++ nums (l.take i)) (i : Int) hlt
    have h2 := num7_len hlt
    have hs := seq7_pre h n k3 k4
    simp only [octets_Put_b0, lt_eq, ix_nat hi, Option.bind_some, hn, k1]
    rw [oct_l2 l _ _ h _ k2 (by simp only [List.length_append]; omega), hs]
    have h2' : (pre (n / 128)).length ≤ 9 := by simp [num7] at h2; omega
    simp only [Option.bind_some, byte_lo]
    rw [if_pos (by simpa using hi), app_eq (by simp only [List.length_append, List.length_cons, List.length_nil]; omega), w64_nat (by omega)]
    simp only [Option.bind_some]
    rw [List.take_succ_eq_append_getElem hi, nums_snoc, hn, Int.toNat_natCast, num7]
    simp only [List.append_assoc]) (by simp [octets_Put_b0, lt_eq])
  simp only [octets_Put_l0]
  have h0 : b ++ nums (l.take 0) = b := by simp [nums]
  rw [h0] at h
  rw [show ((0 : Nat) : Int) = 0 from rfl] at h
  rw [h]; rfl
theorem okN_one {n : Nat} (h : n < 9223372036854775808) : okN [(n : Int)] := ⟨by simp, fun m hm => by simp at hm; omega⟩
theorem octBytes_eq (b t : List (BitVec 8)) (hb : b.length ≤ 1000000) (ht : t.length ≤ 1000000) : octets_Bytes b t = some (b ++ num7 t.length ++ t) := by
  have h2 := num7_len (n := t.length) (by omega)
  simp only [octets_Bytes, lt_eq, octPut_eq b hb (okN_one (n := t.length) (by omega)), Option.bind_some, nums, List.flatMap_cons, List.flatMap_nil, List.append_nil, Int.toNat_natCast]
  rw [app_eq (by simp only [List.length_append]; omega)]; rfl
theorem refBytes_eq (b t : List (BitVec 8)) (hb : b.length ≤ 1000000) (ht : t.length ≤ 1000000) : R02_Bytes b t = some (b ++ num7 t.length ++ t) := by
  have h2 := num7_len (n := t.length) (by omega)
  simp only [R02_Bytes, lt_eq, refPut_eq b hb (okN_one (n := t.length) (by omega)), Option.bind_some, nums, List.flatMap_cons, List.flatMap_nil, List.append_nil, Int.toNat_natCast]
  rw [app_eq (by simp only [List.length_append]; omega)]; rfl
def wd (n : BitVec 64) (i : Nat) : List (BitVec 8) := (List.range i).map fun j => (n >>> (56 - 8 * j)).setWidth 8
theorem key_eq (x : List (BitVec 8)) : octets_Key x = R02_Key x := by
  simp only [octets_Key, R02_Key, lt_eq]
  cases x with
  | nil => rfl
  | cons a x => rw [if_neg (show ¬ ((((a :: x).length : Int) == 0) = true) by simp; omega), if_neg (show ¬ ((a :: x == []) = true) by simp)]
theorem drop_cons {b l : List (BitVec 8)} {c : BitVec 8} {pos : Nat} (h : b.drop pos = c :: l) : ∃ hp : pos < b.length, b[pos] = c ∧ b.drop (pos + 1) = l := by
  have hp : pos < b.length := by
    rcases Nat.lt_or_ge pos b.length with h1 | h1
    · exact h1
    · rw [List.drop_of_length_le h1] at h; cases h
  rw [List.drop_eq_getElem_cons hp] at h
  simp only [List.cons.injEq] at h
  exact ⟨hp, h.1, h.2⟩
theorem fail_eq (b : List (BitVec 8)) (a e : Int) : octets_Reader_Fail ⟨b, a, 0⟩ e = some ⟨b, a, e⟩ := rfl
def oOut (b : List (BitVec 8)) (a pos : Nat) : Int ⊕ (Nat × Nat) → octets_Reader ⊕ (Int × octets_Reader)
  | .inl e => .inl ⟨b, a, e⟩
  | .inr (m, k) => .inr ((m : Int), ⟨b, ((pos + k : Nat) : Int), 0⟩)
theorem oOut_go (b : List (BitVec 8)) (a pos : Nat) (r : Int ⊕ (Nat × Nat)) : oOut b a pos (up7 r) = oOut b a (pos + 1) r := by
  cases r with
  | inl e => rfl
  | inr p => simp only [up7, oOut]; rw [show pos + (p.2 + 1) = pos + 1 + p.2 by omega]
theorem octNum_stop (most : Int) (b : List (BitVec 8)) (n pos a e : Int) (he : e ≠ 0) : octets_Reader_Number_l0 most (n, pos, ⟨b, a, e⟩) = some (.inl ⟨b, a, e⟩) :=
  loopO_out (by simp [octets_Reader_Number_b0, lt_eq, he])
theorem le_byte (c : BitVec 8) : (128#8 ≤ c) ↔ 128 ≤ c.toNat := by rw [BitVec.le_def]; rfl
theorem octNum_l {b : List (BitVec 8)} {most a : Nat} (hb : b.length ≤ 1000000) (hm : most < 9223372036854775808) : ∀ (l : List (BitVec 8)) (pos n : Nat) (f : Bool), b.drop pos = l → pos ≤ b.length → (f = true → n = 0 ∧ pos = a) → (f = false → a < pos) → n < 9223372036854775808 →
    octets_Reader_Number_l0 (most : Int) ((n : Int), (pos : Int), ⟨b, (a : Int), 0⟩) = some (oOut b a pos (rd7 most l f n))
  | [], pos, n, f, hl, hp, _, _, _ => by
    have hlen : pos = b.length := by
      have := congrArg List.length hl
      simp at this; omega
    refine loopO_out ?_
    simp only [octets_Reader_Number_b0, lt_eq]
    rw [if_pos (by rfl), if_pos (decide_eq_true (by omega)), fail_eq]
    rfl
  | c :: l, pos, n, f, hl, hp, hf, hg, hn => by
    obtain ⟨hlt, hc, hd⟩ := drop_cons hl
    have e0 : w64 ((pos : Int) + 1) = ((pos + 1 : Nat) : Int) := w64_nat (by omega)
    have e1 : w64 ((a : Int) + 1) = ((a + 1 : Nat) : Int) := by
      have : a ≤ pos := by cases f with | true => have := (hf rfl).2; omega | false => have := hg rfl; omega
      exact w64_nat (by omega)
    have e2 : shr64 (most : Int) 7 = ((most / 128 : Nat) : Int) := by rw [shr64_nat (by omega)]
    have hcl := c.isLt
    have hcond : (if (c == 128#8) = true then (if ((n : Int) == 0) = true then some (((pos + 1 : Nat) : Int) == ((a + 1 : Nat) : Int)) else some false) else some false) = some (decide (c = 128#8 ∧ f = true)) := by
      by_cases h1 : c = 128#8
      · rw [if_pos (by simp [h1])]
        cases f with
        | true =>
          obtain ⟨rfl, rfl⟩ := hf rfl
          simp [h1]
        | false =>
          have := hg rfl
          split
          · have : (((pos + 1 : Nat) : Int) == ((a + 1 : Nat) : Int)) = false := by simp; omega
            rw [this]; simp
          · simp
      · rw [if_neg (by simpa using h1)]; simp [h1]
    have hb0 : octets_Reader_Number_b0 (most : Int) (n : Int) (pos : Int) ⟨b, (a : Int), 0⟩ =
        if c = 128#8 ∧ f = true then some (.inl ((n : Int), ((pos + 1 : Nat) : Int), ⟨b, (a : Int), 5⟩)) else if most / 128 < n then some (.inl ((n : Int), ((pos + 1 : Nat) : Int), ⟨b, (a : Int), 2⟩)) else
        if 128 ≤ c.toNat then some (.inl (((n * 128 + c.toNat % 128 : Nat) : Int), ((pos + 1 : Nat) : Int), ⟨b, (a : Int), 0⟩)) else
        if most < n * 128 + c.toNat then some (.inl (((n * 128 + c.toNat : Nat) : Int), ((pos + 1 : Nat) : Int), ⟨b, (a : Int), 2⟩)) else some (.inr (.inr (((n * 128 + c.toNat : Nat) : Int), ⟨b, ((pos + 1 : Nat) : Int), 0⟩))) := by
      simp only [octets_Reader_Number_b0, lt_eq]
      rw [if_pos (by rfl), if_neg (by rw [decide_eq_false (by omega)]; simp), ix_nat hlt, hc]
      simp only [Option.bind_some, e0, e1, e2]
      rw [hcond]
      simp only [Option.bind_some, decide_eq_true_eq]
      by_cases h1 : c = 128#8 ∧ f = true
      · rw [if_pos h1, if_pos h1, fail_eq]; rfl
      · rw [if_neg h1, if_neg h1]
        by_cases h2 : most / 128 < n
        · rw [if_pos (by omega), if_pos h2, fail_eq]; rfl
        · rw [if_neg (by omega), if_neg h2]
          by_cases h3 : 128 ≤ c.toNat
          · rw [if_pos ((le_byte c).2 h3), if_pos h3, byte_and, or64_7 (by omega) (by omega)]
          · rw [if_neg (fun h => h3 ((le_byte c).1 h)), if_neg h3, or64_7 (by omega) (by omega)]
            by_cases h4 : most < n * 128 + c.toNat
            · rw [if_pos (by omega), if_pos h4, fail_eq]; rfl
            · rw [if_neg (by omega), if_neg h4]
    have step : ∀ (s' : Int × Int × octets_Reader), octets_Reader_Number_b0 (most : Int) (n : Int) (pos : Int) ⟨b, (a : Int), 0⟩ = some (.inl s') → octets_Reader_Number_l0 (most : Int) ((n : Int), (pos : Int), ⟨b, (a : Int), 0⟩) = octets_Reader_Number_l0 (most : Int) s' := fun s' h => loopO_in (body := fun s => octets_Reader_Number_b0 (most : Int) s.1 s.2.1 s.2.2) h
    simp only [rd7]
    by_cases h1 : c = 128#8 ∧ f = true
    · rw [if_pos h1] at hb0 ⊢
      rw [step _ hb0, octNum_stop _ _ _ _ _ _ (by decide)]; rfl
    · rw [if_neg h1] at hb0 ⊢
      by_cases h2 : most / 128 < n
      · rw [if_pos h2] at hb0 ⊢
        rw [step _ hb0, octNum_stop _ _ _ _ _ _ (by decide)]; rfl
      · rw [if_neg h2] at hb0 ⊢
        by_cases h3 : 128 ≤ c.toNat
        · rw [if_pos h3] at hb0 ⊢
          rw [step _ hb0, octNum_l hb hm l (pos + 1) (n * 128 + c.toNat % 128) false hd (by omega) (by simp) (fun _ => by cases f with | true => have := (hf rfl).2; omega | false => have := hg rfl; omega) (by omega), oOut_go]
        · rw [if_neg h3] at hb0 ⊢
          by_cases h4 : most < n * 128 + c.toNat
          · rw [if_pos h4] at hb0 ⊢
            rw [step _ hb0, octNum_stop _ _ _ _ _ _ (by decide)]; rfl
          · rw [if_neg h4] at hb0 ⊢
            exact loopO_out (body := fun s => octets_Reader_Number_b0 (most : Int) s.1 s.2.1 s.2.2) hb0
def rdN (b : List (BitVec 8)) (a most : Nat) : Nat × Nat × Int := match rd7 most (b.drop a) true 0 with
  | .inl e => (0, a, e)
  | .inr (m, k) => (m, a + k, 0)
theorem octNum_eq {b : List (BitVec 8)} {a most : Nat} (hb : b.length ≤ 1000000) (ha : a ≤ b.length) (hm : most < 9223372036854775808) : octets_Reader_Number ⟨b, a, 0⟩ most = some (((rdN b a most).1 : Int), ⟨b, ((rdN b a most).2.1 : Int), (rdN b a most).2.2⟩) := by
  simp only [octets_Reader_Number]
  have := octNum_l hb hm (b.drop a) a 0 true rfl ha (fun _ => ⟨rfl, rfl⟩) (fun h => by cases h) (by omega)
  rw [show ((0 : Nat) : Int) = 0 from rfl] at this
  rw [this]
  unfold rdN
  cases rd7 most (b.drop a) true 0 with
  | inl e => rfl
  | inr p => rfl
theorem rdN_le {b : List (BitVec 8)} {a most : Nat} (ha : a ≤ b.length) : (rdN b a most).2.1 ≤ b.length ∧ a ≤ (rdN b a most).2.1 ∧ (rdN b a most).1 ≤ most ∧ ((rdN b a most).2.2 ≠ 0 → (rdN b a most).1 = 0 ∧ (rdN b a most).2.1 = a) := by
  unfold rdN
  cases h : rd7 most (b.drop a) true 0 with
  | inl e => exact ⟨ha, Nat.le_refl _, Nat.zero_le _, fun _ => ⟨rfl, rfl⟩⟩
  | inr p =>
    have := rd7_le h
    simp only [List.length_drop] at this
    exact ⟨by simp only; omega, by simp only; omega, this.1, fun h => absurd rfl h⟩
theorem rdN_off {b : List (BitVec 8)} {a : Int} {most e : Int} (he : e ≠ 0) : octets_Reader_Number ⟨b, a, e⟩ most = some (0, ⟨b, a, e⟩) := by
  simp only [octets_Reader_Number, octNum_stop _ _ _ _ _ _ he]; rfl
theorem left_eq {b : List (BitVec 8)} {a : Nat} {e : Int} (hb : b.length ≤ 1000000) (ha : a ≤ b.length) : octets_Reader_Left ⟨b, a, e⟩ = some ((b.length - a : Nat) : Int) := by
  simp only [octets_Reader_Left, lt_eq]
  rw [w64_eq (by omega) (by omega)]
  congr 1; omega
def stp (a : BitVec 64) (c : BitVec 8) : BitVec 64 := a <<< 8 ||| c.setWidth 64
def word (l : List (BitVec 8)) : BitVec 64 := l.foldl stp 0#64
def cut8 (b : List (BitVec 8)) (a : Nat) : List (BitVec 8) := (b.take (a + 8)).drop a
def rdB (b : List (BitVec 8)) (a most : Nat) : List (BitVec 8) × Nat × Int :=
  if (rdN b a most).2.2 ≠ 0 then ([], (rdN b a most).2.1, (rdN b a most).2.2) else
  if b.length < (rdN b a most).2.1 + (rdN b a most).1 then ([], a, 6) else ((b.take ((rdN b a most).2.1 + (rdN b a most).1)).drop (rdN b a most).2.1, (rdN b a most).2.1 + (rdN b a most).1, 0)
theorem octBytesR_eq {b : List (BitVec 8)} {a most : Nat} (hb : b.length ≤ 1000000) (ha : a ≤ b.length) (hm : most < 9223372036854775808) : octets_Reader_Bytes ⟨b, a, 0⟩ most = some ((rdB b a most).1, ⟨b, ((rdB b a most).2.1 : Int), (rdB b a most).2.2⟩) := by
  simp only [octets_Reader_Bytes, octNum_eq hb ha hm, Option.bind_some, lt_eq]
  obtain ⟨h1, h2, h3, h4⟩ := rdN_le (most := most) ha
  unfold rdB
  generalize rdN b a most = z at *
  obtain ⟨n, p, e⟩ := z
  simp only at *
  by_cases he : e = 0
  · subst he
    rw [if_neg (by simp), if_neg (by simp), left_eq hb h1]
    simp only [Option.bind_some]
    by_cases hc : b.length < p + n
    · rw [if_pos hc, if_pos (decide_eq_true (by omega)), fail_eq]; rfl
    · rw [if_neg hc, if_neg (by rw [decide_eq_false (by omega)]; simp), w64_eq (by omega) (by omega), show (p : Int) + (n : Int) = ((p + n : Nat) : Int) by omega, cutO_eq (by omega) (by omega)]
      simp only [Option.bind_some]
      rw [app_eq (by simp; omega)]; rfl
  · rw [if_pos (by simpa using he), if_pos he]
theorem octBytesR_off {b : List (BitVec 8)} {a e most : Int} (he : e ≠ 0) : octets_Reader_Bytes ⟨b, a, e⟩ most = some ([], ⟨b, a, e⟩) := by
  simp [octets_Reader_Bytes, rdN_off he, lt_eq, he]
theorem rdB_le {b : List (BitVec 8)} {a most : Nat} (ha : a ≤ b.length) : (rdB b a most).2.1 ≤ b.length ∧ a ≤ (rdB b a most).2.1 ∧ (rdB b a most).1.length ≤ b.length := by
  obtain ⟨h1, h2, h3, h4⟩ := rdN_le (most := most) ha
  unfold rdB
  generalize rdN b a most = z at *
  obtain ⟨n, p, e⟩ := z
  simp only at *
  split
  · exact ⟨h1, h2, by simp⟩
  · split
    · exact ⟨ha, Nat.le_refl _, by simp⟩
    · exact ⟨by simp only; omega, by simp only; omega, by simp; omega⟩
theorem end_eq {b : List (BitVec 8)} {a : Nat} {e : Int} (hb : b.length ≤ 1000000) (ha : a ≤ b.length) : octets_Reader_End ⟨b, a, e⟩ = some (if e = 0 ∧ a < b.length then 5 else e, ⟨b, a, if e = 0 ∧ a < b.length then 5 else e⟩) := by
  simp only [octets_Reader_End, left_eq hb ha, Option.bind_some, lt_eq]
  by_cases h : a < b.length
  · rw [if_pos (decide_eq_true (by omega))]
    by_cases he : e = 0
    · subst he; rw [fail_eq]; simp [h]
    · simp [octets_Reader_Fail, lt_eq, he]
  · rw [if_neg (by rw [decide_eq_false (by omega)]; simp)]; simp [h]
theorem read_eq {b : List (BitVec 8)} (hb : b.length ≤ 1000000) : octets_Read b = some ⟨b, 0, 0⟩ := by
  simp only [octets_Read, lt_eq]
  rw [app_eq (by simp; omega)]; rfl
def upN (k : Nat) : Int ⊕ (Nat × Nat) → Int ⊕ (Nat × Nat)
  | .inl e => .inl e
  | .inr (m, j) => .inr (m, k + j)
theorem upN_up (k : Nat) (r : Int ⊕ (Nat × Nat)) : upN k (up7 r) = upN (k + 1) r := by
  cases r with
  | inl e => rfl
  | inr p => simp only [up7, upN]; rw [show k + (p.2 + 1) = k + 1 + p.2 by omega]
theorem rd7_pre {most : Nat} : ∀ (k q : Nat), q < 128 ^ k → q ≤ most / 128 → ∀ l, rd7 most (pre q ++ l) true 0 = upN (pre q).length (rd7 most l (decide (q = 0)) q)
  | 0, q, h, hq, l => by
    have : q = 0 := by simpa using h
    subst this
    rw [pre_zero]
    simp only [List.nil_append, List.length_nil, decide_true]
    cases rd7 most l true 0 with
    | inl e => rfl
    | inr p => simp [upN]
  | k + 1, q, h, hq, l => by
    by_cases h0 : q = 0
    · subst h0
      rw [pre_zero]
      simp only [List.nil_append, List.length_nil, decide_true]
      cases rd7 most l true 0 with
      | inl e => rfl
      | inr p => simp [upN]
    · rw [pre_pos (by omega), List.append_assoc, rd7_pre k (q / 128) (by rw [Nat.div_lt_iff_lt_mul (by decide)]; rw [Nat.pow_succ] at h; exact h) (by omega)]
      have hc : (BitVec.ofNat 8 (q % 128 + 128)).toNat = q % 128 + 128 := by simp; omega
      simp only [List.singleton_append, rd7]
      rw [if_neg (by
        rintro ⟨h1, h2⟩
        have h1 := congrArg BitVec.toNat h1
        rw [hc] at h1
        have h1 : q % 128 + 128 = 128 := h1
        have h2 : q / 128 = 0 := by simpa using h2
        omega), if_neg (by omega), if_pos (by omega), hc, upN_up]
      rw [show q / 128 * 128 + (q % 128 + 128) % 128 = q by omega, decide_eq_false h0]
      simp
theorem rd7_num {most m : Nat} (hm : m ≤ most) (hm2 : m < 9223372036854775808) (l : List (BitVec 8)) : rd7 most (num7 m ++ l) true 0 = .inr (m, (num7 m).length) := by
  rw [num7, List.append_assoc, rd7_pre 9 (m / 128) (by omega) (by omega)]
  have hc : (BitVec.ofNat 8 (m % 128)).toNat = m % 128 := by simp; omega
  simp only [List.singleton_append, rd7]
  rw [if_neg (by
    rintro ⟨h1, h2⟩
    have h1 := congrArg BitVec.toNat h1
    rw [hc] at h1
    have h1 : m % 128 = 128 := h1
    omega), if_neg (by omega), if_neg (by omega), if_neg (by omega), hc, show m / 128 * 128 + m % 128 = m by omega]
  simp [upN]
theorem rdN_num {b l : List (BitVec 8)} {a most m : Nat} (h : b.drop a = num7 m ++ l) (hm : m ≤ most) (hm2 : m < 9223372036854775808) : rdN b a most = (m, a + (num7 m).length, 0) := by
  rw [rdN, h, rd7_num hm hm2]
structure rdr where
  a : Nat
  e : Int
def rdr.o (r : rdr) (b : List (BitVec 8)) : octets_Reader := ⟨b, r.a, r.e⟩
def rN (b : List (BitVec 8)) (r : rdr) (m : Nat) : Nat × rdr := if r.e = 0 then ((rdN b r.a m).1, ⟨(rdN b r.a m).2.1, (rdN b r.a m).2.2⟩) else (0, r)
def rB (b : List (BitVec 8)) (r : rdr) (m : Nat) : List (BitVec 8) × rdr := if r.e = 0 then ((rdB b r.a m).1, ⟨(rdB b r.a m).2.1, (rdB b r.a m).2.2⟩) else ([], r)
theorem octN_r {b : List (BitVec 8)} (hb : b.length ≤ 1000000) {r : rdr} (hr : r.a ≤ b.length) {m : Nat} (hm : m < 9223372036854775808) : octets_Reader_Number (r.o b) (m : Int) = some (((rN b r m).1 : Int), (rN b r m).2.o b) := by
  obtain ⟨a, e⟩ := r
  unfold rN
  by_cases he : e = 0
  · subst he; rw [if_pos rfl]; exact octNum_eq hb hr hm
  · rw [if_neg he]; exact rdN_off he
theorem octB_r {b : List (BitVec 8)} (hb : b.length ≤ 1000000) {r : rdr} (hr : r.a ≤ b.length) {m : Nat} (hm : m < 9223372036854775808) : octets_Reader_Bytes (r.o b) (m : Int) = some ((rB b r m).1, (rB b r m).2.o b) := by
  obtain ⟨a, e⟩ := r
  unfold rB
  by_cases he : e = 0
  · subst he; rw [if_pos rfl]; exact octBytesR_eq hb hr hm
  · rw [if_neg he]; exact octBytesR_off he
theorem rN_le {b : List (BitVec 8)} {r : rdr} (hr : r.a ≤ b.length) (m : Nat) : (rN b r m).2.a ≤ b.length ∧ r.a ≤ (rN b r m).2.a ∧ (rN b r m).1 ≤ m := by
  unfold rN
  split
  · have := rdN_le (most := m) hr; exact ⟨this.1, this.2.1, this.2.2.1⟩
  · exact ⟨hr, Nat.le_refl _, Nat.zero_le _⟩
theorem rB_le {b : List (BitVec 8)} {r : rdr} (hr : r.a ≤ b.length) (m : Nat) : (rB b r m).2.a ≤ b.length ∧ r.a ≤ (rB b r m).2.a ∧ (rB b r m).1.length ≤ b.length := by
  unfold rB
  split
  · exact rdB_le hr
  · exact ⟨hr, Nat.le_refl _, by simp⟩
theorem rN_is {b l : List (BitVec 8)} {r : rdr} {m n : Nat} (he : r.e = 0) (h : b.drop r.a = num7 n ++ l) (hm : n ≤ m) (hn : n < 9223372036854775808) : rN b r m = (n, ⟨r.a + (num7 n).length, 0⟩) := by
  unfold rN
  rw [if_pos he, rdN_num h hm hn]
theorem drop_app {b x l : List (BitVec 8)} {a : Nat} (h : b.drop a = x ++ l) : b.drop (a + x.length) = l := by
  rw [← List.drop_drop, h, List.drop_left' rfl]
theorem rB_is {b t l : List (BitVec 8)} {r : rdr} {m : Nat} (he : r.e = 0) (hr : r.a ≤ b.length) (h : b.drop r.a = num7 t.length ++ (t ++ l)) (hm : t.length ≤ m) (hn : t.length < 9223372036854775808) : rB b r m = (t, ⟨r.a + (num7 t.length).length + t.length, 0⟩) := by
  have h2 := drop_app h
  have h3 := congrArg List.length h2
  have h4 := congrArg List.length h
  simp only [List.length_drop, List.length_append] at h3 h4
  unfold rB rdB
  rw [if_pos he, rdN_num h hm hn]
  simp only
  rw [if_neg (by simp), if_neg (by omega)]
  refine Prod.ext ?_ rfl
  simp only
  rw [List.drop_take, h2, show r.a + (num7 t.length).length + t.length - (r.a + (num7 t.length).length) = t.length by omega, List.take_left' rfl]
def ckK (k : List (BitVec 8)) : Int := if k.length = 0 then 1 else if 40 < k.length then 3 else 0
def ckE (x : api_Entry) : Int :=
  if ckK x.Key ≠ 0 then ckK x.Key else
  if (x.Version < 1 ∨ x.Version > 1099511627776) ∨ (x.AsOf < x.Version ∨ x.AsOf > 1099511627776) ∨ (x.Ends < 0 ∨ x.Ends > 1099511627776) then 2 else
  if 4096 < x.Value.length then 3 else 0
theorem octKey_eq (k : List (BitVec 8)) : octets_Key k = some (ckK k) := by
  unfold octets_Key ckK
  simp only [lt_eq]
  by_cases h0 : k.length = 0
  · rw [if_pos h0, if_pos (by simp [h0])]
  · rw [if_neg h0, if_neg (by simp; intro h; subst h; simp at h0)]
    by_cases h1 : 40 < k.length
    · rw [if_pos h1, if_pos (decide_eq_true (by omega))]
    · rw [if_neg h1, if_neg (by rw [decide_eq_false (by omega)]; simp)]
theorem refKey_eq (k : List (BitVec 8)) : R02_Key k = some (ckK k) := by rw [← key_eq, octKey_eq]
theorem new_eq (op : List (BitVec 8)) (n c : Int) (hc : c ≠ 0) : trouble_New op n c = some (.fault op n c .nil) := by
  simp [trouble_New, lt_eq, hc]
theorem wrap_eq (op : List (BitVec 8)) (n : Int) (e : Err) (he : e.isNil = false) : trouble_Wrap op n e = some (.fault op n 0 e) := by
  simp [trouble_Wrap, lt_eq, he]
theorem num_ck (op : List (BitVec 8)) (n low : Int) (e : Err) : ∃ e', item_Check_1_c op n low e = some e' ∧ (e.isNil = false → e' = e) ∧ (e = .nil → (n < low ∨ n > 1099511627776) → ∃ o a, e' = .fault o a 2 .nil) ∧ (e = .nil → ¬ (n < low ∨ n > 1099511627776) → e' = .nil) := by
  unfold item_Check_1_c
  simp only [lt_eq]
  cases e with
  | fault o a c u => exact ⟨_, rfl, fun _ => rfl, (fun h => by cases h), (fun h => by cases h)⟩
  | nil =>
    simp only [Err.isNil, if_true]
    by_cases h1 : n < low
    · rw [if_pos (decide_eq_true h1)]
      exact ⟨_, rfl, (fun h => by cases h), fun _ _ => ⟨_, _, rfl⟩, fun _ h => absurd (.inl h1) h⟩
    · rw [if_neg (by rw [decide_eq_false h1]; simp)]
      by_cases h2 : n > 1099511627776
      · rw [decide_eq_true h2]
        exact ⟨_, rfl, (fun h => by cases h), fun _ _ => ⟨_, _, rfl⟩, fun _ h => absurd (.inr h2) h⟩
      · rw [decide_eq_false h2]
        exact ⟨_, rfl, (fun h => by cases h), fun _ h => absurd h (by omega), fun _ _ => rfl⟩
theorem check_eq (x : api_Entry) : ∃ e, item_Check x = some e ∧ codeOf e = ckE x ∧ e.isNil = decide (ckE x = 0) := by
  unfold item_Check ckE
  rw [octKey_eq]
  simp only [Option.bind_some, lt_eq]
  by_cases hk : ckK x.Key = 0
  · rw [if_neg (show ¬ ((ckK x.Key != 0) = true) by simpa using hk), if_neg (show ¬ (ckK x.Key ≠ 0) by simpa using hk)]
    obtain ⟨e1, a1, a2, a3, a4⟩ := num_ck [118#8, 101#8, 114#8, 115#8, 105#8, 111#8, 110#8] x.Version 1 .nil
    obtain ⟨e2, b1, b2, b3, b4⟩ := num_ck [97#8, 115#8, 111#8, 102#8] x.AsOf x.Version e1
    obtain ⟨e3, c1, c2, c3, c4⟩ := num_ck [101#8, 110#8, 100#8, 115#8] x.Ends 0 e2
    simp only [a1, b1, c1, Option.bind_some]
    by_cases h : (x.Version < 1 ∨ x.Version > 1099511627776) ∨ (x.AsOf < x.Version ∨ x.AsOf > 1099511627776) ∨ (x.Ends < 0 ∨ x.Ends > 1099511627776)
    · rw [if_pos h]
      have key : ∃ o a, e3 = .fault o a 2 .nil := by
        by_cases h1 : x.Version < 1 ∨ x.Version > 1099511627776
        · obtain ⟨o, a, rfl⟩ := a3 rfl h1
          have := b2 rfl; subst this
          have := c2 rfl; subst this
          exact ⟨o, a, rfl⟩
        · have := a4 rfl h1; subst this
          by_cases h2 : x.AsOf < x.Version ∨ x.AsOf > 1099511627776
          · obtain ⟨o, a, rfl⟩ := b3 rfl h2
            have := c2 rfl; subst this
            exact ⟨o, a, rfl⟩
          · have := b4 rfl h2; subst this
            have h3 : x.Ends < 0 ∨ x.Ends > 1099511627776 := by
              rcases h with h | h | h
              · exact absurd h h1
              · exact absurd h h2
              · exact h
            exact c3 rfl h3
      obtain ⟨o, a, rfl⟩ := key
      exact ⟨_, rfl, rfl, rfl⟩
    · rw [if_neg h]
      simp only [not_or] at h
      have := a4 rfl (by omega); subst this
      have := b4 rfl (by omega); subst this
      have := c4 rfl (by omega); subst this
      simp only [Err.isNil, if_true, Option.bind_some]
      by_cases hv : 4096 < x.Value.length
      · rw [if_pos (decide_eq_true (by omega)), if_pos hv, new_eq _ _ _ (by decide)]
        exact ⟨_, rfl, rfl, rfl⟩
      · rw [if_neg (by rw [decide_eq_false (by omega)]; simp), if_neg hv]
        exact ⟨_, rfl, rfl, rfl⟩
  · rw [if_pos (by simpa using hk), if_pos hk, new_eq _ _ _ hk]
    exact ⟨_, rfl, by simp [codeOf, hk], by simp [Err.isNil, hk]⟩
theorem refCheck_eq (x : api_Entry) : R06_Check x = some (ckE x) := by
  unfold R06_Check ckE
  rw [refKey_eq]
  simp only [Option.bind_some, lt_eq]
  by_cases hk : ckK x.Key = 0
  · rw [if_neg (show ¬ ((ckK x.Key != 0) = true) by simpa using hk), if_neg (show ¬ (ckK x.Key ≠ 0) by simpa using hk)]
    have hb : (if decide (x.Version < 1) = true then some true else if decide (x.Version > 1099511627776) = true then some true else if decide (x.AsOf < x.Version) = true then some true else if decide (x.AsOf > 1099511627776) = true then some true else if decide (x.Ends < 0) = true then some true else some (decide (x.Ends > 1099511627776))) = some (decide ((x.Version < 1 ∨ x.Version > 1099511627776) ∨ (x.AsOf < x.Version ∨ x.AsOf > 1099511627776) ∨ (x.Ends < 0 ∨ x.Ends > 1099511627776))) := by
      by_cases h1 : x.Version < 1
      · simp [h1]
      by_cases h2 : x.Version > 1099511627776
      · simp [h1, h2]
      by_cases h3 : x.AsOf < x.Version
      · simp [h1, h2, h3]
      by_cases h4 : x.AsOf > 1099511627776
      · simp [h1, h2, h3, h4]
      by_cases h5 : x.Ends < 0
      · simp [h1, h2, h3, h4, h5]
      · simp [h1, h2, h3, h4, h5]
    rw [hb]
    simp only [Option.bind_some, decide_eq_true_eq]
    split
    · rfl
    · by_cases hv : 4096 < x.Value.length
      · rw [if_pos (by omega), if_pos hv]
      · rw [if_neg (by omega), if_neg hv]
  · rw [if_pos (show (ckK x.Key != 0) = true by simpa using hk), if_pos (show ckK x.Key ≠ 0 from hk)]
theorem ck_ok {x : api_Entry} (h : ckE x = 0) : 1 ≤ x.Key.length ∧ x.Key.length ≤ 40 ∧ 1 ≤ x.Version ∧ x.Version ≤ 1099511627776 ∧ x.Version ≤ x.AsOf ∧ x.AsOf ≤ 1099511627776 ∧ 0 ≤ x.Ends ∧ x.Ends ≤ 1099511627776 ∧ x.Value.length ≤ 4096 := by
  unfold ckE ckK at h
  by_cases h1 : x.Key.length = 0
  · simp [h1] at h
  by_cases h2 : 40 < x.Key.length
  · simp [h1, h2] at h
  simp only [if_neg h1, if_neg h2] at h
  rw [if_neg (by simp)] at h
  by_cases h3 : (x.Version < 1 ∨ x.Version > 1099511627776) ∨ (x.AsOf < x.Version ∨ x.AsOf > 1099511627776) ∨ (x.Ends < 0 ∨ x.Ends > 1099511627776)
  · rw [if_pos h3] at h; cases h
  rw [if_neg h3] at h
  by_cases h4 : 4096 < x.Value.length
  · rw [if_pos h4] at h; cases h
  omega
def encE (x : api_Entry) : List (BitVec 8) := num7 x.Key.length ++ (x.Key ++ (num7 x.Version.toNat ++ (num7 x.AsOf.toNat ++ (num7 x.Ends.toNat ++ (num7 x.Value.length ++ x.Value)))))
def zeroE : api_Entry := ⟨[], 0, 0, 0, []⟩
def frE (b : List (BitVec 8)) (r : rdr) : api_Entry × rdr :=
  let k := rB b r 40
  let v := rN b k.2 1099511627776
  let a := rN b v.2 1099511627776
  let n := rN b a.2 1099511627776
  let w := rB b n.2 4096
  let x : api_Entry := ⟨k.1, v.1, a.1, n.1, w.1⟩
  if w.2.e = 0 then (if ckE x = 0 then (x, w.2) else (zeroE, ⟨w.2.a, ckE x⟩)) else (zeroE, w.2)
def rdE (b : List (BitVec 8)) : Nat → Nat → List api_Entry ⊕ Int
  | 0, _ => .inl []
  | k + 1, a => if a < b.length then (if (frE b ⟨a, 0⟩).2.e = 0 then (match rdE b k (frE b ⟨a, 0⟩).2.a with
      | .inl l => .inl ((frE b ⟨a, 0⟩).1 :: l)
      | .inr c => .inr c) else .inr (frE b ⟨a, 0⟩).2.e) else .inl []
theorem same_eq6 (x y : api_Entry) (hx : x.Value.length < 9223372036854775807) : R06_Same x y = some (decide (x = y)) := by
  obtain ⟨k, v, a, n, w⟩ := x
  obtain ⟨k', v', a', n', w'⟩ := y
  simp only at hx
  simp only [R06_Same, lt_eq, same_eq _ _ hx, Option.bind_some, beq_iff_eq, api_Entry.mk.injEq]
  by_cases h1 : k = k'
  · by_cases h2 : v = v'
    · by_cases h3 : a = a'
      · by_cases h4 : n = n'
        · simp [h1, h2, h3, h4]
        · simp [h1, h2, h3, h4]
      · simp [h1, h2, h3]
    · simp [h1, h2]
  · simp [h1]
theorem isame_eq6 (x y : api_Entry) : item_Same x y = some (decide (x = y)) := by
  obtain ⟨k, v, a, n, w⟩ := x
  obtain ⟨k', v', a', n', w'⟩ := y
  simp only [item_Same, lt_eq, beq_iff_eq, api_Entry.mk.injEq]
  by_cases h1 : k = k'
  · by_cases h2 : v = v'
    · by_cases h3 : a = a'
      · by_cases h4 : n = n'
        · by_cases h5 : w = w'
          · simp [h1, h2, h3, h4, h5]
          · simp [h1, h2, h3, h4, h5]
        · simp [h1, h2, h3, h4]
      · simp [h1, h2, h3]
    · simp [h1, h2]
  · simp [h1]
theorem light_l {l : List api_Entry} (hl : l.length ≤ 40) : ∀ (k i : Nat) (n : Nat), k + i = l.length → n ≤ 12000 → ∃ y, L06_Light_l0 l ((n : Int), (i : Int)) = some y ∧ (y = .inr 1 ∨ (y = .inl () ∧ ∀ j, i ≤ j → (h : j < l.length) → l[j].Key.length ≤ 200 ∧ l[j].Value.length ≤ 5000))
  | 0, i, n, hk, hn => by
    refine ⟨.inl (), loopO_out ?_, .inr ⟨rfl, fun j h1 h2 => by omega⟩⟩
    simp only [L06_Light_b0, lt_eq]
    rw [if_neg (by rw [decide_eq_false (by omega)]; simp)]
  | k + 1, i, n, hk, hn => by
    have hi : i < l.length := by omega
    by_cases h1 : l[i].Key.length > 200
    · refine ⟨.inr 1, loopO_out ?_, .inl rfl⟩
      simp only [L06_Light_b0, lt_eq, ix_nat hi, Option.bind_some]
      rw [if_pos (decide_eq_true (by omega)), if_pos (decide_eq_true (by omega))]
      rfl
    · by_cases h2 : l[i].Value.length > 5000
      · refine ⟨.inr 1, loopO_out ?_, .inl rfl⟩
        simp only [L06_Light_b0, lt_eq, ix_nat hi, Option.bind_some]
        rw [if_pos (decide_eq_true (by omega)), if_neg (by rw [decide_eq_false (by omega)]; simp), decide_eq_true (by omega)]
        rfl
      · have hw : w64 ((n : Int) + (l[i].Value.length : Int)) = ((n + l[i].Value.length : Nat) : Int) := by rw [w64_eq (by omega) (by omega)]; omega
        by_cases h3 : n + l[i].Value.length > 12000
        · refine ⟨.inr 1, loopO_out ?_, .inl rfl⟩
          simp only [L06_Light_b0, lt_eq, ix_nat hi, Option.bind_some]
          rw [if_pos (decide_eq_true (by omega)), if_neg (by rw [decide_eq_false (by omega)]; simp), decide_eq_false (by omega)]
          simp only [Option.bind_some, Bool.false_eq_true, if_false, hw]
          rw [if_pos (decide_eq_true (by omega))]
        · obtain ⟨y, i1, i2⟩ := light_l hl k (i + 1) (n + l[i].Value.length) (by omega) (by omega)
          have e : L06_Light_l0 l ((n : Int), (i : Int)) = L06_Light_l0 l (((n + l[i].Value.length : Nat) : Int), ((i + 1 : Nat) : Int)) := by
            refine loopO_in (body := fun s => L06_Light_b0 l s.1 s.2) ?_
            simp only [L06_Light_b0, lt_eq, ix_nat hi, Option.bind_some]
            rw [if_pos (decide_eq_true (by omega)), if_neg (by rw [decide_eq_false (by omega)]; simp), decide_eq_false (by omega)]
            simp only [Option.bind_some, Bool.false_eq_true, if_false, hw]
            rw [if_neg (by rw [decide_eq_false (by omega)]; simp), w64_nat (by omega)]
          refine ⟨y, by rw [e]; exact i1, ?_⟩
          rcases i2 with rfl | ⟨rfl, i3⟩
          · exact .inl rfl
          · refine .inr ⟨rfl, fun j h4 h5 => ?_⟩
            by_cases hj : j = i
            · subst hj; omega
            · exact i3 j (by omega) h5
theorem light_eq (l : List api_Entry) : L06_Light l = some 1 ∨ (L06_Light l = some 0 ∧ l.length ≤ 40 ∧ ∀ x ∈ l, x.Key.length ≤ 200 ∧ x.Value.length ≤ 5000) := by
  unfold L06_Light
  simp only [lt_eq]
  by_cases h : l.length > 40
  · left; rw [if_pos (decide_eq_true (by omega))]
  · rw [if_neg (by rw [decide_eq_false (by omega)]; simp)]
    obtain ⟨y, h1, h2⟩ := light_l (l := l) (by omega) l.length 0 0 (by omega) (by omega)
    have h1' : L06_Light_l0 l (0, 0) = some y := h1
    rw [h1']
    rcases h2 with rfl | ⟨rfl, h3⟩
    · exact .inl rfl
    · refine .inr ⟨rfl, by omega, fun x hx => ?_⟩
      obtain ⟨j, hj, rfl⟩ := List.mem_iff_getElem.1 hx
      exact h3 j (by omega) hj
end Go.Proofs.YtedcgeghgbgonaaGreatDoor
namespace Go.Va
open Go
set_option linter.unusedVariables false
set_option linter.unusedSimpArgs false
def cstep (n : BitVec 32) : BitVec 32 := if n &&& 1#32 = 1#32 then n >>> 1 ^^^ 3988292384#32 else n >>> 1
def csteps : Nat → BitVec 32 → BitVec 32
  | 0, n => n
  | k + 1, n => cstep (csteps k n)
def ccol (c : BitVec 8) : BitVec 32 := csteps 8 (c.setWidth 32)
def cmore1 (n : BitVec 32) (c : BitVec 8) : BitVec 32 := n >>> 8 ^^^ ccol (n.setWidth 8 ^^^ c)
def cmore (s : BitVec 32) (b : List (BitVec 8)) : BitVec 32 := ~~~ (b.foldl cmore1 (~~~ s))
def csum (b : List (BitVec 8)) : BitVec 32 := cmore 0#32 b
def cfour (n : BitVec 32) : List (BitVec 8) := [n.setWidth 8, (n >>> 8).setWidth 8, (n >>> 16).setWidth 8, (n >>> 24).setWidth 8]
def cseal (b : List (BitVec 8)) : List (BitVec 8) := b ++ cfour (csum b)
def cfits (b : List (BitVec 8)) : Bool := decide (4 ≤ b.length) && decide (cfour (csum (b.take (b.length - 4))) = b.drop (b.length - 4))
def rbit (c : BitVec 8) (k : Nat) (n : BitVec 32) : BitVec 32 := if (c >>> k).setWidth 32 % 2#32 = n % 2#32 then n / 2#32 else n / 2#32 ^^^ 3988292384#32
def rbits (c : BitVec 8) (n : BitVec 32) : Nat → BitVec 32
  | 0 => n
  | k + 1 => rbit c k (rbits c n k)
def rbyte (n : BitVec 32) (c : BitVec 8) : BitVec 32 := rbits c n 8
def rsum (b : List (BitVec 8)) : BitVec 32 := 4294967295#32 - b.foldl rbyte 4294967295#32
def rdiv (n : BitVec 32) : Nat → BitVec 32
  | 0 => n
  | k + 1 => rdiv n k / 256#32
def rfour (n : BitVec 32) : Nat → List (BitVec 8)
  | 0 => []
  | k + 1 => rfour n k ++ [(rdiv n k % 256#32).setWidth 8]
theorem rfour_len (n : BitVec 32) : ∀ k, (rfour n k).length = k
  | 0 => rfl
  | k + 1 => by simp [rfour, rfour_len n k]
def rseal (b : List (BitVec 8)) : List (BitVec 8) := b ++ rfour (rsum b) 4
def rfits (b : List (BitVec 8)) : Bool := decide (4 ≤ b.length) && decide (rseal (b.take (b.length - 4)) = b)

theorem shr_shr (n : BitVec 32) (k : Nat) : n >>> k >>> 1 = n >>> (k + 1) := by rw [BitVec.shiftRight_add]
theorem crc_and_one (n : BitVec 32) : (n &&& 1#32 = 1#32) ↔ n.getLsbD 0 = true := by
  constructor
  · intro h
    have := congrArg (fun x => x.getLsbD 0) h
    simpa using this
  · intro h
    apply BitVec.eq_of_getLsbD_eq
    intro i hi
    by_cases h0 : i = 0
    · subst h0; simpa using h
    · rw [BitVec.getLsbD_and, BitVec.getLsbD_one]
      simp [h0]
theorem crc_step_eq (n : BitVec 32) : cstep n = n >>> 1 ^^^ (if n.getLsbD 0 = true then 3988292384#32 else 0#32) := by
  unfold cstep
  by_cases h : n.getLsbD 0 = true
  · rw [if_pos ((crc_and_one n).2 h), if_pos h]
  · rw [if_neg (fun hh => h ((crc_and_one n).1 hh)), if_neg h, BitVec.xor_zero]
theorem crc_step_xor (a b : BitVec 32) : cstep (a ^^^ b) = cstep a ^^^ cstep b := by
  rw [crc_step_eq, crc_step_eq, crc_step_eq, BitVec.getLsbD_xor, BitVec.ushiftRight_xor_distrib]
  generalize a >>> 1 = x
  generalize b >>> 1 = y
  cases a.getLsbD 0 <;> cases b.getLsbD 0
  · simp
  · simp [BitVec.xor_assoc]
  · simp only [Bool.xor_false, if_true, Bool.false_eq_true, if_false, BitVec.xor_zero]
    rw [BitVec.xor_assoc, BitVec.xor_comm y, BitVec.xor_assoc]
  · simp only [Bool.xor_self, if_true, Bool.false_eq_true, if_false, BitVec.xor_zero]
    rw [BitVec.xor_assoc, ← BitVec.xor_assoc (3988292384#32), BitVec.xor_comm (3988292384#32) y, BitVec.xor_assoc y, BitVec.xor_self, BitVec.xor_zero]
theorem crc_steps_xor (a b : BitVec 32) : ∀ k, csteps k (a ^^^ b) = csteps k a ^^^ csteps k b
  | 0 => rfl
  | k + 1 => by rw [csteps, crc_steps_xor a b k, crc_step_xor]; rfl
theorem crc_step_even (n : BitVec 32) (h : n.getLsbD 0 = false) : cstep n = n >>> 1 := by
  rw [crc_step_eq, h]; simp
theorem crc_steps_even (z : BitVec 32) : ∀ k, (∀ i, i < k → z.getLsbD i = false) → csteps k z = z >>> k
  | 0, _ => by simp [csteps]
  | k + 1, h => by
    rw [csteps, crc_steps_even z k (fun i hi => h i (by omega)), crc_step_even _ (by rw [BitVec.getLsbD_ushiftRight]; exact h _ (by omega)), shr_shr]
theorem crc_steps_byte (n : BitVec 32) (c : BitVec 8) : csteps 8 (n ^^^ c.setWidth 32) = cmore1 n c := by
  have h : n ^^^ c.setWidth 32 = (n >>> 8) <<< 8 ^^^ (n.setWidth 8 ^^^ c).setWidth 32 := by
    apply BitVec.eq_of_getLsbD_eq
    intro i hi
    simp only [BitVec.getLsbD_xor, BitVec.getLsbD_shiftLeft, BitVec.getLsbD_ushiftRight, BitVec.getLsbD_setWidth]
    by_cases h8 : i < 8
    · simp [h8, hi]
    · have e : 8 + (i - 8) = i := by omega
      simp [h8, hi, e, BitVec.getLsbD_of_ge c i (by omega)]
  rw [h, crc_steps_xor, crc_steps_even]
  · unfold cmore1 ccol
    congr 1
    apply BitVec.eq_of_getLsbD_eq
    intro i hi
    simp only [BitVec.getLsbD_shiftLeft, BitVec.getLsbD_ushiftRight]
    by_cases h32 : 8 + i < 32
    · simp [h32]
    · simp [h32, BitVec.getLsbD_of_ge n (8 + i) (by omega)]
  · intro i hi
    simp [BitVec.getLsbD_shiftLeft, hi]
theorem chalf (n : BitVec 32) : n / 2#32 = n >>> 1 := by
  apply BitVec.eq_of_toNat_eq
  rw [BitVec.toNat_udiv, BitVec.toNat_ushiftRight, Nat.shiftRight_eq_div_pow]
  rfl
theorem clow (n m : BitVec 32) : n % 2#32 = m % 2#32 ↔ n.getLsbD 0 = m.getLsbD 0 := by
  have e (x : BitVec 32) : x.getLsbD 0 = decide (x.toNat % 2 = 1) := by
    rw [BitVec.getLsbD, Nat.testBit_zero]
  rw [e, e]
  constructor
  · intro h
    have := congrArg BitVec.toNat h
    simp only [BitVec.toNat_umod, BitVec.toNat_ofNat] at this
    have h2 : n.toNat % 2 = m.toNat % 2 := this
    rw [h2]
  · intro h
    apply BitVec.eq_of_toNat_eq
    simp only [BitVec.toNat_umod, BitVec.toNat_ofNat]
    show n.toNat % 2 = m.toNat % 2
    rw [decide_eq_decide] at h
    omega
theorem rbit_eq (c : BitVec 8) (k : Nat) (n : BitVec 32) : rbit c k n = n >>> 1 ^^^ (if (c.getLsbD k != n.getLsbD 0) = true then 3988292384#32 else 0#32) := by
  unfold rbit
  have hb : ((c >>> k).setWidth 32).getLsbD 0 = c.getLsbD k := by
    simp
    intro h
    rcases Nat.lt_or_ge k 32 with h1 | h1
    · exact h1
    · rw [BitVec.getLsbD_of_ge c k (by omega)] at h; cases h
  by_cases h : c.getLsbD k = n.getLsbD 0
  · rw [if_pos ((clow _ _).2 (by rw [hb]; exact h)), chalf, h]
    simp
  · rw [if_neg (fun hh => h (by rw [← hb]; exact (clow _ _).1 hh)), chalf]
    have : (c.getLsbD k != n.getLsbD 0) = true := by simpa using h
    rw [this]; simp
theorem rbits_eq (c : BitVec 8) (n : BitVec 32) : ∀ k, csteps k (n ^^^ c.setWidth 32) = rbits c n k ^^^ (c.setWidth 32) >>> k
  | 0 => by simp [csteps, rbits]
  | k + 1 => by
    have hc : (c.setWidth 32 >>> k).getLsbD 0 = c.getLsbD k := by
      simp only [BitVec.getLsbD_ushiftRight, BitVec.getLsbD_setWidth, Nat.add_zero]
      by_cases h : k < 32
      · simp [h]
      · simp [h, BitVec.getLsbD_of_ge c k (by omega)]
    rw [csteps, rbits_eq c n k, rbits, crc_step_eq, rbit_eq, BitVec.getLsbD_xor, hc, BitVec.ushiftRight_xor_distrib, shr_shr]
    generalize rbits c n k >>> 1 = x
    generalize c.setWidth 32 >>> (k + 1) = y
    generalize rbits c n k = r
    have : (r.getLsbD 0 ^^ c.getLsbD k) = (c.getLsbD k != r.getLsbD 0) := by cases r.getLsbD 0 <;> cases c.getLsbD k <;> rfl
    rw [this, BitVec.xor_assoc, BitVec.xor_assoc]
    congr 1
    exact BitVec.xor_comm _ _
theorem rbyte_eq (n : BitVec 32) (c : BitVec 8) : rbyte n c = cmore1 n c := by
  rw [← crc_steps_byte, rbits_eq]
  have : (c.setWidth 32) >>> 8 = 0#32 := by
    apply BitVec.eq_of_getLsbD_eq
    intro i hi
    simp [BitVec.getLsbD_of_ge c (8 + i) (by omega)]
  rw [this, BitVec.xor_zero]
  rfl
theorem ones_sub (x : BitVec 32) : 4294967295#32 - x = ~~~ x := by
  apply BitVec.eq_of_toNat_eq
  have := x.isLt
  rw [BitVec.toNat_sub, BitVec.toNat_not]
  simp only [BitVec.toNat_ofNat]
  omega
theorem rsum_eq (b : List (BitVec 8)) : rsum b = csum b := by
  unfold rsum csum cmore
  rw [ones_sub]
  congr 1
  rw [show (~~~ (0#32)) = 4294967295#32 by decide]
  congr 1
  funext n c
  exact rbyte_eq n c
theorem low8 (n : BitVec 32) : (n % 256#32).setWidth 8 = n.setWidth 8 := by
  apply BitVec.eq_of_toNat_eq
  simp only [BitVec.toNat_setWidth, BitVec.toNat_umod, BitVec.toNat_ofNat]
  show n.toNat % 256 % 256 = n.toNat % 256
  omega
theorem by8 (n : BitVec 32) : n / 256#32 = n >>> 8 := by
  apply BitVec.eq_of_toNat_eq
  rw [BitVec.toNat_udiv, BitVec.toNat_ushiftRight, Nat.shiftRight_eq_div_pow]
  rfl
theorem rfour_eq (n : BitVec 32) : rfour n 4 = cfour n := by
  simp only [rfour, rdiv, cfour, low8, by8, List.nil_append, List.cons_append, ← BitVec.shiftRight_add]
def xor3 (a b c : List (BitVec 8)) : List (BitVec 8) := (List.zip a (List.zip b c)).map fun p => p.1 ^^^ p.2.1 ^^^ p.2.2
def bstep (n : BitVec 32) (b : Bool) : BitVec 32 := cstep (n ^^^ (if b = true then 1#32 else 0#32))
theorem shift_split (z : BitVec 32) (k : Nat) : z >>> k = (if z.getLsbD k = true then 1#32 else 0#32) ^^^ (z >>> (k + 1)) <<< 1 := by
  apply BitVec.eq_of_getLsbD_eq
  intro i hi
  simp only [BitVec.getLsbD_xor, BitVec.getLsbD_ushiftRight, BitVec.getLsbD_shiftLeft]
  by_cases h0 : i = 0
  · subst h0
    cases z.getLsbD k <;> simp
  · have e : k + 1 + (i - 1) = k + i := by omega
    have h1 : ¬ i < 1 := by omega
    rw [e]
    have : ((if z.getLsbD k = true then 1#32 else 0#32) : BitVec 32).getLsbD i = false := by
      split <;> simp [BitVec.getLsbD_one, h0]
    rw [this]
    simp [h1, hi]
theorem csteps_bits (n z : BitVec 32) : ∀ k, csteps k (n ^^^ z) = ((List.range k).map z.getLsbD).foldl bstep n ^^^ z >>> k
  | 0 => by simp [csteps]
  | k + 1 => by
    rw [csteps, csteps_bits n z k, List.range_succ, List.map_append, List.foldl_append]
    simp only [List.map_cons, List.map_nil, List.foldl_cons, List.foldl_nil]
    generalize ((List.range k).map z.getLsbD).foldl bstep n = f
    rw [shift_split z k, ← BitVec.xor_assoc, crc_step_xor]
    unfold bstep
    congr 1
    rw [crc_step_even _ (by simp [BitVec.getLsbD_shiftLeft])]
    apply BitVec.eq_of_getLsbD_eq
    intro i hi
    simp only [BitVec.getLsbD_ushiftRight, BitVec.getLsbD_shiftLeft]
    by_cases h : 1 + i < 32
    · have e : 1 + i - 1 = i := by omega
      have h1 : ¬ (1 + i < 1) := by omega
      simp [h, e, h1]
    · have : i = 31 := by omega
      subst this
      simp [BitVec.getLsbD_of_ge z (k + 1 + 31) (by omega)]
def bits8 (c : BitVec 8) : List Bool := (List.range 8).map c.getLsbD
def bits32 (w : BitVec 32) : List Bool := (List.range 32).map w.getLsbD
theorem more1_bits (n : BitVec 32) (c : BitVec 8) : cmore1 n c = (bits8 c).foldl bstep n := by
  rw [← crc_steps_byte, csteps_bits]
  have : (c.setWidth 32) >>> 8 = 0#32 := by
    apply BitVec.eq_of_getLsbD_eq
    intro i hi
    simp [BitVec.getLsbD_of_ge c (8 + i) (by omega)]
  rw [this, BitVec.xor_zero]
  have e : (List.range 8).map (c.setWidth 32 : BitVec 32).getLsbD = bits8 c := by
    unfold bits8
    apply List.map_congr_left
    intro i hi
    have : i < 8 := by simpa using hi
    simp [show i < 32 by omega]
  rw [e]
theorem word_bits (n w : BitVec 32) : csteps 32 (n ^^^ w) = (bits32 w).foldl bstep n := by
  rw [csteps_bits]
  have : w >>> 32 = 0#32 := by
    apply BitVec.eq_of_getLsbD_eq
    intro i hi
    simp [BitVec.getLsbD_of_ge w (32 + i) (by omega)]
  rw [this, BitVec.xor_zero]; rfl
theorem fold_bits : ∀ (b : List (BitVec 8)) (n : BitVec 32), b.foldl cmore1 n = (b.flatMap bits8).foldl bstep n
  | [], n => rfl
  | c :: b, n => by
    rw [List.foldl_cons, fold_bits b, List.flatMap_cons, List.foldl_append, more1_bits]
theorem four_bits (n : BitVec 32) : (cfour n).flatMap bits8 = bits32 n := by
  unfold cfour bits32 bits8
  simp only [List.flatMap_cons, List.flatMap_nil, List.append_nil]
  rw [show List.range 32 = List.range 8 ++ ((List.range 8).map (8 + ·) ++ ((List.range 8).map (16 + ·) ++ (List.range 8).map (24 + ·))) from by decide]
  simp only [List.map_append, List.map_map]
  have key : ∀ k : Nat, ((List.range 8).map ((n >>> k).setWidth 8 : BitVec 8).getLsbD) = (List.range 8).map (n.getLsbD ∘ (k + ·)) := by
    intro k
    apply List.map_congr_left
    intro i hi
    have : i < 8 := by simpa using hi
    simp [this]
  have k0 : ((List.range 8).map (n.setWidth 8 : BitVec 8).getLsbD) = (List.range 8).map n.getLsbD := by
    apply List.map_congr_left
    intro i hi
    have : i < 8 := by simpa using hi
    simp [this]
  rw [k0, key 8, key 16, key 24]
theorem bstep_xor (n m : BitVec 32) (a b : Bool) : bstep (n ^^^ m) (a ^^ b) = bstep n a ^^^ bstep m b := by
  unfold bstep
  rw [← crc_step_xor]
  congr 1
  cases a <;> cases b <;> simp only [Bool.xor_false, Bool.false_xor, Bool.xor_self, Bool.xor_true, Bool.not_false, if_true, Bool.false_eq_true, if_false, BitVec.xor_zero]
  all_goals first
    | ac_rfl
    | rw [BitVec.xor_assoc n 1#32, ← BitVec.xor_assoc 1#32 m, BitVec.xor_comm 1#32 m, BitVec.xor_assoc m, BitVec.xor_self, BitVec.xor_zero]
theorem bfold_xor : ∀ (a b : List Bool) (n m : BitVec 32), a.length = b.length → (List.zipWith (· ^^ ·) a b).foldl bstep (n ^^^ m) = a.foldl bstep n ^^^ b.foldl bstep m
  | [], [], _, _, _ => rfl
  | x :: a, y :: b, n, m, h => by
    simp only [List.zipWith_cons_cons, List.foldl_cons, bstep_xor]
    exact bfold_xor a b _ _ (by simpa using h)
  | [], _ :: _, _, _, h => by simp at h
  | _ :: _, [], _, _, h => by simp at h
theorem cstep_inj {n : BitVec 32} (h : cstep n = 0#32) : n = 0#32 := by
  rw [crc_step_eq] at h
  by_cases h0 : n.getLsbD 0 = true
  · rw [if_pos h0] at h
    have := congrArg (fun x => x.getLsbD 31) h
    simp [BitVec.getLsbD_of_ge n 32 (by omega)] at this
  · rw [if_neg h0, BitVec.xor_zero] at h
    apply BitVec.eq_of_getLsbD_eq
    intro i hi
    rcases Nat.eq_zero_or_pos i with hz | hz
    · subst hz; simpa using h0
    · have := congrArg (fun x => x.getLsbD (i - 1)) h
      simp only [BitVec.getLsbD_ushiftRight] at this
      rw [show 1 + (i - 1) = i by omega] at this
      simpa using this
theorem csteps_inj : ∀ {k : Nat} {n : BitVec 32}, csteps k n = 0#32 → n = 0#32
  | 0, n, h => h
  | k + 1, n, h => csteps_inj (k := k) (cstep_inj h)
theorem bfold_zeros (n : BitVec 32) : ∀ k, (List.replicate k false).foldl bstep n = csteps k n := by
  have key : ∀ k (n : BitVec 32), csteps k (cstep n) = cstep (csteps k n) := by
    intro k
    induction k with
    | zero => intro n; rfl
    | succ k ih => intro n; rw [csteps, ih, csteps]
  intro k
  induction k generalizing n with
  | zero => rfl
  | succ k ih =>
    rw [List.replicate_succ, List.foldl_cons, ih, csteps, ← key]
    simp [bstep]
theorem csteps_zero : ∀ k, csteps k 0#32 = 0#32
  | 0 => rfl
  | k + 1 => by rw [csteps, csteps_zero k]; rfl
theorem burst {k m : Nat} {w : BitVec 32} (h : (List.replicate k false ++ (bits32 w ++ List.replicate m false)).foldl bstep 0#32 = 0#32) : w = 0#32 := by
  rw [List.foldl_append, List.foldl_append, bfold_zeros 0#32 k, csteps_zero, ← word_bits, bfold_zeros, BitVec.zero_xor] at h
  exact csteps_inj (csteps_inj h)
theorem sealed_fold (b : List (BitVec 8)) : (b ++ cfour (csum b)).foldl cmore1 (~~~ 0#32) = csteps 32 (~~~ 0#32) := by
  rw [List.foldl_append, fold_bits (cfour _), four_bits, ← word_bits]
  congr 1
  unfold csum cmore
  generalize b.foldl cmore1 (~~~ 0#32) = x
  apply BitVec.eq_of_getLsbD_eq
  intro i hi
  simp only [BitVec.getLsbD_xor, BitVec.getLsbD_not, hi, decide_true, Bool.true_and, BitVec.getLsbD_zero]
  cases x.getLsbD i <;> rfl
theorem fits_fold {s : List (BitVec 8)} (h : cfits s = true) : s.foldl cmore1 (~~~ 0#32) = csteps 32 (~~~ 0#32) := by
  unfold cfits at h
  simp only [Bool.and_eq_true, decide_eq_true_eq] at h
  have : s = s.take (s.length - 4) ++ cfour (csum (s.take (s.length - 4))) := by rw [h.2, List.take_append_drop]
  rw [this]
  exact sealed_fold _
def bitAt (s : List (BitVec 8)) (p : Nat) : Bool := (s.getD (p / 8) 0#8).getLsbD (p % 8)
theorem bits_at : ∀ (s : List (BitVec 8)), s.flatMap bits8 = (List.range (8 * s.length)).map (bitAt s)
  | [] => rfl
  | c :: s => by
    rw [List.flatMap_cons, bits_at s, List.length_cons, show 8 * (s.length + 1) = 8 + 8 * s.length by omega, List.range_add, List.map_append, List.map_map]
    have e1 : bits8 c = (List.range 8).map (bitAt (c :: s)) := by
      unfold bits8
      apply List.map_congr_left
      intro i hi
      have : i < 8 := by simpa using hi
      simp [bitAt, Nat.div_eq_of_lt this, Nat.mod_eq_of_lt this]
    have e2 : (List.range (8 * s.length)).map (bitAt s) = (List.range (8 * s.length)).map (bitAt (c :: s) ∘ fun x => 8 + x) := by
      apply List.map_congr_left
      intro i hi
      simp only [bitAt, Function.comp]
      rw [show (8 + i) / 8 = i / 8 + 1 by omega, show (8 + i) % 8 = i % 8 by omega]
      rfl
    rw [e1, e2]
def turned (k : Nat) (w : BitVec 32) (p : Nat) : Bool := decide (k ≤ p ∧ p < k + 32) && w.getLsbD (p - k)
theorem turned_list {k n : Nat} (w : BitVec 32) (h : k + 32 ≤ n) : (List.range n).map (turned k w) = List.replicate k false ++ (bits32 w ++ List.replicate (n - k - 32) false) := by
  apply List.ext_getElem?
  intro i
  simp only [List.getElem?_map, List.getElem?_append, List.getElem?_replicate, List.length_replicate, bits32, List.length_map, List.length_range]
  by_cases h1 : i < k
  · rw [if_pos h1, List.getElem?_range (by omega)]
    simp [turned, h1, show ¬ k ≤ i by omega]
  · rw [if_neg h1]
    by_cases h2 : i - k < 32
    · rw [if_pos h2, List.getElem?_range (by omega), List.getElem?_range h2]
      simp [turned, show k ≤ i by omega, show i < k + 32 by omega]
    · rw [if_neg h2]
      by_cases h3 : i < n
      · rw [List.getElem?_range h3, if_pos (by omega)]
        simp [turned, show ¬ i < k + 32 by omega]
      · rw [if_neg (by omega), List.getElem?_eq_none (by simp; omega)]; rfl
theorem tells {s t : List (BitVec 8)} {k : Nat} {w : BitVec 32} (hw : w ≠ 0#32) (hl : t.length = s.length) (hk : k + 32 ≤ 8 * s.length) (hs : cfits s = true) (ht : ∀ p, p < 8 * s.length → bitAt t p = (bitAt s p ^^ turned k w p)) : cfits t = false := by
  cases hf : cfits t with
  | false => rfl
  | true =>
    exfalso
    apply hw
    have e1 := fits_fold hs
    have e2 := fits_fold hf
    rw [fold_bits, bits_at] at e1 e2
    rw [hl] at e2
    have e3 : (List.range (8 * s.length)).map (bitAt t) = List.zipWith (· ^^ ·) ((List.range (8 * s.length)).map (bitAt s)) ((List.range (8 * s.length)).map (turned k w)) := by
      rw [List.zipWith_map, List.zipWith_self]
      exact List.map_congr_left (fun p hp => ht p (by simpa using hp))
    have e4 := bfold_xor ((List.range (8 * s.length)).map (bitAt s)) ((List.range (8 * s.length)).map (turned k w)) (~~~ 0#32) 0#32 (by simp)
    rw [← e3, BitVec.xor_zero, e1, e2] at e4
    have e5 : ((List.range (8 * s.length)).map (turned k w)).foldl bstep 0#32 = 0#32 := by
      generalize ((List.range (8 * s.length)).map (turned k w)).foldl bstep 0#32 = x at e4
      generalize csteps 32 (~~~ 0#32) = r at e4
      have := congrArg (r ^^^ ·) e4
      simp only [BitVec.xor_self, ← BitVec.xor_assoc, BitVec.zero_xor] at this
      exact this.symm
    rw [turned_list w hk] at e5
    exact burst e5
end Go.Va
namespace Go.Proofs.YtedcgeghgbgonaaGreatDoor
open Go Go.Va
set_option linter.unusedVariables false
set_option linter.unusedSimpArgs false
theorem column_eq (c : BitVec 8) : checksum_column c = some (ccol c) := by
  have k := loopO_up (body := fun s => checksum_column_b0 s.1 s.2) (fun i : Nat => (csteps i (c.setWidth 32), (i : Int))) 8 (x := ccol c) (fun i hi => by
    simp only [checksum_column_b0, lt_eq]
    rw [if_pos (decide_eq_true (by omega)), w64_nat (by omega)]
    rw [show csteps (i + 1) (c.setWidth 32) = cstep (csteps i (c.setWidth 32)) from rfl]
    unfold cstep
    by_cases h : csteps i (c.setWidth 32) &&& 1#32 = 1#32
    · rw [if_pos (by simpa using h), if_pos h]
    · rw [if_neg (by simpa using h), if_neg h]) (by
    simp only [checksum_column_b0, lt_eq]
    rw [if_neg (by simp)]
    rfl)
  have k' : checksum_column_l0 (c.setWidth 32, 0) = some (ccol c) := k
  unfold checksum_column
  simp only [lt_eq, k', Option.bind_some]
theorem more_eq (n : BitVec 32) {b : List (BitVec 8)} (hb : b.length ≤ 1000000000) : checksum_More n b = some (cmore n b) := by
  have k := loopO_up (body := fun s => checksum_More_b0 b (b.length : Int) s.1 s.2) (fun i : Nat => ((b.take i).foldl cmore1 (~~~ n), (i : Int))) b.length (x := b.foldl cmore1 (~~~ n)) (fun i hi => by
    simp only [checksum_More_b0, lt_eq]
    rw [if_pos (decide_eq_true (by omega)), ix_nat hi]
    simp only [Option.bind_some, column_eq]
    rw [w64_nat (by omega), List.take_add_one, List.getElem?_eq_getElem hi, List.foldl_append]
    rfl) (by
    simp only [checksum_More_b0, lt_eq, List.take_length]
    rw [if_neg (by rw [decide_eq_false (by omega)]; simp)])
  have k' : checksum_More_l0 b (b.length : Int) (~~~ n, 0) = some (b.foldl cmore1 (~~~ n)) := k
  unfold checksum_More
  simp only [lt_eq, k', Option.bind_some]
  rfl
theorem sum_eq {b : List (BitVec 8)} (hb : b.length ≤ 1000000000) : checksum_Sum b = some (csum b) := by
  unfold checksum_Sum
  simp only [more_eq _ hb, Option.bind_some]
  rfl
theorem four_eq (n : BitVec 32) : checksum_Four n = some (cfour n) := by
  unfold checksum_Four
  simp only [lt_eq]
  rw [stW_eq (by simp) (by simp)]
  rfl
theorem cfour_len (n : BitVec 32) : (cfour n).length = 4 := rfl
theorem cseal_len (b : List (BitVec 8)) : (cseal b).length = b.length + 4 := by simp [cseal, cfour_len]
theorem seal_eq {b : List (BitVec 8)} (hb : b.length ≤ 1000000000) : checksum_Seal b = some (cseal b) := by
  unfold checksum_Seal
  simp only [sum_eq hb, four_eq, Option.bind_some]
  rw [stW_eq (by simp) (cfour_len _)]
  simp only [Option.bind_some]
  rw [app_eq (by simp; omega), whole_eq (cfour_len _)]
  simp only [Option.bind_some, List.nil_append]
  rw [app_eq (by simp [cfour_len]; omega)]
  rfl
theorem fits_eq {b : List (BitVec 8)} (hb : b.length ≤ 1000000000) : checksum_Fits b = some (cfits b) := by
  unfold checksum_Fits cfits
  simp only [lt_eq]
  rw [w64_eq (by omega) (by omega)]
  by_cases h : 4 ≤ b.length
  · rw [if_neg (by rw [decide_eq_false (by omega)]; simp), show (b.length : Int) - 4 = ((b.length - 4 : Nat) : Int) by omega, cutTo_eq (by omega), cutFrom_eq (by omega)]
    simp only [Option.bind_some]
    rw [sum_eq (by rw [List.length_take]; omega)]
    simp only [Option.bind_some, four_eq]
    rw [show (4 : Int) = ((4 : Nat) : Int) from rfl, cutTo_eq (by rw [List.length_drop]; omega)]
    have hl : ((b.drop (b.length - 4)).take 4).length = 4 := by rw [List.length_take, List.length_drop]; omega
    simp only [Option.bind_some]
    rw [whole_eq hl]
    simp only [Option.bind_some]
    rw [eqA_eq (cfour_len _) hl]
    have ht : (b.drop (b.length - 4)).take 4 = b.drop (b.length - 4) := List.take_of_length_le (by rw [List.length_drop]; omega)
    rw [ht]
    simp only [Option.bind_some, decide_eq_true h, Bool.true_and]
    congr 1
    exact Bool.eq_iff_iff.2 (by simp)
  · rw [if_pos (decide_eq_true (by omega)), decide_eq_false h]
    rfl
theorem cseal_fits (b : List (BitVec 8)) : cfits (cseal b) = true := by
  unfold cfits
  rw [cseal_len, decide_eq_true (by omega), show b.length + 4 - 4 = b.length by omega]
  unfold cseal
  rw [List.take_left, List.drop_left]
  simp
theorem rcSum_eq {b : List (BitVec 8)} (hb : b.length ≤ 1000000000) : R03_Sum b = some (csum b) := by
  have inner : ∀ (n : BitVec 32) (i : Nat) (hi : i < b.length), R03_Sum_l1 b (i : Int) (n, 0) = some (rbyte n b[i]) := fun n i hi => by
    have k := loopO_up (body := fun s => R03_Sum_b1 b (i : Int) s.1 s.2) (fun j : Nat => (rbits b[i] n j, (j : Int))) 8 (x := rbyte n b[i]) (fun j hj => by
      simp only [R03_Sum_b1, lt_eq, ix_nat hi, sc_nat, Option.map_some, Option.bind_some]
      rw [if_pos (decide_eq_true (by omega)), w64_nat (by omega)]
      rw [show rbits b[i] n (j + 1) = rbit b[i] j (rbits b[i] n j) from rfl]
      unfold rbit
      by_cases h : (b[i] >>> j).setWidth 32 % 2#32 = rbits b[i] n j % 2#32
      · rw [if_neg (by rw [h]; simp), if_pos h]
      · rw [if_pos (bne_iff_ne.2 h), if_neg h]) (by
      simp only [R03_Sum_b1, lt_eq]
      rw [if_neg (by simp)]
      rfl)
    exact k
  have k := loopO_foldl b rbyte id (body := fun s => R03_Sum_b0 b s.1 s.2) (fun s i hi => by
    simp only [R03_Sum_b0, lt_eq]
    rw [if_pos (decide_eq_true (by omega)), inner _ _ hi]
    simp only [Option.bind_some]
    rw [w64_nat (by omega)]) (fun s => by
    simp only [R03_Sum_b0, lt_eq]
    rw [if_neg (by simp)]
    rfl) 4294967295#32
  have k' : R03_Sum_l0 b (4294967295#32, 0) = some (b.foldl rbyte 4294967295#32) := k
  unfold R03_Sum
  simp only [lt_eq, k', Option.bind_some]
  rw [← rsum_eq]
  rfl
theorem rcSeal_eq {b : List (BitVec 8)} (hb : b.length ≤ 1000000000) : R03_Seal b = some (cseal b) := by
  have k := loopO_up (body := fun s => R03_Seal_b0 s.1 s.2.1 s.2.2) (fun i : Nat => (b ++ rfour (csum b) i, rdiv (csum b) i, (i : Int))) 4 (x := b ++ rfour (csum b) 4) (fun i hi => by
    simp only [R03_Seal_b0, lt_eq]
    have hl := rfour_len (csum b) i
    rw [if_pos (decide_eq_true (by omega)), app_eq (by simp [hl]; omega)]
    simp only [Option.bind_some]
    rw [w64_nat (by omega), List.append_assoc]
    rfl) (by
    simp only [R03_Seal_b0, lt_eq]
    rw [if_neg (by simp)])
  have k' : R03_Seal_l0 (b, csum b, 0) = some (b ++ rfour (csum b) 4) := by
    have := k
    simp only [rfour, rdiv, List.append_nil] at this ⊢
    exact this
  unfold R03_Seal
  rw [app_eq (by simp; omega)]
  simp only [Option.bind_some, rcSum_eq hb, List.nil_append, k']
  rw [rfour_eq]
  rfl
def ptsA (k : Int) : List (BitVec 8) := if k = 2 then [65#8, 70#8] else if k = 3 ∨ k = 4 then [75#8, 65#8] else if k = 5 then [73#8, 75#8] else if k = 6 then [73#8, 75#8, 65#8, 70#8, 86#8] else []
theorem parts_eq (k : Int) : wire_parts k = some (ptsA k) := by
  unfold wire_parts ptsA
  simp only [lt_eq]
  by_cases h2 : k = 2
  · subst h2; rfl
  by_cases h3 : k = 3
  · subst h3; rfl
  by_cases h4 : k = 4
  · subst h4; rfl
  by_cases h5 : k = 5
  · subst h5; rfl
  by_cases h6 : k = 6
  · subst h6; rfl
  simp [h2, h3, h4, h5, h6]
theorem down_eq (k : Int) : wire_down k = some (decide (k = 2 ∨ k = 3 ∨ k = 6)) := by
  unfold wire_down
  simp only [lt_eq]
  by_cases h2 : k = 2
  · subst h2; rfl
  by_cases h3 : k = 3
  · subst h3; rfl
  by_cases h6 : k = 6
  · subst h6; rfl
  simp [h2, h3, h6]
theorem lease_eq (k : Int) : R23_lease k = some (decide (k = 5 ∨ k = 6)) := by
  unfold R23_lease
  simp only [lt_eq]
  by_cases h2 : k = 5
  · subst h2; rfl
  by_cases h3 : k = 6
  · subst h3; rfl
  simp [h2, h3]
theorem hkey_eq (k : Int) : R23_key k = some (decide (k = 3 ∨ k = 4 ∨ k = 5 ∨ k = 6)) := by
  unfold R23_key
  simp only [lt_eq]
  by_cases h1 : k ≥ 3
  · rw [if_pos (decide_eq_true h1)]
    congr 1
    exact decide_eq_decide.2 (by omega)
  · rw [if_neg (by rw [decide_eq_false h1]; simp), decide_eq_false (by omega)]
theorem asof_eq (k : Int) : R23_asof k = some (decide (k = 2 ∨ k = 3 ∨ k = 4 ∨ k = 6)) := by
  unfold R23_asof
  simp only [lt_eq]
  by_cases h2 : k = 2
  · subst h2; rfl
  by_cases h3 : k = 3
  · subst h3; rfl
  by_cases h4 : k = 4
  · subst h4; rfl
  by_cases h6 : k = 6
  · subst h6; rfl
  simp [h2, h3, h4, h6]
theorem hfound_eq (k : Int) : R23_found k = some (decide (k = 2 ∨ k = 6)) := by
  unfold R23_found
  simp only [lt_eq]
  by_cases h2 : k = 2
  · subst h2; rfl
  by_cases h3 : k = 6
  · subst h3; rfl
  simp [h2, h3]
def stC (m : api_Msg) (c : BitVec 8) (r : api_Msg) : Int × api_Msg :=
  if c = 73#8 then (if m.Id < 1 ∨ m.Id > 1099511627776 then (2, r) else (0, { r with Id := 0 }))
  else if c = 75#8 then (if ckK m.X.Key ≠ 0 then (ckK m.X.Key, r) else (0, { r with X := { r.X with Key := [] } }))
  else if c = 65#8 then (if m.X.AsOf < 0 ∨ m.X.AsOf > 1099511627776 then (2, r) else (0, { r with X := { r.X with AsOf := 0 } }))
  else if c = 70#8 then (0, { r with Found := false })
  else (if m.Found = true then (if ckE m.X ≠ 0 then (ckE m.X, r) else (0, { r with X := zeroE })) else (0, r))
def ckL (m : api_Msg) : List (BitVec 8) → api_Msg → Int × api_Msg
  | [], r => (0, r)
  | c :: l, r => if (stC m c r).1 = 0 then ckL m l (stC m c r).2 else ((stC m c r).1, r)
def isP (c : BitVec 8) : Prop := c = 73#8 ∨ c = 75#8 ∨ c = 65#8 ∨ c = 70#8 ∨ c = 86#8
theorem ptsA_is (k : Int) : ∀ c ∈ ptsA k, isP c := by
  intro c hc
  unfold ptsA at hc
  unfold isP
  repeat' split at hc
  all_goals simp at hc
  all_goals first
    | (rcases hc with rfl | rfl | rfl | rfl | rfl <;> simp)
    | (rcases hc with rfl | rfl <;> simp)
theorem nxS_at {s l : List (BitVec 8)} {p : Nat} {c : BitVec 8} (h : s.drop p = c :: l) (hc : c.toNat < 128) : nxS (s, p) = some (some (c.toNat : Int)) ∧ s.drop (p + 1) = l := by
  obtain ⟨hp, h1, h2⟩ := drop_cons h
  refine ⟨?_, h2⟩
  unfold nxS
  simp only [List.getElem?_eq_getElem hp, h1]
  rw [if_pos hc]
theorem nxS_end {s : List (BitVec 8)} {p : Nat} (h : s.drop p = []) : nxS (s, p) = some none := by
  unfold nxS
  rw [List.getElem?_eq_none (List.drop_eq_nil_iff.1 h)]
theorem chk_l (m : api_Msg) : ∀ (l : List (BitVec 8)) (s : List (BitVec 8)) (p : Nat) (r : api_Msg), (∀ c ∈ l, isP c) → s.drop p = l →
    ∃ o, wire_Check_l0 m ((s, p), r) = some o ∧ ((ckL m l r).1 = 0 → ∃ q, o = .inl (q, (ckL m l r).2)) ∧ ((ckL m l r).1 ≠ 0 → ∃ e, o = .inr e ∧ codeOf e = (ckL m l r).1 ∧ e.isNil = false)
  | [], s, p, r, _, h => by
    refine ⟨.inl ((s, p), r), loopO_out (body := fun s => wire_Check_b0 m s.1 s.2) ?_, fun _ => ⟨_, rfl⟩, fun h => absurd rfl h⟩
    simp only [wire_Check_b0, nxS_end h, Option.bind_some, Option.elim_none]
  | c :: l, s, p, r, hl, h => by
    have hc := hl c (List.mem_cons_self ..)
    obtain ⟨h1, h2⟩ := nxS_at (c := c) h (by rcases hc with rfl | rfl | rfl | rfl | rfl <;> decide)
    have key : ((stC m c r).1 = 0 → wire_Check_b0 m (s, p) r = some (.inl ((s, p + 1), (stC m c r).2))) ∧ ((stC m c r).1 ≠ 0 → ∃ e, wire_Check_b0 m (s, p) r = some (.inr (.inr e)) ∧ codeOf e = (stC m c r).1 ∧ e.isNil = false) := by
      simp only [wire_Check_b0, h1, Option.bind_some, Option.elim_some, lt_eq]
      unfold stC
      rcases hc with rfl | rfl | rfl | rfl | rfl
      · simp only [show ((((73#8 : BitVec 8).toNat : Int)) == 73) = true from rfl, if_true]
        by_cases h3 : m.Id < 1
        · simp [h3, new_eq, codeOf, Err.isNil]
        · by_cases h4 : m.Id > 1099511627776
          · simp [h3, h4, new_eq, codeOf, Err.isNil]
          · simp [h3, h4]
      · simp only [show ((((75#8 : BitVec 8).toNat : Int)) == 73) = false from rfl, show ((((75#8 : BitVec 8).toNat : Int)) == 75) = true from rfl, Bool.false_eq_true, if_false, if_true, show ¬ (75#8 : BitVec 8) = 73#8 by decide, octKey_eq, Option.bind_some]
        by_cases h3 : ckK m.X.Key = 0
        · simp [h3]
        · simp [h3, new_eq _ _ _ h3, codeOf, Err.isNil]
      · simp only [show ((((65#8 : BitVec 8).toNat : Int)) == 73) = false from rfl, show ((((65#8 : BitVec 8).toNat : Int)) == 75) = false from rfl, show ((((65#8 : BitVec 8).toNat : Int)) == 65) = true from rfl, Bool.false_eq_true, if_false, if_true, show ¬ (65#8 : BitVec 8) = 73#8 by decide, show ¬ (65#8 : BitVec 8) = 75#8 by decide]
        by_cases h3 : m.X.AsOf < 0
        · simp [h3, new_eq, codeOf, Err.isNil]
        · by_cases h4 : m.X.AsOf > 1099511627776
          · simp [h3, h4, new_eq, codeOf, Err.isNil]
          · simp [h3, h4]
      · simp [show ((((70#8 : BitVec 8).toNat : Int)) == 73) = false from rfl, show ((((70#8 : BitVec 8).toNat : Int)) == 75) = false from rfl, show ((((70#8 : BitVec 8).toNat : Int)) == 65) = false from rfl]
      · obtain ⟨e, e1, e2, e3⟩ := check_eq m.X
        simp only [show ((((86#8 : BitVec 8).toNat : Int)) == 73) = false from rfl, show ((((86#8 : BitVec 8).toNat : Int)) == 75) = false from rfl, show ((((86#8 : BitVec 8).toNat : Int)) == 65) = false from rfl, show ((((86#8 : BitVec 8).toNat : Int)) == 70) = false from rfl, show ((((86#8 : BitVec 8).toNat : Int)) == 86) = true from rfl, Bool.false_eq_true, if_false, if_true, show ¬ (86#8 : BitVec 8) = 73#8 by decide, show ¬ (86#8 : BitVec 8) = 75#8 by decide, show ¬ (86#8 : BitVec 8) = 65#8 by decide, show ¬ (86#8 : BitVec 8) = 70#8 by decide, e1, Option.bind_some, e3]
        by_cases h3 : m.Found = true
        · by_cases h4 : ckE m.X = 0
          · simp [h3, h4, zeroE]
          · have h5 : e.isNil = false := by rw [e3]; simp [h4]
            simp only [h3, h4, Bool.not_true, Bool.false_eq_true, if_false, decide_false, Bool.not_false, if_true, wrap_eq _ _ e h5, Option.bind_some, ne_eq, not_false_eq_true]
            exact ⟨fun h => h.elim, fun _ => ⟨_, rfl, by simp [codeOf, e2], rfl⟩⟩
        · simp [h3]
    simp only [ckL]
    by_cases h3 : (stC m c r).1 = 0
    · rw [if_pos h3]
      obtain ⟨o, o1, o2, o3⟩ := chk_l m l s (p + 1) (stC m c r).2 (fun d hd => hl d (List.mem_cons_of_mem _ hd)) h2
      refine ⟨o, ?_, o2, o3⟩
      rw [← o1]
      exact loopO_in (body := fun s => wire_Check_b0 m s.1 s.2) (key.1 h3)
    · rw [if_neg h3]
      obtain ⟨e, e1, e2, e3⟩ := key.2 h3
      exact ⟨.inr e, loopO_out (body := fun s => wire_Check_b0 m s.1 s.2) e1, fun h => absurd h h3, fun _ => ⟨e, rfl, e2, e3⟩⟩
def ckF (m : api_Msg) : Int × Int := if m.Kind = 2 ∨ m.Kind = 3 ∨ m.Kind = 6 then (m.To, m.From) else (m.From, m.To)
def ckM (m : api_Msg) : Int :=
  if m.Kind < 1 ∨ m.Kind > 6 then 12 else
  if (ckF m).1 < 1 ∨ (ckF m).1 > 16 ∨ (ckF m).2 ≠ 0 ∨ m.Epoch < 1 ∨ m.Epoch > 1099511627776 then 2 else
  if (ckL m (ptsA m.Kind) { m with Kind := 0, From := 0, To := 0, Epoch := 0 }).1 ≠ 0 then (ckL m (ptsA m.Kind) { m with Kind := 0, From := 0, To := 0, Epoch := 0 }).1 else
  if (ckL m (ptsA m.Kind) { m with Kind := 0, From := 0, To := 0, Epoch := 0 }).2.Id ≠ 0 ∨ (ckL m (ptsA m.Kind) { m with Kind := 0, From := 0, To := 0, Epoch := 0 }).2.Found = true ∨ (ckL m (ptsA m.Kind) { m with Kind := 0, From := 0, To := 0, Epoch := 0 }).2.X ≠ zeroE then 5 else 0
theorem or_bool {a b : Prop} [Decidable a] [Decidable b] : (if decide a = true then some true else some (decide b) : Option Bool) = some (decide (a ∨ b)) := by
  by_cases h : a <;> simp [h]
theorem wcheck_eq (m : api_Msg) : ∃ e, wire_Check m = some e ∧ codeOf e = ckM m ∧ e.isNil = decide (ckM m = 0) := by
  unfold wire_Check ckM
  simp only [lt_eq, or_bool, Option.bind_some, down_eq, parts_eq]
  by_cases h1 : m.Kind < 1 ∨ m.Kind > 6
  · simp only [h1, decide_true, if_true, new_eq _ _ (12 : Int) (by decide), Option.bind_some]
    exact ⟨_, rfl, rfl, rfl⟩
  · simp only [decide_eq_false h1, if_neg h1, Bool.false_eq_true, if_false]
    have hf : (if decide (m.Kind = 2 ∨ m.Kind = 3 ∨ m.Kind = 6) = true then some (m.To, m.From) else some (m.From, m.To) : Option (Int × Int)) = some (ckF m) := by
      unfold ckF
      by_cases h : m.Kind = 2 ∨ m.Kind = 3 ∨ m.Kind = 6
      · rw [if_pos h, if_pos (decide_eq_true h)]
      · rw [if_neg h, if_neg (by rw [decide_eq_false h]; simp)]
    simp only [hf, Option.bind_some]
    generalize ckF m = f
    by_cases h2 : f.1 < 1 ∨ f.1 > 16 ∨ f.2 ≠ 0
    · have h3 : (if decide (f.1 < 1) = true then some true else if decide (f.1 > 16) = true then some true else some (f.2 != 0) : Option Bool) = some true := by
        by_cases a : f.1 < 1
        · simp [a]
        · by_cases b : f.1 > 16
          · simp [a, b]
          · have : f.2 ≠ 0 := by omega
            simp [a, b, this]
      have h2' : f.1 < 1 ∨ f.1 > 16 ∨ f.2 ≠ 0 ∨ m.Epoch < 1 ∨ m.Epoch > 1099511627776 := by omega
      rw [h3, if_pos h2']
      simp only [Option.bind_some, if_true, new_eq _ _ (2 : Int) (by decide)]
      exact ⟨_, rfl, rfl, rfl⟩
    · have h3 : (if decide (f.1 < 1) = true then some true else if decide (f.1 > 16) = true then some true else some (f.2 != 0) : Option Bool) = some false := by
        have : f.2 = 0 := by omega
        simp [show ¬ f.1 < 1 by omega, show ¬ f.1 > 16 by omega, this]
      rw [h3]
      simp only [Option.bind_some, Bool.false_eq_true, if_false]
      by_cases h4 : m.Epoch < 1 ∨ m.Epoch > 1099511627776
      · have h2' : f.1 < 1 ∨ f.1 > 16 ∨ f.2 ≠ 0 ∨ m.Epoch < 1 ∨ m.Epoch > 1099511627776 := by omega
        rw [decide_eq_true h4, if_pos h2']
        simp only [Option.bind_some, if_true, new_eq _ _ (2 : Int) (by decide)]
        exact ⟨_, rfl, rfl, rfl⟩
      · have h2' : ¬ (f.1 < 1 ∨ f.1 > 16 ∨ f.2 ≠ 0 ∨ m.Epoch < 1 ∨ m.Epoch > 1099511627776) := by omega
        rw [decide_eq_false h4, if_neg h2']
        simp only [Bool.false_eq_true, if_false]
        obtain ⟨o, o1, o2, o3⟩ := chk_l m (ptsA m.Kind) (ptsA m.Kind) 0 { m with Kind := 0, From := 0, To := 0, Epoch := 0 } (ptsA_is _) rfl
        simp only [o1, Option.bind_some]
        generalize ckL m (ptsA m.Kind) { m with Kind := 0, From := 0, To := 0, Epoch := 0 } = q at *
        by_cases h5 : q.1 = 0
        · obtain ⟨z, rfl⟩ := o2 h5
          simp only [Sum.elim_inl, h5, ne_eq, not_true_eq_false, if_false, isame_eq6, Option.bind_some]
          by_cases h6 : q.2.Id = 0
          · by_cases h7 : q.2.Found = true
            · simp [h6, h7, new_eq, codeOf, Err.isNil]
            · by_cases h8 : q.2.X = zeroE
              · simp [h6, h7, h8, zeroE, codeOf, Err.isNil]
              · have h9 : ¬ q.2.X = ⟨[], 0, 0, 0, []⟩ := h8
                simp [h6, h7, h8, h9, new_eq, codeOf, Err.isNil]
          · simp [h6, new_eq, codeOf, Err.isNil]
        · obtain ⟨e, rfl, e1, e2⟩ := o3 h5
          simp only [Sum.elim_inr, h5, ne_eq, not_false_eq_true, if_true]
          exact ⟨e, rfl, e1, by rw [e2]; simp [h5]⟩
theorem rsame_eq (x y : api_Msg) (hx : x.X.Value.length < 9223372036854775807) : R23_Same x y = some (decide (x = y)) := by
  obtain ⟨a1, a2, a3, a4, a5, a6, a7⟩ := x
  obtain ⟨b1, b2, b3, b4, b5, b6, b7⟩ := y
  unfold R23_Same
  simp only [lt_eq, same_eq6 a6 b6 hx, Option.bind_some]
  by_cases h1 : a1 = b1 <;> by_cases h2 : a2 = b2 <;> by_cases h3 : a3 = b3 <;> by_cases h4 : a4 = b4 <;> by_cases h5 : a5 = b5 <;> by_cases h7 : a7 = b7 <;> simp [h1, h2, h3, h4, h5, h7]
theorem fields_eq (m : api_Msg) : R23_fields m = some (
    if (m.Kind = 5 ∨ m.Kind = 6) ∧ (m.Id < 1 ∨ m.Id > 1099511627776) then 2 else
    if (m.Kind = 3 ∨ m.Kind = 4 ∨ m.Kind = 5 ∨ m.Kind = 6) ∧ ckK m.X.Key ≠ 0 then ckK m.X.Key else
    if (m.Kind = 2 ∨ m.Kind = 3 ∨ m.Kind = 4 ∨ m.Kind = 6) ∧ (m.X.AsOf < 0 ∨ m.X.AsOf > 1099511627776) then 2 else
    if m.Kind = 6 ∧ m.Found = true then ckE m.X else 0) := by
  unfold R23_fields
  simp only [lt_eq, lease_eq, hkey_eq, asof_eq, Option.bind_some, or_bool, refKey_eq, refCheck_eq]
  by_cases h1 : (m.Kind = 5 ∨ m.Kind = 6) ∧ (m.Id < 1 ∨ m.Id > 1099511627776)
  · rw [if_pos h1, if_pos (decide_eq_true h1.1), decide_eq_true h1.2]; rfl
  · rw [if_neg h1]
    have e1 : (if decide (m.Kind = 5 ∨ m.Kind = 6) = true then some (decide (m.Id < 1 ∨ m.Id > 1099511627776)) else some false : Option Bool) = some false := by
      by_cases h : m.Kind = 5 ∨ m.Kind = 6
      · rw [if_pos (decide_eq_true h), decide_eq_false (fun h2 => h1 ⟨h, h2⟩)]
      · rw [if_neg (by rw [decide_eq_false h]; simp)]
    simp only [e1, Option.bind_some, Bool.false_eq_true, if_false]
    by_cases h2 : (m.Kind = 3 ∨ m.Kind = 4 ∨ m.Kind = 5 ∨ m.Kind = 6) ∧ ckK m.X.Key ≠ 0
    · rw [if_pos h2, if_pos (decide_eq_true h2.1), if_pos (by simpa using h2.2)]; rfl
    · rw [if_neg h2]
      have e2 : (if decide (m.Kind = 3 ∨ m.Kind = 4 ∨ m.Kind = 5 ∨ m.Kind = 6) = true then (if (ckK m.X.Key != 0) = true then some (Sum.inr (ckK m.X.Key)) else some (Sum.inl ())) else some (Sum.inl ()) : Option (Unit ⊕ Int)) = some (.inl ()) := by
        by_cases h : m.Kind = 3 ∨ m.Kind = 4 ∨ m.Kind = 5 ∨ m.Kind = 6
        · rw [if_pos (decide_eq_true h), if_neg (by have : ckK m.X.Key = 0 := Classical.byContradiction fun h3 => h2 ⟨h, h3⟩
                                                    simp [this])]
        · rw [if_neg (by rw [decide_eq_false h]; simp)]
      simp only [e2, Option.bind_some, Sum.elim_inl]
      by_cases h3 : (m.Kind = 2 ∨ m.Kind = 3 ∨ m.Kind = 4 ∨ m.Kind = 6) ∧ (m.X.AsOf < 0 ∨ m.X.AsOf > 1099511627776)
      · rw [if_pos h3, if_pos (decide_eq_true h3.1), decide_eq_true h3.2]; rfl
      · rw [if_neg h3]
        have e3 : (if decide (m.Kind = 2 ∨ m.Kind = 3 ∨ m.Kind = 4 ∨ m.Kind = 6) = true then some (decide (m.X.AsOf < 0 ∨ m.X.AsOf > 1099511627776)) else some false : Option Bool) = some false := by
          by_cases h : m.Kind = 2 ∨ m.Kind = 3 ∨ m.Kind = 4 ∨ m.Kind = 6
          · rw [if_pos (decide_eq_true h), decide_eq_false (fun h4 => h3 ⟨h, h4⟩)]
          · rw [if_neg (by rw [decide_eq_false h]; simp)]
        simp only [e3, Option.bind_some, Bool.false_eq_true, if_false]
        by_cases h4 : m.Kind = 6
        · by_cases h5 : m.Found = true
          · simp [h4, h5]
          · simp [h4, h5]
        · simp [h4]
def onlyM (m : api_Msg) : api_Msg :=
  ⟨m.Kind, m.From, m.To, m.Epoch, if m.Kind = 5 ∨ m.Kind = 6 then m.Id else 0,
    if m.Kind = 6 ∧ m.Found = true then m.X else ⟨if m.Kind = 3 ∨ m.Kind = 4 ∨ m.Kind = 5 ∨ m.Kind = 6 then m.X.Key else [], 0, if m.Kind = 2 ∨ m.Kind = 3 ∨ m.Kind = 4 ∨ m.Kind = 6 then m.X.AsOf else 0, 0, []⟩,
    if m.Kind = 2 ∨ m.Kind = 6 then m.Found else false⟩
theorem only_eq (m : api_Msg) : R23_only m = some (onlyM m) := by
  obtain ⟨k, f, t, e, i, ⟨key, ver, asf, ends, val⟩, fd⟩ := m
  unfold R23_only onlyM
  simp only [lt_eq, lease_eq, hkey_eq, asof_eq, hfound_eq, Option.bind_some]
  by_cases h2 : k = 2
  · subst h2; cases fd <;> rfl
  by_cases h3 : k = 3
  · subst h3; cases fd <;> rfl
  by_cases h4 : k = 4
  · subst h4; cases fd <;> rfl
  by_cases h5 : k = 5
  · subst h5; cases fd <;> rfl
  by_cases h6 : k = 6
  · subst h6; cases fd <;> rfl
  simp [h2, h3, h4, h5, h6, z_api_Entry]
theorem rcheck_eq {m : api_Msg} (hv : m.X.Value.length < 9223372036854775807) : R23_Check m = some (ckM m) := by
  unfold R23_Check ckM
  simp only [lt_eq, or_bool, Option.bind_some, fields_eq, only_eq, rsame_eq _ _ hv]
  by_cases h1 : m.Kind < 1 ∨ m.Kind > 6
  · simp only [h1, decide_true, if_true]
  · simp only [decide_eq_false h1, if_neg h1, Bool.false_eq_true, if_false]
    have hd : (if (m.Kind == 2) = true then some true else if (m.Kind == 3) = true then some true else some (m.Kind == 6) : Option Bool) = some (decide (m.Kind = 2 ∨ m.Kind = 3 ∨ m.Kind = 6)) := by
      by_cases a : m.Kind = 2
      · simp [a]
      · by_cases b : m.Kind = 3
        · simp [b]
        · by_cases c : m.Kind = 6
          · simp [c]
          · simp [a, b, c]
    have hf : (if decide (m.Kind = 2 ∨ m.Kind = 3 ∨ m.Kind = 6) = true then some (m.To, m.From) else some (m.From, m.To) : Option (Int × Int)) = some (ckF m) := by
      unfold ckF
      by_cases h : m.Kind = 2 ∨ m.Kind = 3 ∨ m.Kind = 6
      · rw [if_pos h, if_pos (decide_eq_true h)]
      · rw [if_neg h, if_neg (by rw [decide_eq_false h]; simp)]
    simp only [hd, hf, Option.bind_some]
    have h3 : ∀ (f : Int × Int), (if decide (f.1 < 1) = true then some true else if decide (f.1 > 16) = true then some true else if (f.2 != 0) = true then some true else some (decide (m.Epoch < 1 ∨ m.Epoch > 1099511627776)) : Option Bool) = some (decide (f.1 < 1 ∨ f.1 > 16 ∨ f.2 ≠ 0 ∨ m.Epoch < 1 ∨ m.Epoch > 1099511627776)) := fun f => by
      by_cases a : f.1 < 1
      · simp [a]
      · by_cases b : f.1 > 16
        · simp [a, b]
        · by_cases c : f.2 = 0
          · simp [a, b, c]
          · simp [a, b, c]
    simp only [h3, Option.bind_some]
    by_cases h2 : (ckF m).1 < 1 ∨ (ckF m).1 > 16 ∨ (ckF m).2 ≠ 0 ∨ m.Epoch < 1 ∨ m.Epoch > 1099511627776
    · rw [if_pos (decide_eq_true h2), if_pos h2]
    · rw [if_neg (by rw [decide_eq_false h2]; simp), if_neg h2]
      clear h2 h3 hd hf
      obtain ⟨k, f, t, e, i, ⟨key, ver, asf, ends, val⟩, fd⟩ := m
      have h0 : k = 1 ∨ k = 2 ∨ k = 3 ∨ k = 4 ∨ k = 5 ∨ k = 6 := by simp only at h1; omega
      clear h1 hv
      generalize hK : ckK key = K
      rcases h0 with rfl | rfl | rfl | rfl | rfl | rfl
      · simp [ptsA, ckL, onlyM, zeroE]
        by_cases a : i = 0 <;> by_cases b : fd = true <;> by_cases c : key = [] <;> by_cases d : ver = 0 <;> by_cases g : asf = 0 <;> by_cases h : ends = 0 <;> by_cases l : val = [] <;> simp [a, b, c, d, g, h, l]
      · by_cases g : asf < 0 ∨ asf > 1099511627776
        · simp [ptsA, ckL, stC, g]
        · simp [ptsA, ckL, stC, g, onlyM, zeroE]
          by_cases a : i = 0 <;> by_cases c : key = [] <;> by_cases d : ver = 0 <;> by_cases h : ends = 0 <;> by_cases l : val = [] <;> simp [a, c, d, h, l]
      · by_cases hk : K = 0
        · by_cases g : asf < 0 ∨ asf > 1099511627776
          · simp [ptsA, ckL, stC, g, hK, hk]
          · simp [ptsA, ckL, stC, g, onlyM, zeroE, hK, hk]
            by_cases a : i = 0 <;> by_cases b : fd = true <;> by_cases d : ver = 0 <;> by_cases h : ends = 0 <;> by_cases l : val = [] <;> simp [a, b, d, h, l]
        · simp [ptsA, ckL, stC, hK, hk]
      · by_cases hk : K = 0
        · by_cases g : asf < 0 ∨ asf > 1099511627776
          · simp [ptsA, ckL, stC, g, hK, hk]
          · simp [ptsA, ckL, stC, g, onlyM, zeroE, hK, hk]
            by_cases a : i = 0 <;> by_cases b : fd = true <;> by_cases d : ver = 0 <;> by_cases h : ends = 0 <;> by_cases l : val = [] <;> simp [a, b, d, h, l]
        · simp [ptsA, ckL, stC, hK, hk]
      · by_cases hi : i < 1 ∨ i > 1099511627776
        · simp [ptsA, ckL, stC, hi]
        · by_cases hk : K = 0
          · simp [ptsA, ckL, stC, hi, hK, hk, onlyM, zeroE]
            by_cases b : fd = true <;> by_cases d : ver = 0 <;> by_cases g : asf = 0 <;> by_cases h : ends = 0 <;> by_cases l : val = [] <;> simp [b, d, g, h, l]
          · simp [ptsA, ckL, stC, hi, hK, hk]
      · by_cases hi : i < 1 ∨ i > 1099511627776
        · simp [ptsA, ckL, stC, hi]
        · by_cases hk : K = 0
          · by_cases g : asf < 0 ∨ asf > 1099511627776
            · simp [ptsA, ckL, stC, hi, hK, hk, g]
            · by_cases b : fd = true
              · by_cases hx : ckE ⟨key, ver, asf, ends, val⟩ = 0
                · simp [ptsA, ckL, stC, hi, hK, hk, g, b, hx, onlyM, zeroE]
                · simp [ptsA, ckL, stC, hi, hK, hk, g, b, hx]
              · simp [ptsA, ckL, stC, hi, hK, hk, g, b, onlyM, zeroE]
                by_cases d : ver = 0 <;> by_cases h : ends = 0 <;> by_cases l : val = [] <;> simp [d, h, l]
          · simp [ptsA, ckL, stC, hi, hK, hk]
def stP (m : api_Msg) (c : BitVec 8) : List (BitVec 8) :=
  if c = 73#8 then num7 m.Id.toNat
  else if c = 75#8 then num7 m.X.Key.length ++ m.X.Key
  else if c = 65#8 then num7 m.X.AsOf.toNat
  else if c = 70#8 then num7 (if m.Found = true then 1 else 0)
  else if m.Found = true then num7 m.X.Version.toNat ++ (num7 m.X.Ends.toNat ++ (num7 m.X.Value.length ++ m.X.Value)) else []
def encM (m : api_Msg) : List (BitVec 8) := num7 m.Kind.toNat ++ (num7 m.From.toNat ++ (num7 m.To.toNat ++ (num7 m.Epoch.toNat ++ (ptsA m.Kind).flatMap (stP m))))
structure okM (m : api_Msg) : Prop where
  k1 : 1 ≤ m.Kind
  k6 : m.Kind ≤ 6
  f0 : 0 ≤ m.From
  f1 : m.From ≤ 16
  t0 : 0 ≤ m.To
  t1 : m.To ≤ 16
  e1 : 1 ≤ m.Epoch
  e2 : m.Epoch ≤ 1099511627776
  i : m.Kind = 5 ∨ m.Kind = 6 → 1 ≤ m.Id ∧ m.Id ≤ 1099511627776
  i0 : ¬ (m.Kind = 5 ∨ m.Kind = 6) → m.Id = 0
  key : m.Kind = 3 ∨ m.Kind = 4 ∨ m.Kind = 5 ∨ m.Kind = 6 → 1 ≤ m.X.Key.length ∧ m.X.Key.length ≤ 40
  key0 : ¬ (m.Kind = 3 ∨ m.Kind = 4 ∨ m.Kind = 5 ∨ m.Kind = 6) → m.X.Key = []
  a : m.Kind = 2 ∨ m.Kind = 3 ∨ m.Kind = 4 ∨ m.Kind = 6 → 0 ≤ m.X.AsOf ∧ m.X.AsOf ≤ 1099511627776
  a0 : ¬ (m.Kind = 2 ∨ m.Kind = 3 ∨ m.Kind = 4 ∨ m.Kind = 6) → m.X.AsOf = 0
  f : ¬ (m.Kind = 2 ∨ m.Kind = 6) → m.Found = false
  v : m.Kind = 6 → m.Found = true → ckE m.X = 0
  v0 : ¬ (m.Kind = 6 ∧ m.Found = true) → m.X.Version = 0 ∧ m.X.Ends = 0 ∧ m.X.Value = []
theorem ckK_ok {k : List (BitVec 8)} (h : ckK k = 0) : 1 ≤ k.length ∧ k.length ≤ 40 := by
  unfold ckK at h
  split at h
  · cases h
  · split at h
    · cases h
    · omega
theorem ckM_ok {m : api_Msg} (h : ckM m = 0) : okM m := by
  unfold ckM at h
  split at h
  · cases h
  rename_i h1
  split at h
  · cases h
  rename_i h2
  split at h
  · rename_i h3; exact absurd h h3
  rename_i h3
  split at h
  · cases h
  rename_i h4
  have h3' := Classical.not_not.1 h3
  clear h h3
  obtain ⟨k, f, t, e, i, ⟨key, ver, asf, ends, val⟩, fd⟩ := m
  unfold ckF at h2
  simp only at h1 h2 h3' h4
  have h0 : k = 1 ∨ k = 2 ∨ k = 3 ∨ k = 4 ∨ k = 5 ∨ k = 6 := by omega
  have hft : 0 ≤ f ∧ f ≤ 16 ∧ 0 ≤ t ∧ t ≤ 16 ∧ 1 ≤ e ∧ e ≤ 1099511627776 := by
    split at h2 <;> simp only at h2 <;> omega
  clear h2 h1
  have fin : ∀ {b : Bool}, ¬ b = true → b = false := fun {b} h => by simpa using h
  rcases h0 with rfl | rfl | rfl | rfl | rfl | rfl
  · simp [ptsA, ckL, zeroE] at h4
    obtain ⟨rfl, rfl, rfl, rfl, rfl, rfl, rfl⟩ := h4
    exact ⟨by simp, by simp, by simp only; omega, by simp only; omega, by simp only; omega, by simp only; omega, by simp only; omega, by simp only; omega, by simp, by simp, by simp, by simp, by simp, by simp, by simp, by simp, by simp⟩
  · by_cases g : asf < 0 ∨ asf > 1099511627776
    · simp [ptsA, ckL, stC, g] at h3'
    · simp [ptsA, ckL, stC, g, zeroE] at h4
      obtain ⟨rfl, rfl, rfl, rfl, rfl⟩ := h4
      exact ⟨by simp, by simp, by simp only; omega, by simp only; omega, by simp only; omega, by simp only; omega, by simp only; omega, by simp only; omega, by simp, by simp, by simp, by simp, fun _ => by simp only; omega, by simp, by simp, by simp, by simp⟩
  · by_cases hk : ckK key = 0
    · by_cases g : asf < 0 ∨ asf > 1099511627776
      · simp [ptsA, ckL, stC, g, hk] at h3'
      · simp [ptsA, ckL, stC, g, hk, zeroE] at h4
        obtain ⟨rfl, rfl, rfl, rfl, rfl⟩ := h4
        exact ⟨by simp, by simp, by simp only; omega, by simp only; omega, by simp only; omega, by simp only; omega, by simp only; omega, by simp only; omega, by simp, by simp, fun _ => ckK_ok hk, by simp, fun _ => by simp only; omega, by simp, by simp, by simp, by simp⟩
    · simp [ptsA, ckL, stC, hk] at h3'
  · by_cases hk : ckK key = 0
    · by_cases g : asf < 0 ∨ asf > 1099511627776
      · simp [ptsA, ckL, stC, g, hk] at h3'
      · simp [ptsA, ckL, stC, g, hk, zeroE] at h4
        obtain ⟨rfl, rfl, rfl, rfl, rfl⟩ := h4
        exact ⟨by simp, by simp, by simp only; omega, by simp only; omega, by simp only; omega, by simp only; omega, by simp only; omega, by simp only; omega, by simp, by simp, fun _ => ckK_ok hk, by simp, fun _ => by simp only; omega, by simp, by simp, by simp, by simp⟩
    · simp [ptsA, ckL, stC, hk] at h3'
  · by_cases hi : i < 1 ∨ i > 1099511627776
    · simp [ptsA, ckL, stC, hi] at h3'
    · by_cases hk : ckK key = 0
      · simp [ptsA, ckL, stC, hi, hk, zeroE] at h4
        obtain ⟨rfl, rfl, rfl, rfl, rfl⟩ := h4
        exact ⟨by simp, by simp, by simp only; omega, by simp only; omega, by simp only; omega, by simp only; omega, by simp only; omega, by simp only; omega, fun _ => by simp only; omega, by simp, fun _ => ckK_ok hk, by simp, by simp, by simp, by simp, by simp, by simp⟩
      · simp [ptsA, ckL, stC, hi, hk] at h3'
  · by_cases hi : i < 1 ∨ i > 1099511627776
    · simp [ptsA, ckL, stC, hi] at h3'
    · by_cases hk : ckK key = 0
      · by_cases g : asf < 0 ∨ asf > 1099511627776
        · simp [ptsA, ckL, stC, hi, hk, g] at h3'
        · by_cases b : fd = true
          · by_cases hx : ckE ⟨key, ver, asf, ends, val⟩ = 0
            · exact ⟨by simp, by simp, by simp only; omega, by simp only; omega, by simp only; omega, by simp only; omega, by simp only; omega, by simp only; omega, fun _ => by simp only; omega, by simp, fun _ => ckK_ok hk, by simp, fun _ => by simp only; omega, by simp, by simp, fun _ _ => hx, by simp [b]⟩
            · simp [ptsA, ckL, stC, hi, hk, g, b, hx] at h3'
          · simp [ptsA, ckL, stC, hi, hk, g, b, zeroE] at h4
            obtain ⟨rfl, rfl, rfl⟩ := h4
            exact ⟨by simp, by simp, by simp only; omega, by simp only; omega, by simp only; omega, by simp only; omega, by simp only; omega, by simp only; omega, fun _ => by simp only; omega, by simp, fun _ => ckK_ok hk, by simp, fun _ => by simp only; omega, by simp, by simp, by simp [b], by simp⟩
      · simp [ptsA, ckL, stC, hi, hk] at h3'
def okP (m : api_Msg) (c : BitVec 8) : Prop :=
  (c = 73#8 ∧ 0 ≤ m.Id ∧ m.Id ≤ 1099511627776) ∨ (c = 75#8 ∧ m.X.Key.length ≤ 40) ∨ (c = 65#8 ∧ 0 ≤ m.X.AsOf ∧ m.X.AsOf ≤ 1099511627776) ∨ c = 70#8 ∨ (c = 86#8 ∧ (m.Found = true → ckE m.X = 0))
theorem okM.pts {m : api_Msg} (h : okM m) : ∀ c ∈ ptsA m.Kind, okP m c := by
  intro c hc
  unfold ptsA at hc
  unfold okP
  have h1 := h.i
  have h2 := h.key
  have h3 := h.a
  have h4 := h.v
  split at hc
  · rename_i hk
    simp at hc
    have := h3 (by omega)
    rcases hc with rfl | rfl
    · simp; omega
    · simp
  · split at hc
    · rename_i hk
      simp at hc
      have := h3 (by omega)
      have := h2 (by omega)
      rcases hc with rfl | rfl
      · simp; omega
      · simp; omega
    · split at hc
      · rename_i hk
        simp at hc
        have := h1 (by omega)
        have := h2 (by omega)
        rcases hc with rfl | rfl
        · simp; omega
        · simp; omega
      · split at hc
        · rename_i hk
          simp at hc
          have := h1 (by omega)
          have := h2 (by omega)
          have := h3 (by omega)
          rcases hc with rfl | rfl | rfl | rfl | rfl
          · simp; omega
          · simp; omega
          · simp; omega
          · simp
          · simp; exact h4 hk
        · cases hc
theorem okP_is {m : api_Msg} {c : BitVec 8} (h : okP m c) : isP c := by
  unfold isP
  rcases h with ⟨h, _⟩ | ⟨h, _⟩ | ⟨h, _⟩ | h | ⟨h, _⟩ <;> simp [h]
theorem stP_len {m : api_Msg} {c : BitVec 8} (h : okP m c) : (stP m c).length ≤ 4200 := by
  unfold stP
  rcases h with ⟨rfl, h⟩ | ⟨rfl, h⟩ | ⟨rfl, h⟩ | rfl | ⟨rfl, h⟩
  · have := num7_len (n := m.Id.toNat) (by omega); simp; omega
  · have := num7_len (n := m.X.Key.length) (by omega); simp; omega
  · have := num7_len (n := m.X.AsOf.toNat) (by omega); simp; omega
  · have := num7_len (n := if m.Found = true then 1 else 0) (by split <;> omega); simp; omega
  · by_cases hf : m.Found = true
    · obtain ⟨h1, h2, h3, h4, h5, h6, h7, h8, h9⟩ := ck_ok (h hf)
      have i1 := num7_len (n := m.X.Version.toNat) (by omega)
      have i2 := num7_len (n := m.X.Ends.toNat) (by omega)
      have i3 := num7_len (n := m.X.Value.length) (by omega)
      simp [hf]; omega
    · simp [hf]
theorem toBytes_eq {x : List (BitVec 8)} (h : x.length ≤ 140737488355328) : toBytes x = some x := by unfold toBytes; rw [if_pos h]
theorem nums_1 (n : Int) : nums [n] = num7 n.toNat := by simp [nums]
theorem okN_1 {n : Int} (h : 0 ≤ n) (h1 : n ≤ 9223372036854775807) : okN [n] := ⟨by simp, fun m hm => by simp at hm; omega⟩
theorem put_l (m : api_Msg) : ∀ (l s : List (BitVec 8)) (p : Nat) (b : List (BitVec 8)), (∀ c ∈ l, okP m c) → s.drop p = l → b.length + 4200 * l.length ≤ 100000 →
    ∃ q, wire_Put_l0 m (b, (s, p)) = some (b ++ l.flatMap (stP m), q)
  | [], s, p, b, _, h, _ => ⟨(s, p), by
    refine loopO_out (body := fun s => wire_Put_b0 m s.1 s.2) ?_
    simp [wire_Put_b0, nxS_end h]⟩
  | c :: l, s, p, b, hl, h, hb => by
    have hc := hl c (List.mem_cons_self ..)
    obtain ⟨h1, h2⟩ := nxS_at (c := c) h (by rcases okP_is hc with rfl | rfl | rfl | rfl | rfl <;> decide)
    have hlen := stP_len hc
    simp only [List.length_cons] at hb
    have key : wire_Put_b0 m b (s, p) = some (.inl (b ++ stP m c, (s, p + 1))) := by
      simp only [wire_Put_b0, h1, Option.bind_some, Option.elim_some, lt_eq]
      unfold stP
      rcases hc with ⟨rfl, g0⟩ | ⟨rfl, g0⟩ | ⟨rfl, g0⟩ | rfl | ⟨rfl, g0⟩
      · simp only [show ((((73#8 : BitVec 8).toNat : Int)) == 73) = true from rfl, if_true]
        rw [octPut_eq _ (by omega) (okN_1 (by omega) (by omega)), nums_1]
        rfl
      · simp only [show ((((75#8 : BitVec 8).toNat : Int)) == 73) = false from rfl, show ((((75#8 : BitVec 8).toNat : Int)) == 75) = true from rfl, Bool.false_eq_true, if_false, if_true, show ¬ (75#8 : BitVec 8) = 73#8 by decide]
        rw [toBytes_eq (by omega)]
        simp only [Option.bind_some]
        rw [octBytes_eq _ _ (by omega) (by omega)]
        simp
      · simp only [show ((((65#8 : BitVec 8).toNat : Int)) == 73) = false from rfl, show ((((65#8 : BitVec 8).toNat : Int)) == 75) = false from rfl, show ((((65#8 : BitVec 8).toNat : Int)) == 65) = true from rfl, Bool.false_eq_true, if_false, if_true, show ¬ (65#8 : BitVec 8) = 73#8 by decide, show ¬ (65#8 : BitVec 8) = 75#8 by decide]
        rw [octPut_eq _ (by omega) (okN_1 (by omega) (by omega)), nums_1]
        rfl
      · simp only [show ((((70#8 : BitVec 8).toNat : Int)) == 73) = false from rfl, show ((((70#8 : BitVec 8).toNat : Int)) == 75) = false from rfl, show ((((70#8 : BitVec 8).toNat : Int)) == 65) = false from rfl, show ((((70#8 : BitVec 8).toNat : Int)) == 70) = true from rfl, Bool.false_eq_true, if_false, if_true, show ¬ (70#8 : BitVec 8) = 73#8 by decide, show ¬ (70#8 : BitVec 8) = 75#8 by decide, show ¬ (70#8 : BitVec 8) = 65#8 by decide]
        by_cases hf : m.Found = true
        · simp only [hf, if_true, Option.bind_some]
          rw [octPut_eq _ (by omega) (okN_1 (by omega) (by omega)), nums_1]
          rfl
        · simp only [hf, if_false, Option.bind_some, Bool.false_eq_true]
          rw [octPut_eq _ (by omega) (okN_1 (by omega) (by omega)), nums_1]
          rfl
      · simp only [show ((((86#8 : BitVec 8).toNat : Int)) == 73) = false from rfl, show ((((86#8 : BitVec 8).toNat : Int)) == 75) = false from rfl, show ((((86#8 : BitVec 8).toNat : Int)) == 65) = false from rfl, show ((((86#8 : BitVec 8).toNat : Int)) == 70) = false from rfl, show ((((86#8 : BitVec 8).toNat : Int)) == 86) = true from rfl, Bool.false_eq_true, if_false, if_true, show ¬ (86#8 : BitVec 8) = 73#8 by decide, show ¬ (86#8 : BitVec 8) = 75#8 by decide, show ¬ (86#8 : BitVec 8) = 65#8 by decide, show ¬ (86#8 : BitVec 8) = 70#8 by decide]
        by_cases hf : m.Found = true
        · obtain ⟨g1, g2, g3, g4, g5, g6, g7, g8, g9⟩ := ck_ok (g0 hf)
          simp only [hf, if_true]
          have hn : okN [m.X.Version, m.X.Ends] := ⟨by simp, fun n hn => by simp at hn; omega⟩
          rw [octPut_eq _ (by omega) hn]
          simp only [Option.bind_some]
          have := nums_len hn.2
          simp only [List.length_cons, List.length_nil] at this
          rw [octBytes_eq _ _ (by rw [List.length_append]; omega) (by omega)]
          simp [nums]
        · simp [hf]
    obtain ⟨q, hq⟩ := put_l m l s (p + 1) (b ++ stP m c) (fun d hd => hl d (List.mem_cons_of_mem _ hd)) h2 (by rw [List.length_append]; omega)
    refine ⟨q, ?_⟩
    rw [List.flatMap_cons, ← List.append_assoc, ← hq]
    exact loopO_in (body := fun s => wire_Put_b0 m s.1 s.2) key
theorem okM.head {m : api_Msg} (h : okM m) : okN [m.Kind, m.From, m.To, m.Epoch] := ⟨by simp, fun n hn => by
  have := h.k1; have := h.k6; have := h.f0; have := h.f1; have := h.t0; have := h.t1; have := h.e1; have := h.e2
  simp at hn; omega⟩
theorem okM.hlen {m : api_Msg} (h : okM m) : (nums [m.Kind, m.From, m.To, m.Epoch]).length ≤ 36 := by
  have := nums_len h.head.2
  simpa using this
theorem ptsA_len (k : Int) : (ptsA k).length ≤ 5 := by
  unfold ptsA
  repeat' split
  all_goals simp
theorem encM_eq (m : api_Msg) : encM m = nums [m.Kind, m.From, m.To, m.Epoch] ++ (ptsA m.Kind).flatMap (stP m) := by simp [encM, nums]
theorem flat_len {m : api_Msg} : ∀ {l : List (BitVec 8)}, (∀ c ∈ l, okP m c) → (l.flatMap (stP m)).length ≤ 4200 * l.length
  | [], _ => by simp
  | c :: l, h => by
    have h1 := stP_len (h c (List.mem_cons_self ..))
    have h2 := flat_len (l := l) (fun d hd => h d (List.mem_cons_of_mem _ hd))
    simp only [List.flatMap_cons, List.length_append, List.length_cons]
    omega
theorem encM_len {m : api_Msg} (h : okM m) : (encM m).length ≤ 21036 := by
  have h1 := h.hlen
  have h2 := flat_len h.pts
  have h3 := ptsA_len m.Kind
  rw [encM_eq, List.length_append]
  omega
theorem wput_eq (m : api_Msg) : (ckM m = 0 → wire_Put m = some (cseal (encM m), .nil)) ∧ (ckM m ≠ 0 → ∃ e, wire_Put m = some ([], e) ∧ codeOf e = ckM m ∧ e.isNil = false) := by
  obtain ⟨e, e1, e2, e3⟩ := wcheck_eq m
  unfold wire_Put
  simp only [lt_eq, e1, Option.bind_some, e3]
  constructor
  · intro h
    have ho := ckM_ok h
    rw [if_neg (by simp [h]), octPut_eq _ (by simp) ho.head]
    simp only [Option.bind_some, parts_eq, List.nil_append]
    have h1 := ho.hlen
    have h3 := ptsA_len m.Kind
    obtain ⟨q, hq⟩ := put_l m (ptsA m.Kind) (ptsA m.Kind) 0 (nums [m.Kind, m.From, m.To, m.Epoch]) ho.pts rfl (by omega)
    rw [hq]
    simp only [Option.bind_some]
    rw [← encM_eq, seal_eq (by have := encM_len ho; omega)]
    rfl
  · intro h
    have h5 : e.isNil = false := by rw [e3]; simp [h]
    rw [if_pos (by simp [h]), wrap_eq _ _ e h5]
    exact ⟨_, rfl, by simp [codeOf, e2], rfl⟩
theorem rput_eq {m : api_Msg} (hv : m.X.Value.length < 9223372036854775807) : R23_Put m = some (if ckM m = 0 then (cseal (encM m), 0) else ([], ckM m)) := by
  unfold R23_Put
  simp only [lt_eq, rcheck_eq hv, Option.bind_some]
  by_cases h : ckM m = 0
  · have ho := ckM_ok h
    rw [if_neg (by simp [h]), if_pos h, refPut_eq _ (by simp) ho.head]
    simp only [Option.bind_some, lease_eq, hkey_eq, asof_eq, hfound_eq, List.nil_append]
    have h1 := ho.hlen
    have hE := encM_len ho
    rw [encM_eq] at hE ⊢
    generalize nums [m.Kind, m.From, m.To, m.Epoch] = H at *
    have hi := ho.i; have hk := ho.key; have ha := ho.a; have hv := ho.v
    have hk1 := ho.k1; have hk6 := ho.k6
    clear ho h
    obtain ⟨k, f, t, e, i, x, fd⟩ := m
    simp only at *
    have h0 : k = 1 ∨ k = 2 ∨ k = 3 ∨ k = 4 ∨ k = 5 ∨ k = 6 := by omega
    have pN : ∀ (b : List (BitVec 8)) (n : Int), b.length ≤ 100000 → 0 ≤ n → n ≤ 1099511627776 → R02_Put b [n] = some (b ++ num7 n.toNat) := fun b n hb hn hn2 => by rw [refPut_eq b (by omega) (okN_1 hn (by omega)), nums_1]
    have pB : ∀ (b t : List (BitVec 8)), b.length ≤ 100000 → t.length ≤ 5000 → R02_Bytes b t = some (b ++ (num7 t.length ++ t)) := fun b t hb ht => by rw [refBytes_eq b t (by omega) (by omega), List.append_assoc]
    have pS : ∀ (b : List (BitVec 8)), b.length ≤ 100000 → R03_Seal b = some (cseal b) := fun b hb => rcSeal_eq (by omega)
    have n9 : ∀ n : Int, 0 ≤ n → n ≤ 1099511627776 → (num7 n.toNat).length ≤ 9 := fun n h1 h2 => num7_len (by omega)
    rcases h0 with rfl | rfl | rfl | rfl | rfl | rfl
    · simp [ptsA, pS H (by omega)]
    · have g1 := ha (by omega)
      have l1 := n9 _ g1.1 g1.2
      have q1 := pN H _ (by omega) g1.1 g1.2
      cases fd
      · have q2 := pN (H ++ num7 x.AsOf.toNat) 0 (by simp only [List.length_append]; omega) (by decide) (by decide)
        have l2 := n9 0 (by decide) (by decide)
        have q3 := pS (H ++ num7 x.AsOf.toNat ++ num7 (0 : Int).toNat) (by simp only [List.length_append]; omega)
        simp only [Int.reduceEq, Int.reduceBEq, or_true, true_or, or_self, or_false, false_or, decide_true, decide_false, if_true, Bool.false_eq_true, if_false, Option.bind_some, q1, q2, q3, Bool.not_false]
        simp [ptsA, stP]
      · have q2 := pN (H ++ num7 x.AsOf.toNat) 1 (by simp only [List.length_append]; omega) (by decide) (by decide)
        have l2 := n9 1 (by decide) (by decide)
        have q3 := pS (H ++ num7 x.AsOf.toNat ++ num7 (1 : Int).toNat) (by simp only [List.length_append]; omega)
        simp only [Int.reduceEq, Int.reduceBEq, or_true, true_or, or_self, or_false, false_or, decide_true, decide_false, if_true, Bool.false_eq_true, if_false, Option.bind_some, q1, q2, q3, Bool.not_true]
        simp [ptsA, stP]
    · have g1 := ha (by omega)
      have g2 := hk (by omega)
      have l1 := n9 _ g1.1 g1.2
      have l2 := num7_len (n := x.Key.length) (by omega)
      simp [toBytes_eq (x := x.Key) (by omega), ptsA, pB H x.Key (by omega) (by omega), pN (H ++ (num7 x.Key.length ++ x.Key)) x.AsOf (by simp only [List.length_append]; omega) g1.1 g1.2]
      rw [pS _ (by simp only [List.length_append]; omega)]
      simp [stP]
    · have g1 := ha (by omega)
      have g2 := hk (by omega)
      have l1 := n9 _ g1.1 g1.2
      have l2 := num7_len (n := x.Key.length) (by omega)
      simp [toBytes_eq (x := x.Key) (by omega), ptsA, pB H x.Key (by omega) (by omega), pN (H ++ (num7 x.Key.length ++ x.Key)) x.AsOf (by simp only [List.length_append]; omega) g1.1 g1.2]
      rw [pS _ (by simp only [List.length_append]; omega)]
      simp [stP]
    · have g1 := hi (by omega)
      have g2 := hk (by omega)
      have l1 := n9 i (by omega) g1.2
      have l2 := num7_len (n := x.Key.length) (by omega)
      simp [toBytes_eq (x := x.Key) (by omega), ptsA, pN H i (by omega) (by omega) g1.2, pB (H ++ num7 i.toNat) x.Key (by simp only [List.length_append]; omega) (by omega)]
      rw [pS _ (by simp only [List.length_append]; omega)]
      simp [stP]
    · have g1 := hi (by omega)
      have g2 := hk (by omega)
      have g3 := ha (by omega)
      have l1 := n9 i (by omega) g1.2
      have l2 := num7_len (n := x.Key.length) (by omega)
      have l3 := n9 _ g3.1 g3.2
      have q1 := pN H i (by omega) (by omega) g1.2
      have q2 := pB (H ++ num7 i.toNat) x.Key (by simp only [List.length_append]; omega) (by omega)
      have q3 := pN (H ++ num7 i.toNat ++ (num7 x.Key.length ++ x.Key)) x.AsOf (by simp only [List.length_append]; omega) g3.1 g3.2
      cases fd
      · have q4 := pN (H ++ num7 i.toNat ++ (num7 x.Key.length ++ x.Key) ++ num7 x.AsOf.toNat) 0 (by simp only [List.length_append]; omega) (by decide) (by decide)
        have l4 := n9 0 (by decide) (by decide)
        have q5 := pS (H ++ num7 i.toNat ++ (num7 x.Key.length ++ x.Key) ++ num7 x.AsOf.toNat ++ num7 (0 : Int).toNat) (by simp only [List.length_append]; omega)
        simp only [toBytes_eq (x := x.Key) (by omega), Int.reduceEq, Int.reduceBEq, or_true, true_or, or_self, or_false, false_or, decide_true, decide_false, if_true, Bool.false_eq_true, if_false, Option.bind_some, q1, q2, q3, q4, q5, Bool.not_false]
        simp [ptsA, stP]
      · have g4 := hv rfl rfl
        obtain ⟨a1, a2, a3, a4, a5, a6, a7, a8, a9⟩ := ck_ok g4
        have q4 := pN (H ++ num7 i.toNat ++ (num7 x.Key.length ++ x.Key) ++ num7 x.AsOf.toNat) 1 (by simp only [List.length_append]; omega) (by decide) (by decide)
        have l4 := n9 1 (by decide) (by decide)
        have hn : okN [x.Version, x.Ends] := ⟨by simp, fun n hn => by simp at hn; omega⟩
        have l5 := nums_len hn.2
        simp only [List.length_cons, List.length_nil] at l5
        have q5 := refPut_eq (H ++ num7 i.toNat ++ (num7 x.Key.length ++ x.Key) ++ num7 x.AsOf.toNat ++ num7 (1 : Int).toNat) (l := [x.Version, x.Ends]) (by simp only [List.length_append]; omega) hn
        have l6 := num7_len (n := x.Value.length) (by omega)
        have q6 := pB (H ++ num7 i.toNat ++ (num7 x.Key.length ++ x.Key) ++ num7 x.AsOf.toNat ++ num7 (1 : Int).toNat ++ nums [x.Version, x.Ends]) x.Value (by simp only [List.length_append]; omega) (by omega)
        have q7 := pS (H ++ num7 i.toNat ++ (num7 x.Key.length ++ x.Key) ++ num7 x.AsOf.toNat ++ num7 (1 : Int).toNat ++ nums [x.Version, x.Ends] ++ (num7 x.Value.length ++ x.Value)) (by simp only [List.length_append]; omega)
        simp only [toBytes_eq (x := x.Key) (by omega), Int.reduceEq, Int.reduceBEq, or_true, true_or, or_self, or_false, false_or, decide_true, decide_false, if_true, Bool.false_eq_true, if_false, Option.bind_some, q1, q2, q3, q4, q5, q6, q7, Bool.not_true]
        simp [ptsA, stP, nums]
  · rw [if_pos (by simpa using h), if_neg h]
def gS (b : List (BitVec 8)) (c : BitVec 8) (m : api_Msg) (r : rdr) : api_Msg × rdr :=
  if c = 73#8 then ({ m with Id := (rN b r 1099511627776).1 }, (rN b r 1099511627776).2)
  else if c = 75#8 then ({ m with X := { m.X with Key := (rB b r 40).1 } }, (rB b r 40).2)
  else if c = 65#8 then ({ m with X := { m.X with AsOf := (rN b r 1099511627776).1 } }, (rN b r 1099511627776).2)
  else if c = 70#8 then ({ m with Found := ((rN b r 1).1 : Int) == 1 }, (rN b r 1).2)
  else if m.Found = true then
    ({ m with X := { m.X with Version := (rN b r 1099511627776).1, Ends := (rN b (rN b r 1099511627776).2 1099511627776).1, Value := (rB b (rN b (rN b r 1099511627776).2 1099511627776).2 4096).1 } }, (rB b (rN b (rN b r 1099511627776).2 1099511627776).2 4096).2)
  else (m, r)
def gL (b : List (BitVec 8)) : List (BitVec 8) → api_Msg → rdr → api_Msg × rdr
  | [], m, r => (m, r)
  | c :: l, m, r => gL b l (gS b c m r).1 (gS b c m r).2
def gW (b : List (BitVec 8)) : List (BitVec 8) → api_Msg → rdr → api_Msg × rdr
  | [], m, r => (m, r)
  | c :: l, m, r => if r.e ≠ 0 then (m, r) else gW b l (gS b c m r).1 (gS b c m r).2
theorem rN_bad {b : List (BitVec 8)} {r : rdr} {m : Nat} (h : r.e ≠ 0) : rN b r m = (0, r) := by unfold rN; rw [if_neg h]
theorem rB_bad {b : List (BitVec 8)} {r : rdr} {m : Nat} (h : r.e ≠ 0) : rB b r m = ([], r) := by unfold rB; rw [if_neg h]
theorem gS_bad {b : List (BitVec 8)} {c : BitVec 8} {m : api_Msg} {r : rdr} (h : r.e ≠ 0) : (gS b c m r).2 = r := by
  unfold gS
  simp only [rN_bad h, rB_bad h]
  repeat' split
  all_goals rfl
theorem gL_bad {b : List (BitVec 8)} {r : rdr} (h : r.e ≠ 0) : ∀ (l : List (BitVec 8)) (m : api_Msg), (gL b l m r).2 = r
  | [], m => rfl
  | c :: l, m => by
    simp only [gL]
    rw [gS_bad h]
    exact gL_bad h l _
theorem gW_eq {b : List (BitVec 8)} : ∀ (l : List (BitVec 8)) (m : api_Msg) (r : rdr), (gW b l m r).2 = (gL b l m r).2 ∧ ((gL b l m r).2.e = 0 → gW b l m r = gL b l m r)
  | [], m, r => ⟨rfl, fun _ => rfl⟩
  | c :: l, m, r => by
    by_cases h : r.e = 0
    · simp only [gW, gL]
      rw [if_neg (by simp [h])]
      exact gW_eq l _ _
    · have hb : (gL b (c :: l) m r).2 = r := gL_bad h _ _
      simp only [gW]
      rw [if_pos h, hb]
      exact ⟨rfl, fun h2 => absurd h2 h⟩
theorem gS_le {b : List (BitVec 8)} {c : BitVec 8} {m : api_Msg} {r : rdr} (hr : r.a ≤ b.length) : (gS b c m r).2.a ≤ b.length := by
  unfold gS
  have h1 := rN_le hr 1099511627776
  have h2 := rN_le h1.1 1099511627776
  have h3 := rB_le h2.1 4096
  have h4 := rB_le hr 40
  have h5 := rN_le hr 1
  repeat' split
  · exact h1.1
  · exact h4.1
  · exact h1.1
  · exact h5.1
  · exact h3.1
  · exact hr
theorem gL_le {b : List (BitVec 8)} : ∀ (l : List (BitVec 8)) (m : api_Msg) {r : rdr}, r.a ≤ b.length → (gL b l m r).2.a ≤ b.length
  | [], m, r, h => h
  | c :: l, m, r, h => gL_le l _ (gS_le h)
theorem get_l {b : List (BitVec 8)} (hb : b.length ≤ 1000000) (x : List (BitVec 8)) : ∀ (l s : List (BitVec 8)) (p : Nat) (m : api_Msg) (r : rdr), (∀ c ∈ l, isP c) → s.drop p = l → r.a ≤ b.length →
    ∃ q, wire_Get_l0 x ((s, p), m, r.o b) = some (q, (gW b l m r).1, (gW b l m r).2.o b)
  | [], s, p, m, r, _, h, _ => ⟨(s, p), by
    refine loopO_out (body := fun s => wire_Get_b0 x s.1 s.2.1 s.2.2) ?_
    simp only [wire_Get_b0, nxS_end h, Option.bind_some, Option.elim_none, gW]⟩
  | c :: l, s, p, m, r, hl, h, hr => by
    have hc := hl c (List.mem_cons_self ..)
    obtain ⟨h1, h2⟩ := nxS_at (c := c) h (by rcases hc with rfl | rfl | rfl | rfl | rfl <;> decide)
    have hcode : octets_Reader_Code (r.o b) = some r.e := rfl
    by_cases he : r.e = 0
    · have key : wire_Get_b0 x (s, p) m (r.o b) = some (.inl ((s, p + 1), (gS b c m r).1, (gS b c m r).2.o b)) := by
        simp only [wire_Get_b0, h1, Option.bind_some, Option.elim_some, lt_eq, hcode, he, bne_self_eq_false, Bool.false_eq_true, if_false]
        unfold gS
        have l1 := rN_le hr 1099511627776
        have l2 := rN_le l1.1 1099511627776
        rcases hc with rfl | rfl | rfl | rfl | rfl
        · simp only [show ((((73#8 : BitVec 8).toNat : Int)) == 73) = true from rfl, if_true]
          rw [show (1099511627776 : Int) = ((1099511627776 : Nat) : Int) from rfl, octN_r hb hr (by omega)]
          rfl
        · simp only [show ((((75#8 : BitVec 8).toNat : Int)) == 73) = false from rfl, show ((((75#8 : BitVec 8).toNat : Int)) == 75) = true from rfl, Bool.false_eq_true, if_false, if_true, show ¬ (75#8 : BitVec 8) = 73#8 by decide]
          rw [show (40 : Int) = ((40 : Nat) : Int) from rfl, octB_r hb hr (by omega)]
          rfl
        · simp only [show ((((65#8 : BitVec 8).toNat : Int)) == 73) = false from rfl, show ((((65#8 : BitVec 8).toNat : Int)) == 75) = false from rfl, show ((((65#8 : BitVec 8).toNat : Int)) == 65) = true from rfl, Bool.false_eq_true, if_false, if_true, show ¬ (65#8 : BitVec 8) = 73#8 by decide, show ¬ (65#8 : BitVec 8) = 75#8 by decide]
          rw [show (1099511627776 : Int) = ((1099511627776 : Nat) : Int) from rfl, octN_r hb hr (by omega)]
          rfl
        · simp only [show ((((70#8 : BitVec 8).toNat : Int)) == 73) = false from rfl, show ((((70#8 : BitVec 8).toNat : Int)) == 75) = false from rfl, show ((((70#8 : BitVec 8).toNat : Int)) == 65) = false from rfl, show ((((70#8 : BitVec 8).toNat : Int)) == 70) = true from rfl, Bool.false_eq_true, if_false, if_true, show ¬ (70#8 : BitVec 8) = 73#8 by decide, show ¬ (70#8 : BitVec 8) = 75#8 by decide, show ¬ (70#8 : BitVec 8) = 65#8 by decide]
          have h5 := octN_r hb hr (m := 1) (by omega)
          rw [show ((1 : Nat) : Int) = 1 from rfl] at h5
          rw [h5]
          rfl
        · simp only [show ((((86#8 : BitVec 8).toNat : Int)) == 73) = false from rfl, show ((((86#8 : BitVec 8).toNat : Int)) == 75) = false from rfl, show ((((86#8 : BitVec 8).toNat : Int)) == 65) = false from rfl, show ((((86#8 : BitVec 8).toNat : Int)) == 70) = false from rfl, show ((((86#8 : BitVec 8).toNat : Int)) == 86) = true from rfl, Bool.false_eq_true, if_false, if_true, show ¬ (86#8 : BitVec 8) = 73#8 by decide, show ¬ (86#8 : BitVec 8) = 75#8 by decide, show ¬ (86#8 : BitVec 8) = 65#8 by decide, show ¬ (86#8 : BitVec 8) = 70#8 by decide]
          by_cases hf : m.Found = true
          · rw [if_pos hf, if_pos hf, show (1099511627776 : Int) = ((1099511627776 : Nat) : Int) from rfl, octN_r hb hr (by omega)]
            simp only [Option.bind_some]
            rw [octN_r hb l1.1 (by omega)]
            simp only [Option.bind_some]
            rw [show (4096 : Int) = ((4096 : Nat) : Int) from rfl, octB_r hb l2.1 (by omega)]
            rfl
          · rw [if_neg hf, if_neg hf]
      obtain ⟨q, hq⟩ := get_l hb x l s (p + 1) (gS b c m r).1 (gS b c m r).2 (fun d hd => hl d (List.mem_cons_of_mem _ hd)) h2 (gS_le hr)
      refine ⟨q, ?_⟩
      simp only [gW]
      rw [if_neg (by simp [he]), ← hq]
      exact loopO_in (body := fun s => wire_Get_b0 x s.1 s.2.1 s.2.2) key
    · refine ⟨(s, p + 1), loopO_out (body := fun s => wire_Get_b0 x s.1 s.2.1 s.2.2) ?_⟩
      simp only [wire_Get_b0, h1, Option.bind_some, Option.elim_some, lt_eq, hcode, gW]
      rw [if_pos (by simpa using he), if_pos he]
def zeroM : api_Msg := ⟨0, 0, 0, 0, 0, zeroE, false⟩
def hdM (b : List (BitVec 8)) : api_Msg × rdr :=
  (⟨(rN b ⟨0, 0⟩ 6).1, (rN b (rN b ⟨0, 0⟩ 6).2 16).1, (rN b (rN b (rN b ⟨0, 0⟩ 6).2 16).2 16).1, (rN b (rN b (rN b (rN b ⟨0, 0⟩ 6).2 16).2 16).2 1099511627776).1, 0, zeroE, false⟩, (rN b (rN b (rN b (rN b ⟨0, 0⟩ 6).2 16).2 16).2 1099511627776).2)
def bdM (b : List (BitVec 8)) : api_Msg × rdr := gL b (ptsA (hdM b).1.Kind) (hdM b).1 (hdM b).2
def endC (b : List (BitVec 8)) (r : rdr) : Int := if r.e = 0 ∧ r.a < b.length then 5 else r.e
def decM (b : List (BitVec 8)) : api_Msg × Int :=
  if b.length < 4 then (zeroM, 6) else if cfits b = false then (zeroM, 7) else
  if endC (b.take (b.length - 4)) (bdM (b.take (b.length - 4))).2 ≠ 0 then (zeroM, endC (b.take (b.length - 4)) (bdM (b.take (b.length - 4))).2) else
  if ckM (bdM (b.take (b.length - 4))).1 ≠ 0 then (zeroM, ckM (bdM (b.take (b.length - 4))).1) else ((bdM (b.take (b.length - 4))).1, 0)
theorem hdM_le (b : List (BitVec 8)) : (hdM b).2.a ≤ b.length := by
  have h1 := rN_le (b := b) (r := ⟨0, 0⟩) (by simp) 6
  have h2 := rN_le h1.1 16
  have h3 := rN_le h2.1 16
  exact (rN_le h3.1 1099511627776).1
theorem wget_eq {b : List (BitVec 8)} (hb : b.length ≤ 900000) : ∃ e, wire_Get b = some ((decM b).1, e) ∧ codeOf e = (decM b).2 ∧ e.isNil = decide ((decM b).2 = 0) := by
  unfold wire_Get decM
  simp only [lt_eq]
  by_cases h4 : b.length < 4
  · rw [if_pos (decide_eq_true (by omega)), if_pos h4, new_eq _ _ (6 : Int) (by decide)]
    exact ⟨_, rfl, rfl, rfl⟩
  · rw [if_neg (by rw [decide_eq_false (by omega)]; simp), if_neg h4, fits_eq (by omega)]
    simp only [Option.bind_some]
    cases hfit : cfits b with
    | false =>
      rw [if_pos rfl, new_eq _ _ (7 : Int) (by decide)]
      exact ⟨_, rfl, rfl, rfl⟩
    | true =>
      rw [if_neg (by simp), w64_eq (by omega) (by omega), show (b.length : Int) - 4 = ((b.length - 4 : Nat) : Int) by omega, cutTo_eq (by omega)]
      simp only [Option.bind_some]
      have hc : (b.take (b.length - 4)).length ≤ 900000 := by rw [List.length_take]; omega
      generalize b.take (b.length - 4) = c at *
      rw [read_eq (by omega)]
      simp only [Option.bind_some]
      have h1 := rN_le (b := c) (r := ⟨0, 0⟩) (by simp) 6
      have h2 := rN_le h1.1 16
      have h3 := rN_le h2.1 16
      have hle := hdM_le c
      have k1 := octN_r (b := c) (r := ⟨0, 0⟩) (by omega) (by simp) (m := 6) (by omega)
      have k2 := octN_r (b := c) (by omega) h1.1 (m := 16) (by omega)
      have k3 := octN_r (b := c) (by omega) h2.1 (m := 16) (by omega)
      have k4 := octN_r (b := c) (by omega) h3.1 (m := 1099511627776) (by omega)
      have e0 : (⟨c, 0, 0⟩ : octets_Reader) = rdr.o ⟨0, 0⟩ c := rfl
      rw [e0, show (6 : Int) = ((6 : Nat) : Int) from rfl, k1]
      simp only [Option.bind_some]
      rw [show (16 : Int) = ((16 : Nat) : Int) from rfl, k2]
      simp only [Option.bind_some]
      rw [k3]
      simp only [Option.bind_some]
      rw [show (1099511627776 : Int) = ((1099511627776 : Nat) : Int) from rfl, k4]
      simp only [Option.bind_some]
      rw [parts_eq]
      simp only [Option.bind_some]
      obtain ⟨q, hq⟩ := get_l (b := c) (by omega) b (ptsA (hdM c).1.Kind) (ptsA (hdM c).1.Kind) 0 (hdM c).1 (hdM c).2 (ptsA_is _) rfl hle
      have hq' := hq
      unfold hdM at hq
      simp only at hq
      have ez : z_api_Entry = zeroE := rfl
      simp only [z_api_Msg, ez, hq, Option.bind_some]
      have hg := gW_eq (b := c) (ptsA (hdM c).1.Kind) (hdM c).1 (hdM c).2
      have hgl := gL_le (b := c) (ptsA (hdM c).1.Kind) (hdM c).1 hle
      have ew : gW c (ptsA ((rN c ⟨0, 0⟩ 6).1 : Int)) ⟨((rN c ⟨0, 0⟩ 6).1 : Int), ((rN c (rN c ⟨0, 0⟩ 6).2 16).1 : Int), ((rN c (rN c (rN c ⟨0, 0⟩ 6).2 16).2 16).1 : Int), ((rN c (rN c (rN c (rN c ⟨0, 0⟩ 6).2 16).2 16).2 1099511627776).1 : Int), 0, zeroE, false⟩ (rN c (rN c (rN c (rN c ⟨0, 0⟩ 6).2 16).2 16).2 1099511627776).2 = gW c (ptsA (hdM c).1.Kind) (hdM c).1 (hdM c).2 := rfl
      rw [ew]
      unfold bdM
      generalize gW c (ptsA (hdM c).1.Kind) (hdM c).1 (hdM c).2 = W at *
      generalize gL c (ptsA (hdM c).1.Kind) (hdM c).1 (hdM c).2 = L at *
      obtain ⟨g1, g2⟩ := hg
      rw [g1]
      have he := end_eq (b := c) (a := L.2.a) (e := L.2.e) (by omega) hgl
      have he' : octets_Reader_End (L.2.o c) = some (endC c L.2, ⟨c, L.2.a, endC c L.2⟩) := he
      rw [he']
      simp only [Option.bind_some]
      by_cases h5 : endC c L.2 = 0
      · have b5 : (endC c L.2 != 0) = false := by simp [h5]
        simp only [b5, h5, Bool.false_eq_true, if_false, ne_eq, not_true_eq_false]
        have h6 : L.2.e = 0 := by
          unfold endC at h5
          split at h5
          · cases h5
          · exact h5
        rw [g2 h6]
        obtain ⟨e, e1, e2, e3⟩ := wcheck_eq L.1
        simp only [e1, Option.bind_some, e3]
        by_cases h7 : ckM L.1 = 0
        · simp only [h7, decide_true, Bool.not_true, Bool.false_eq_true, if_false, not_true_eq_false]
          exact ⟨_, rfl, rfl, rfl⟩
        · have h8 : e.isNil = false := by rw [e3]; simp [h7]
          simp only [h7, decide_false, Bool.not_false, if_true, not_false_eq_true, wrap_eq _ _ e h8, Option.bind_some]
          exact ⟨_, rfl, by simp [codeOf, e2], by simp [Err.isNil, h7]⟩
      · have b5 : (endC c L.2 != 0) = true := by simpa using h5
        have ha : octets_Reader_At ⟨c, L.2.a, endC c L.2⟩ = some (L.2.a : Int) := rfl
        simp only [b5, h5, if_true, ne_eq, not_false_eq_true, ha, Option.bind_some, new_eq _ _ _ h5]
        exact ⟨_, rfl, by simp [codeOf, h5], by simp [Err.isNil, h5]⟩
theorem ptsA_cases (k : Int) : (k = 2 ∧ ptsA k = [65#8, 70#8]) ∨ ((k = 3 ∨ k = 4) ∧ ptsA k = [75#8, 65#8]) ∨ (k = 5 ∧ ptsA k = [73#8, 75#8]) ∨ (k = 6 ∧ ptsA k = [73#8, 75#8, 65#8, 70#8, 86#8]) ∨ (k ≠ 2 ∧ k ≠ 3 ∧ k ≠ 4 ∧ k ≠ 5 ∧ k ≠ 6 ∧ ptsA k = []) := by
  by_cases h2 : k = 2
  · exact .inl ⟨h2, by rw [h2]; rfl⟩
  by_cases h3 : k = 3
  · exact .inr (.inl ⟨.inl h3, by rw [h3]; rfl⟩)
  by_cases h4 : k = 4
  · exact .inr (.inl ⟨.inr h4, by rw [h4]; rfl⟩)
  by_cases h5 : k = 5
  · exact .inr (.inr (.inl ⟨h5, by rw [h5]; rfl⟩))
  by_cases h6 : k = 6
  · exact .inr (.inr (.inr (.inl ⟨h6, by rw [h6]; rfl⟩)))
  exact .inr (.inr (.inr (.inr ⟨h2, h3, h4, h5, h6, by simp [ptsA, h2, h3, h4, h5, h6]⟩)))
def upP (m : api_Msg) (c : BitVec 8) (z : api_Msg) : api_Msg :=
  if c = 73#8 then { z with Id := m.Id }
  else if c = 75#8 then { z with X := { z.X with Key := m.X.Key } }
  else if c = 65#8 then { z with X := { z.X with AsOf := m.X.AsOf } }
  else if c = 70#8 then { z with Found := m.Found }
  else if m.Found = true then { z with X := { z.X with Version := m.X.Version, Ends := m.X.Ends, Value := m.X.Value } } else z
theorem gS_is {m z : api_Msg} {b l : List (BitVec 8)} {c : BitVec 8} {r : rdr} (hc : okP m c) (he : r.e = 0) (hr : r.a ≤ b.length) (h : b.drop r.a = stP m c ++ l) (hf : c = 86#8 → z.Found = m.Found) : gS b c z r = (upP m c z, ⟨r.a + (stP m c).length, 0⟩) := by
  unfold gS upP
  unfold stP at h ⊢
  rcases hc with ⟨rfl, g1, g2⟩ | ⟨rfl, g⟩ | ⟨rfl, g1, g2⟩ | rfl | ⟨rfl, g⟩
  · simp only [if_true] at h ⊢
    have k := rN_is he h (m := 1099511627776) (by omega) (by omega)
    have e2 : (m.Id.toNat : Int) = m.Id := by omega
    rw [k]
    simp only [e2]
  · simp only [show ¬ (75#8 : BitVec 8) = 73#8 by decide, if_true, if_false] at h ⊢
    rw [List.append_assoc] at h
    have k := rB_is he hr h (m := 40) (by omega) (by omega)
    rw [k, List.length_append, Nat.add_assoc]
  · simp only [show ¬ (65#8 : BitVec 8) = 73#8 by decide, show ¬ (65#8 : BitVec 8) = 75#8 by decide, if_true, if_false] at h ⊢
    have k := rN_is he h (m := 1099511627776) (by omega) (by omega)
    have e2 : (m.X.AsOf.toNat : Int) = m.X.AsOf := by omega
    rw [k]
    simp only [e2]
  · simp only [show ¬ (70#8 : BitVec 8) = 73#8 by decide, show ¬ (70#8 : BitVec 8) = 75#8 by decide, show ¬ (70#8 : BitVec 8) = 65#8 by decide, if_true, if_false] at h ⊢
    have k := rN_is he h (m := 1) (by split <;> omega) (by split <;> omega)
    rw [k]
    cases hF : m.Found <;> simp
  · simp only [show ¬ (86#8 : BitVec 8) = 73#8 by decide, show ¬ (86#8 : BitVec 8) = 75#8 by decide, show ¬ (86#8 : BitVec 8) = 65#8 by decide, show ¬ (86#8 : BitVec 8) = 70#8 by decide, if_false, hf rfl] at h ⊢
    by_cases hF : m.Found = true
    · simp only [hF, if_true, List.append_assoc] at h ⊢
      obtain ⟨a1, a2, a3, a4, a5, a6, a7, a8, a9⟩ := ck_ok (g hF)
      have k1 := rN_is he h (m := 1099511627776) (by omega) (by omega)
      have d1 := drop_app h
      have l1 := (rN_le hr 1099511627776).1
      rw [k1] at l1
      have k2 := rN_is (r := ⟨r.a + (num7 m.X.Version.toNat).length, 0⟩) rfl d1 (m := 1099511627776) (by omega) (by omega)
      have d2 := drop_app d1
      have l2 := (rN_le l1 1099511627776).1
      rw [k2] at l2
      have k3 := rB_is (r := ⟨r.a + (num7 m.X.Version.toNat).length + (num7 m.X.Ends.toNat).length, 0⟩) rfl l2 d2 (m := 4096) (by omega) (by omega)
      have e2 : (m.X.Version.toNat : Int) = m.X.Version := by omega
      have e3 : (m.X.Ends.toNat : Int) = m.X.Ends := by omega
      simp only [k1, k2, k3, e2, e3]
      refine Prod.ext rfl ?_
      simp only [List.length_append, rdr.mk.injEq, and_true]
      omega
    · simp only [hF, Bool.false_eq_true, if_false, List.length_nil, Nat.add_zero]
      refine Prod.ext rfl ?_
      obtain ⟨a, e⟩ := r
      simp only at he
      subst he
      rfl
theorem gL_is {m : api_Msg} {b rest : List (BitVec 8)} : ∀ (l : List (BitVec 8)) (z : api_Msg) (r : rdr), (∀ c ∈ l, okP m c) → r.e = 0 → r.a ≤ b.length → b.drop r.a = l.flatMap (stP m) ++ rest →
    (86#8 ∉ l ∨ z.Found = m.Found ∨ ∃ l1 l2, l = l1 ++ 70#8 :: l2 ∧ 86#8 ∉ l1) → gL b l z r = (l.foldl (fun z c => upP m c z) z, ⟨r.a + (l.flatMap (stP m)).length, 0⟩)
  | [], z, r, _, he, _, h, _ => by
    obtain ⟨a, e⟩ := r
    simp only at he
    subst he
    rfl
  | c :: l, z, r, hl, he, hr, h, hf => by
    have hc := hl c (List.mem_cons_self ..)
    simp only [List.flatMap_cons, List.append_assoc] at h
    have k := gS_is (z := z) hc he hr h (fun e => by
      subst e
      rcases hf with hf | hf | ⟨l1, l2, h1, h2⟩
      · exact absurd (List.mem_cons_self ..) hf
      · exact hf
      · cases l1 with
        | nil => simp at h1
        | cons x l1 => simp at h1; obtain ⟨rfl, _⟩ := h1; exact absurd (List.mem_cons_self ..) h2)
    have hle := gS_le (b := b) (c := c) (m := z) hr
    rw [k] at hle
    simp only [gL, k, List.foldl_cons]
    rw [gL_is l (upP m c z) ⟨r.a + (stP m c).length, 0⟩ (fun d hd => hl d (List.mem_cons_of_mem _ hd)) rfl hle (drop_app h) ?_]
    · simp only [List.flatMap_cons, List.length_append, Nat.add_assoc]
    · rcases hf with hf | hf | ⟨l1, l2, h1, h2⟩
      · exact .inl (fun h => hf (List.mem_cons_of_mem _ h))
      · refine .inr (.inl ?_)
        unfold upP
        repeat' split
        all_goals first | exact hf | rfl
      · cases l1 with
        | nil =>
          simp at h1
          obtain ⟨rfl, rfl⟩ := h1
          exact .inr (.inl rfl)
        | cons x l1 =>
          simp at h1
          obtain ⟨rfl, rfl⟩ := h1
          exact .inr (.inr ⟨l1, l2, rfl, fun h => h2 (List.mem_cons_of_mem _ h)⟩)
theorem ptsA_F (k : Int) (z m : api_Msg) : 86#8 ∉ ptsA k ∨ z.Found = m.Found ∨ ∃ l1 l2, ptsA k = l1 ++ 70#8 :: l2 ∧ 86#8 ∉ l1 := by
  rcases ptsA_cases k with ⟨_, hp⟩ | ⟨_, hp⟩ | ⟨_, hp⟩ | ⟨_, hp⟩ | ⟨_, _, _, _, _, hp⟩ <;> rw [hp]
  · exact .inl (by decide)
  · exact .inl (by decide)
  · exact .inl (by decide)
  · exact .inr (.inr ⟨[73#8, 75#8, 65#8], [86#8], rfl, by decide⟩)
  · exact .inl (by simp)
theorem fold_up {m : api_Msg} (h : okM m) : (ptsA m.Kind).foldl (fun z c => upP m c z) ⟨m.Kind, m.From, m.To, m.Epoch, 0, zeroE, false⟩ = m := by
  have h1 := h.k1; have h2 := h.k6; have i0 := h.i0; have key0 := h.key0; have a0 := h.a0; have f := h.f; have v0 := h.v0
  clear h
  obtain ⟨k, fr, t, e, i, ⟨key, ver, asf, ends, val⟩, fd⟩ := m
  simp only at *
  have h0 : k = 1 ∨ k = 2 ∨ k = 3 ∨ k = 4 ∨ k = 5 ∨ k = 6 := by omega
  rcases h0 with rfl | rfl | rfl | rfl | rfl | rfl
  · simp at *; simp [ptsA, zeroE, *]
  · simp at *; simp [ptsA, zeroE, upP, *]
  · simp at *; simp [ptsA, zeroE, upP, *]
  · simp at *; simp [ptsA, zeroE, upP, *]
  · simp at *; simp [ptsA, zeroE, upP, *]
  · cases fd
    · simp at *; simp [ptsA, zeroE, upP, *]
    · simp [ptsA, zeroE, upP]
theorem dec_enc {m : api_Msg} (h : ckM m = 0) : decM (cseal (encM m)) = (m, 0) := by
  have ho := ckM_ok h
  have hl := cseal_len (encM m)
  have htk : (cseal (encM m)).take ((cseal (encM m)).length - 4) = encM m := by
    rw [hl, Nat.add_sub_cancel]
    exact List.take_left' rfl
  unfold decM
  rw [if_neg (by omega), cseal_fits, if_neg (by simp), htk]
  have g1 := ho.k1; have g2 := ho.k6; have g3 := ho.f0; have g4 := ho.f1; have g5 := ho.t0; have g6 := ho.t1; have g7 := ho.e1; have g8 := ho.e2
  have hb : bdM (encM m) = (m, ⟨(encM m).length, 0⟩) := by
    have d0 : (encM m).drop 0 = num7 m.Kind.toNat ++ (num7 m.From.toNat ++ (num7 m.To.toNat ++ (num7 m.Epoch.toNat ++ ((ptsA m.Kind).flatMap (stP m) ++ [])))) := by simp [encM]
    generalize hb : encM m = b at *
    have k1 := rN_is (b := b) (r := ⟨0, 0⟩) rfl d0 (m := 6) (by omega) (by omega)
    have d1 := drop_app d0
    have l1 := (rN_le (b := b) (r := ⟨0, 0⟩) (by simp) 6).1
    rw [k1] at l1
    have k2 := rN_is (r := ⟨0 + (num7 m.Kind.toNat).length, 0⟩) rfl d1 (m := 16) (by omega) (by omega)
    have d2 := drop_app d1
    have l2 := (rN_le l1 16).1
    rw [k2] at l2
    have k3 := rN_is (r := ⟨0 + (num7 m.Kind.toNat).length + (num7 m.From.toNat).length, 0⟩) rfl d2 (m := 16) (by omega) (by omega)
    have d3 := drop_app d2
    have l3 := (rN_le l2 16).1
    rw [k3] at l3
    have k4 := rN_is (r := ⟨0 + (num7 m.Kind.toNat).length + (num7 m.From.toNat).length + (num7 m.To.toNat).length, 0⟩) rfl d3 (m := 1099511627776) (by omega) (by omega)
    have d4 := drop_app d3
    have l4 := (rN_le l3 1099511627776).1
    rw [k4] at l4
    have hh : hdM b = (⟨m.Kind, m.From, m.To, m.Epoch, 0, zeroE, false⟩, ⟨0 + (num7 m.Kind.toNat).length + (num7 m.From.toNat).length + (num7 m.To.toNat).length + (num7 m.Epoch.toNat).length, 0⟩) := by
      unfold hdM
      simp only [k1, k2, k3, k4]
      rw [show (m.Kind.toNat : Int) = m.Kind by omega, show (m.From.toNat : Int) = m.From by omega, show (m.To.toNat : Int) = m.To by omega, show (m.Epoch.toNat : Int) = m.Epoch by omega]
    unfold bdM
    rw [hh]
    simp only
    rw [gL_is (m := m) (rest := []) (ptsA m.Kind) _ _ ho.pts rfl l4 d4 (ptsA_F _ _ _), fold_up ho]
    refine Prod.ext rfl ?_
    simp only [rdr.mk.injEq, and_true]
    rw [← hb]
    simp only [encM, List.length_append]
    omega
  rw [hb]
  have he : endC (encM m) ⟨(encM m).length, 0⟩ = 0 := by simp [endC]
  simp [he, h]
def exM : api_Msg := ⟨6, 0, 3, 2, 7, ⟨[107#8], 4, 5, 0, [118#8]⟩, true⟩
end Go.Proofs.YtedcgeghgbgonaaGreatDoor
namespace Go.Proofs.YtedcgeghgbgonaaGreatDoor
open Go Go.Va
set_option linter.unusedVariables false
set_option linter.unusedSimpArgs false
set_option maxRecDepth 20000
noncomputable def slices_Clone_byte_byte (x0 : List (BitVec 8)) : Option ((List (BitVec 8))) :=
 (app 1 ([] : List (BitVec 8)) x0).bind fun v6 =>
 some v6
end Go.Proofs.YtedcgeghgbgonaaGreatDoor
namespace Go.Proofs.YtedcgeghgbgonaaGreatDoor
open Go Go.Va
set_option linter.unusedVariables false
set_option linter.unusedSimpArgs false
abbrev Itm := lines_parcel × api_Msg × Bool
structure PR (x : Itm) : Prop where
  ok : ckM x.2.1 = 0
  val : x.2.1.X.Value.length ≤ 5000
  sp : x.1.spoilt = x.2.2
  len : x.1.b.length = (cseal (encM x.2.1)).length
  good : x.2.2 = false → x.1.b = cseal (encM x.2.1)
  bad : x.2.2 = true → cfits x.1.b = false
abbrev Wy := List Itm × Int
def nL (s : Wy) : lines_Lines := ⟨s.1.map (·.1), s.2⟩
structure Iv (s : Wy) : Prop where
  q : ∀ x ∈ s.1, PR x
  n : s.1.length ≤ 200
theorem nL_len (s : Wy) : (nL s).l.length = s.1.length := by simp [nL]
theorem PR.bl {x : Itm} (h : PR x) : x.1.b.length ≤ 21040 ∧ 4 ≤ x.1.b.length := by
  have h1 := encM_len (ckM_ok h.ok)
  have h2 := cseal_len (encM x.2.1)
  have h3 := h.len
  omega
theorem at_out (s : Wy) (op : List (BitVec 8)) {i : Int} (h : i < 0 ∨ (s.1.length : Int) ≤ i) : lines_Lines_at (nL s) op i = some (.fault op i 9 .nil) := by
  unfold lines_Lines_at
  simp only [lt_eq, nL_len]
  rw [new_eq op i 9 (by decide)]
  by_cases h0 : i < 0
  · rw [if_pos (decide_eq_true h0)]; rfl
  · rw [if_neg (by simpa using h0), decide_eq_true (show i ≥ (s.1.length : Int) by omega)]; rfl
theorem at_in (s : Wy) (op : List (BitVec 8)) {k : Nat} (h : k < s.1.length) : lines_Lines_at (nL s) op (k : Int) = some .nil := by
  unfold lines_Lines_at
  simp only [lt_eq, nL_len]
  rw [if_neg (by simp), decide_eq_false (show ¬ (k : Int) ≥ (s.1.length : Int) by omega)]
  rfl
theorem chk_in (s : Wy) {k : Nat} (h : k < s.1.length) : chk (nL s).l.length (k : Int) = some () := by
  unfold chk; rw [nL_len, if_pos (by omega)]
theorem ixA_in (s : Wy) {k : Nat} (h : k < s.1.length) : ixA (nL s).l.length (nL s).l (k : Int) = some s.1[k].1 := by
  rw [ixA_nat (by rw [nL_len]; exact h) (by rw [nL_len]; exact h)]
  simp [nL]
theorem get_good {x : Itm} (h : PR x) (hd : x.2.2 = false) : wire_Get x.1.b = some (x.2.1, .nil) := by
  have hb := h.bl
  obtain ⟨e, e1, e2, e3⟩ := wget_eq (b := x.1.b) (by omega)
  rw [h.good hd, dec_enc h.ok] at e1 e2 e3
  rw [h.good hd, e1]
  cases e with
  | nil => rfl
  | fault _ _ _ _ => simp [Err.isNil] at e3
theorem get_bad {x : Itm} (h : PR x) (hd : x.2.2 = true) : ∃ o a, wire_Get x.1.b = some (zeroM, .fault o a 7 .nil) := by
  have hb := h.bl
  unfold wire_Get
  simp only [lt_eq]
  rw [if_neg (by rw [decide_eq_false (by omega)]; simp), fits_eq (by omega), h.bad hd]
  simp only [Option.bind_some, Bool.not_false, if_true]
  rw [new_eq _ _ (7 : Int) (by decide)]
  exact ⟨_, _, rfl⟩
theorem look_out (s : Wy) {i : Int} (h : i < 0 ∨ (s.1.length : Int) ≤ i) : ∃ o, lines_Lines_Look (nL s) i = some (zeroM, .fault o i 9 .nil) := by
  unfold lines_Lines_Look
  simp only [lt_eq]
  rw [at_out s _ h]
  exact ⟨_, rfl⟩
theorem look_in {s : Wy} (I : Iv s) {k : Nat} (h : k < s.1.length) : (s.1[k].2.2 = false → lines_Lines_Look (nL s) (k : Int) = some (s.1[k].2.1, .nil)) ∧ (s.1[k].2.2 = true → ∃ e, lines_Lines_Look (nL s) (k : Int) = some (zeroM, e) ∧ codeOf e = 7 ∧ e.isNil = false ∧ hasE e 9 = false) := by
  have P := I.q _ (List.getElem_mem h)
  unfold lines_Lines_Look
  simp only [lt_eq]
  rw [at_in s _ h]
  simp only [Option.bind_some, Err.isNil, Bool.not_true, Bool.false_eq_true, if_false, chk_in s h, ixA_in s h]
  refine ⟨fun hd => ?_, fun hd => ?_⟩
  · rw [get_good P hd]
    rfl
  · obtain ⟨o, a, e⟩ := get_bad P hd
    rw [e]
    simp only [Option.bind_some]
    rw [wrap_eq _ _ _ rfl]
    exact ⟨_, rfl, rfl, rfl, rfl⟩
def goodL (l : List Itm) : List api_Msg := (l.filter fun x => !x.2.2).map (·.2.1)
theorem goodL_snoc (l : List Itm) (x : Itm) : goodL (l ++ [x]) = if x.2.2 = true then goodL l else goodL l ++ [x.2.1] := by
  unfold goodL
  rw [List.filter_append, List.map_append]
  cases h : x.2.2 <;> simp [h]
theorem goodL_len (l : List Itm) : (goodL l).length ≤ l.length := by
  unfold goodL
  rw [List.length_map]
  exact List.length_filter_le _ _
theorem all_eq {s : Wy} (I : Iv s) : lines_Lines_All (nL s) = some (goodL s.1) := by
  have hn := I.n
  unfold lines_Lines_All lines_Lines_All_l0
  simp only [lt_eq, nL_len]
  have key := loopO_up (body := fun z => lines_Lines_All_b0 (nL s) (s.1.length : Int) z.1 z.2) (fun i => (goodL (s.1.take i), (i : Int))) s.1.length (x := goodL (s.1.take s.1.length)) (fun i hi => by
    unfold lines_Lines_All_b0
    simp only [lt_eq]
    obtain ⟨g1, g2⟩ := look_in I hi
    have P := I.q _ (List.getElem_mem hi)
    have hl := goodL_len (s.1.take i)
    rw [List.length_take] at hl
    rw [if_pos (decide_eq_true (by omega)), chk_in s hi]
    simp only [Option.bind_some, ixA_in s hi]
    rw [List.take_succ_eq_append_getElem hi, goodL_snoc]
    cases hd : s.1[i].2.2 with
    | false =>
      rw [g1 hd]
      simp only [Option.bind_some, Err.isNil, if_true, P.sp, hd, Bool.not_false, Bool.false_eq_true, if_false]
      rw [app_eq (by simp; omega), w64_nat (by omega)]
      rfl
    | true =>
      obtain ⟨e, e1, _, e3, _⟩ := g2 hd
      rw [e1]
      simp only [Option.bind_some, e3, Bool.false_eq_true, if_false, if_true]
      rw [w64_nat (by omega)]) (by
    unfold lines_Lines_All_b0
    simp only [lt_eq]
    rw [if_neg (by simp)])
  rw [List.take_length] at key
  have k2 : loopO (fun z => lines_Lines_All_b0 (nL s) (s.1.length : Int) z.1 z.2) ([], 0) = _ := key
  rw [k2]
  rfl
theorem len_eq26 (s : Wy) : lines_Lines_Len (nL s) = some (s.1.length : Int) := by
  unfold lines_Lines_Len
  simp [lt_eq, nL_len]
theorem lost_eq26 (s : Wy) : lines_Lines_Lost (nL s) = some s.2 := rfl
def itm (m : api_Msg) : Itm := (⟨cseal (encM m), false⟩, m, false)
def send1 (s : Wy) (m : api_Msg) : Wy := if ckM m ≠ 0 ∨ 200 ≤ s.1.length then (s.1, w64 (s.2 + 1)) else (s.1 ++ [itm m], s.2)
theorem itm_ok {m : api_Msg} (h : ckM m = 0) (hv : m.X.Value.length ≤ 5000) : PR (itm m) := ⟨h, hv, rfl, rfl, fun _ => rfl, fun h => by cases h⟩
theorem send1_ok {s : Wy} (I : Iv s) {m : api_Msg} (hv : m.X.Value.length ≤ 5000) : Iv (send1 s m) := by
  unfold send1
  split
  · exact ⟨I.q, I.n⟩
  · rename_i h
    refine ⟨fun x hx => ?_, by simp; omega⟩
    rcases List.mem_append.1 hx with hx | hx
    · exact I.q x hx
    · rw [List.mem_singleton.1 hx]; exact itm_ok (by omega) hv
theorem sends_ok : ∀ (l : List api_Msg) {s : Wy}, Iv s → (∀ m ∈ l, m.X.Value.length ≤ 5000) → Iv (l.foldl send1 s)
  | [], s, I, _ => I
  | m :: l, s, I, h => sends_ok l (send1_ok I (h m List.mem_cons_self)) fun x hx => h x (List.mem_cons_of_mem _ hx)
theorem sendN_eq {s : Wy} (I : Iv s) {l : List api_Msg} (hl : l.length ≤ 1000000) (h : ∀ m ∈ l, m.X.Value.length ≤ 5000) : lines_Lines_Send (nL s) l = some (nL (l.foldl send1 s)) := by
  unfold lines_Lines_Send lines_Lines_Send_l0
  simp only [lt_eq]
  have key := loopO_up (body := fun z => lines_Lines_Send_b0 l (l.length : Int) z.1 z.2.1 z.2.2) (fun i => ((i : Int), (nL ((l.take i).foldl send1 s)).l, nL ((l.take i).foldl send1 s))) l.length (x := ((nL ((l.take l.length).foldl send1 s)).l, nL ((l.take l.length).foldl send1 s))) (fun i hi => by
    have Ii := sends_ok (l.take i) I (fun m hm => h m (List.mem_of_mem_take hm))
    rw [List.take_succ_eq_append_getElem hi, List.foldl_append]
    generalize (l.take i).foldl send1 s = t at *
    have hn := Ii.n
    unfold lines_Lines_Send_b0
    simp only [lt_eq, nL_len]
    rw [if_pos (decide_eq_true (by omega)), ix_nat hi]
    obtain ⟨p1, p2⟩ := wput_eq l[i]
    simp only [Option.bind_some, List.foldl_cons, List.foldl_nil]
    unfold send1
    by_cases hc : ckM l[i] = 0
    · rw [p1 hc]
      simp only [Option.bind_some, Err.isNil, Bool.not_true, Bool.false_eq_true, if_false, hc, ne_eq, not_true_eq_false, false_or]
      by_cases h2 : 200 ≤ t.1.length
      · rw [decide_eq_true (show (t.1.length : Int) ≥ 200 by omega), if_pos rfl, if_pos h2, w64_nat (by omega)]
        rfl
      · rw [decide_eq_false (show ¬ (t.1.length : Int) ≥ 200 by omega), if_neg (by decide), if_neg h2, app_eq (by simp [nL_len]; omega), w64_nat (by omega)]
        simp [nL, itm]
    · obtain ⟨e, e1, _, e3⟩ := p2 hc
      rw [e1]
      simp only [Option.bind_some, e3, Bool.not_false, if_true]
      rw [if_pos (.inl hc), w64_nat (by omega)]
      rfl) (by
    unfold lines_Lines_Send_b0
    simp only [lt_eq]
    rw [if_neg (by simp)])
  rw [List.take_length] at key
  simp only [List.take_zero, List.foldl_nil] at key
  have k2 : loopO (fun z => lines_Lines_Send_b0 l (l.length : Int) z.1 z.2.1 z.2.2) (0, (nL s).l, nL s) = _ := key
  rw [k2]
  rfl
theorem del_eq (s : Wy) {k : Nat} (h : k < s.1.length) (hk : k < 1000000) : slices_Delete_lines_parcel_lines_parcel (nL s).l (k : Int) (w64 ((k : Int) + 1)) = some (nL (s.1.eraseIdx k, s.2)).l := by
  unfold slices_Delete_lines_parcel_lines_parcel delO
  rw [w64_nat (by omega), nL_len, if_pos (by omega)]
  simp [nL, List.eraseIdx_eq_take_drop_succ, List.map_take, List.map_drop]
theorem erase_ok {s : Wy} (I : Iv s) (k : Nat) (z : Int) : Iv (s.1.eraseIdx k, z) :=
  ⟨fun x hx => I.q x (List.mem_of_mem_eraseIdx hx), Nat.le_trans (List.length_eraseIdx_le _ _) I.n⟩
theorem take_out (s : Wy) {i : Int} (h : i < 0 ∨ (s.1.length : Int) ≤ i) : ∃ e, lines_Lines_Take (nL s) i = some (zeroM, e, nL s) ∧ codeOf e = 9 ∧ e.isNil = false := by
  obtain ⟨o, e⟩ := look_out s h
  unfold lines_Lines_Take
  simp only [lt_eq, e, Option.bind_some, trouble_Has, hasE, show (((9 : Int) == 9 && (9 : Int) != 0) || false) = true from rfl, if_true]
  rw [wrap_eq _ _ _ rfl]
  exact ⟨_, rfl, rfl, rfl⟩
theorem take_in {s : Wy} (I : Iv s) {k : Nat} (h : k < s.1.length) : (s.1[k].2.2 = false → lines_Lines_Take (nL s) (k : Int) = some (s.1[k].2.1, .nil, nL (s.1.eraseIdx k, s.2))) ∧ (s.1[k].2.2 = true → ∃ e, lines_Lines_Take (nL s) (k : Int) = some (zeroM, e, nL (s.1.eraseIdx k, w64 (s.2 + 1))) ∧ codeOf e = 7 ∧ e.isNil = false) := by
  obtain ⟨g1, g2⟩ := look_in I h
  have hn := I.n
  unfold lines_Lines_Take
  simp only [lt_eq]
  refine ⟨fun hd => ?_, fun hd => ?_⟩
  · rw [g1 hd]
    simp only [Option.bind_some, trouble_Has, hasE, Bool.false_eq_true, if_false]
    rw [del_eq s h (by omega)]
    simp [Err.isNil, nL]
  · obtain ⟨e, e1, e2, e3, e4⟩ := g2 hd
    rw [e1]
    simp only [Option.bind_some, trouble_Has, e4, Bool.false_eq_true, if_false]
    rw [del_eq s h (by omega)]
    simp only [Option.bind_some, e3, Bool.not_false, if_true]
    rw [wrap_eq _ _ _ e3]
    refine ⟨_, rfl, by simp [codeOf, e2], rfl⟩
theorem drop_out (s : Wy) {i : Int} (h : i < 0 ∨ (s.1.length : Int) ≤ i) : ∃ e, lines_Lines_Drop (nL s) i = some (e, nL s) ∧ codeOf e = 9 ∧ e.isNil = false := by
  unfold lines_Lines_Drop
  simp only [lt_eq]
  rw [at_out s _ h]
  exact ⟨_, rfl, rfl, rfl⟩
theorem drop_in {s : Wy} (I : Iv s) {k : Nat} (h : k < s.1.length) : lines_Lines_Drop (nL s) (k : Int) = some (.nil, nL (s.1.eraseIdx k, w64 (s.2 + 1))) := by
  have hn := I.n
  unfold lines_Lines_Drop
  simp only [lt_eq]
  rw [at_in s _ h]
  simp only [Option.bind_some, Err.isNil, Bool.not_true, Bool.false_eq_true, if_false]
  rw [del_eq s h (by omega)]
  rfl
theorem twice_out (s : Wy) {i : Int} (h : i < 0 ∨ (s.1.length : Int) ≤ i) : ∃ e, lines_Lines_Twice (nL s) i = some (e, nL s) ∧ codeOf e = 9 ∧ e.isNil = false := by
  unfold lines_Lines_Twice
  simp only [lt_eq]
  rw [at_out s _ h]
  exact ⟨_, rfl, rfl, rfl⟩
theorem twice_full (s : Wy) {k : Nat} (h : k < s.1.length) (h2 : 200 ≤ s.1.length) : ∃ e, lines_Lines_Twice (nL s) (k : Int) = some (e, nL s) ∧ codeOf e = 4 ∧ e.isNil = false := by
  unfold lines_Lines_Twice
  simp only [lt_eq]
  rw [at_in s _ h]
  simp only [Option.bind_some, Err.isNil, Bool.not_true, Bool.false_eq_true, if_false, nL_len]
  rw [if_pos (decide_eq_true (by omega)), new_eq _ _ 4 (by decide)]
  exact ⟨_, rfl, rfl, rfl⟩
theorem twice_in {s : Wy} (I : Iv s) {k : Nat} (h : k < s.1.length) (h2 : s.1.length < 200) : lines_Lines_Twice (nL s) (k : Int) = some (.nil, nL (s.1 ++ [s.1[k]], s.2)) := by
  have P := I.q _ (List.getElem_mem h)
  have hb := P.bl
  unfold lines_Lines_Twice
  simp only [lt_eq]
  rw [at_in s _ h]
  simp only [Option.bind_some, Err.isNil, Bool.not_true, Bool.false_eq_true, if_false, chk_in s h, ixA_in s h]
  rw [nL_len, if_neg (by rw [decide_eq_false (by omega)]; decide)]
  have hm : mkS 1 ((s.1[k].1.b.length : Nat) : Int) 0#8 = some (List.replicate s.1[k].1.b.length 0#8) := by
    unfold mkS
    rw [if_pos (by omega)]
    simp
  have hc : cpL (List.replicate s.1[k].1.b.length 0#8) s.1[k].1.b = some s.1[k].1.b := by
    unfold cpL
    rw [if_pos (by simp)]
    simp
  simp only [hm, hc, Option.bind_some]
  rw [app_eq (by simp [nL_len]; omega)]
  simp [nL]
theorem spoilt_bits {s : List (BitVec 8)} {a : Nat} (ha : a < s.length) (by_ : BitVec 8) (h4 : 4 ≤ s.length) : ∃ k sh, k + 32 ≤ 8 * s.length ∧ sh < 32 ∧ k + sh = 8 * a ∧ sh ≤ 24 ∧ ∀ p, p < 8 * s.length → bitAt (s.set a (s[a] ^^^ by_)) p = (bitAt s p ^^ turned k (by_.setWidth 32 <<< sh) p) := by
  have key : ∀ k sh, k + 32 ≤ 8 * s.length → k + sh = 8 * a → sh ≤ 24 → ∀ p, p < 8 * s.length → bitAt (s.set a (s[a] ^^^ by_)) p = (bitAt s p ^^ turned k (by_.setWidth 32 <<< sh) p) := by
    intro k sh h1 h2 h3 p hp
    unfold bitAt turned
    by_cases hpa : p / 8 = a
    · rw [hpa, List.getD_eq_getElem?_getD, List.getElem?_set_self ha, List.getD_eq_getElem?_getD, List.getElem?_eq_getElem ha]
      simp only [Option.getD_some, BitVec.getLsbD_xor]
      congr 1
      rw [decide_eq_true (by omega), Bool.true_and, BitVec.getLsbD_shiftLeft, decide_eq_true (show p - k < 32 by omega), decide_eq_false (show ¬ p - k < sh by omega), show p - k - sh = p % 8 by omega]
      simp
      omega
    · rw [List.getD_eq_getElem?_getD, List.getElem?_set_ne (Ne.symm hpa), ← List.getD_eq_getElem?_getD]
      have : (decide (k ≤ p ∧ p < k + 32) && (by_.setWidth 32 <<< sh).getLsbD (p - k)) = false := by
        by_cases hr : k ≤ p ∧ p < k + 32
        · rw [decide_eq_true hr, Bool.true_and, BitVec.getLsbD_shiftLeft]
          by_cases hs : p - k < sh
          · simp [hs]
          · have : 8 ≤ p - k - sh := by omega
            simp [BitVec.getLsbD_of_ge by_ _ this]
        · rw [decide_eq_false hr]; rfl
      rw [this]
      simp
  by_cases h : a + 4 ≤ s.length
  · exact ⟨8 * a, 0, by omega, by omega, by omega, by omega, key _ _ (by omega) (by omega) (by omega)⟩
  · exact ⟨8 * (s.length - 4), 8 * a - 8 * (s.length - 4), by omega, by omega, by omega, by omega, key _ _ (by omega) (by omega) (by omega)⟩
theorem spoilt_fits {s : List (BitVec 8)} {a : Nat} (ha : a < s.length) {by_ : BitVec 8} (hb : by_ ≠ 0#8) (h4 : 4 ≤ s.length) (hf : cfits s = true) : cfits (s.set a (s[a] ^^^ by_)) = false := by
  obtain ⟨k, sh, h1, h2, h3, h5, h6⟩ := spoilt_bits ha by_ h4
  refine tells (w := by_.setWidth 32 <<< sh) (k := k) (fun h0 => hb ?_) (by simp) h1 hf h6
  apply BitVec.eq_of_getLsbD_eq
  intro i hi
  have := congrArg (fun w => w.getLsbD (sh + i)) h0
  simp only [BitVec.getLsbD_shiftLeft, BitVec.getLsbD_setWidth] at this
  rw [decide_eq_true (show sh + i < 32 by omega), decide_eq_false (show ¬ sh + i < sh by omega), show sh + i - sh = i by omega, decide_eq_true (show i < 32 by omega)] at this
  simpa using this
def bad1 (x : Itm) (a : Nat) (by_ : BitVec 8) : Itm := (⟨x.1.b.set a (x.1.b.getD a 0#8 ^^^ by_), true⟩, x.2.1, true)
theorem bad1_ok {x : Itm} (h : PR x) (hd : x.2.2 = false) {a : Nat} (ha : a < x.1.b.length) {by_ : BitVec 8} (hb : by_ ≠ 0#8) : PR (bad1 x a by_) := by
  have hbl := h.bl
  refine ⟨h.ok, h.val, rfl, by simp [bad1, h.len], fun h => (by cases h), fun _ => ?_⟩
  simp only [bad1]
  rw [List.getD_eq_getElem?_getD, List.getElem?_eq_getElem ha, Option.getD_some]
  exact spoilt_fits ha hb (by omega) (by rw [h.good hd]; exact cseal_fits _)
theorem spoil_out (s : Wy) {i : Int} (h : i < 0 ∨ (s.1.length : Int) ≤ i) (at_ : Int) (by_ : BitVec 8) : ∃ e, lines_Lines_Spoil (nL s) i at_ by_ = some (e, nL s) ∧ codeOf e = 9 ∧ e.isNil = false := by
  unfold lines_Lines_Spoil
  simp only [lt_eq]
  rw [at_out s _ h]
  exact ⟨_, rfl, rfl, rfl⟩
theorem spoil_twice {s : Wy} (I : Iv s) {k : Nat} (h : k < s.1.length) (hd : s.1[k].2.2 = true) (at_ : Int) (by_ : BitVec 8) : ∃ e, lines_Lines_Spoil (nL s) (k : Int) at_ by_ = some (e, nL s) ∧ codeOf e = 13 ∧ e.isNil = false := by
  have P := I.q _ (List.getElem_mem h)
  unfold lines_Lines_Spoil
  simp only [lt_eq]
  rw [at_in s _ h]
  simp only [Option.bind_some, Err.isNil, Bool.not_true, Bool.false_eq_true, if_false, chk_in s h, ixA_in s h, P.sp, hd, if_true]
  rw [new_eq _ _ 13 (by decide)]
  exact ⟨_, rfl, rfl, rfl⟩
theorem spoil_range {s : Wy} (I : Iv s) {k : Nat} (h : k < s.1.length) (hd : s.1[k].2.2 = false) {at_ : Int} {by_ : BitVec 8} (hr : at_ < 0 ∨ (s.1[k].1.b.length : Int) ≤ at_ ∨ by_ = 0#8) : ∃ e, lines_Lines_Spoil (nL s) (k : Int) at_ by_ = some (e, nL s) ∧ codeOf e = 2 ∧ e.isNil = false := by
  have P := I.q _ (List.getElem_mem h)
  unfold lines_Lines_Spoil
  simp only [lt_eq]
  rw [at_in s _ h]
  simp only [Option.bind_some, Err.isNil, Bool.not_true, Bool.false_eq_true, if_false, chk_in s h, ixA_in s h, P.sp, hd]
  have hs : (if decide (at_ < 0) = true then some true else if decide (at_ ≥ (s.1[k].1.b.length : Int)) = true then some true else some (by_ == 0#8)) = some true := by
    by_cases h1 : at_ < 0
    · rw [if_pos (decide_eq_true h1)]
    · rw [if_neg (by simpa using h1)]
      by_cases h2 : at_ ≥ (s.1[k].1.b.length : Int)
      · rw [if_pos (decide_eq_true h2)]
      · rw [if_neg (by simpa using h2)]
        have : by_ = 0#8 := by rcases hr with h | h | h; exact absurd h h1; exact absurd h h2; exact h
        subst this
        rfl
  rw [hs]
  simp only [Option.bind_some, if_true]
  rw [new_eq _ _ 2 (by decide)]
  exact ⟨_, rfl, rfl, rfl⟩
theorem spoil_in {s : Wy} (I : Iv s) {k : Nat} (h : k < s.1.length) (hd : s.1[k].2.2 = false) {a : Nat} (ha : a < s.1[k].1.b.length) {by_ : BitVec 8} (hb : by_ ≠ 0#8) : lines_Lines_Spoil (nL s) (k : Int) (a : Int) by_ = some (.nil, nL (s.1.set k (bad1 s.1[k] a by_), s.2)) := by
  have P := I.q _ (List.getElem_mem h)
  have hbl := P.bl
  unfold lines_Lines_Spoil
  simp only [lt_eq]
  rw [at_in s _ h]
  simp only [Option.bind_some, Err.isNil, Bool.not_true, Bool.false_eq_true, if_false, chk_in s h, ixA_in s h, P.sp, hd]
  rw [if_neg (by simp), if_neg (by rw [decide_eq_false (by omega)]; decide)]
  have hcl : slices_Clone_byte_byteV s.1[k].1.b = some s.1[k].1.b := by
    unfold slices_Clone_byte_byteV
    rw [app_eq (by simp; omega)]
    rfl
  have hc : chk s.1[k].1.b.length (a : Int) = some () := by unfold chk; rw [if_pos (by omega)]
  have hx : ixA s.1[k].1.b.length s.1[k].1.b (a : Int) = some s.1[k].1.b[a] := ixA_nat ha ha
  have hu : ∀ f : BitVec 8 → BitVec 8, updA s.1[k].1.b.length s.1[k].1.b (a : Int) f = some (s.1[k].1.b.set a (f s.1[k].1.b[a])) := fun f => by
    unfold updA
    rw [hx]
    simp
  simp only [show (by_ == 0#8) = false by simpa using hb, Option.bind_some, Bool.false_eq_true, if_false, hcl, hc, hx, hu]
  simp only [nL, bad1, List.map_set, Int.toNat_natCast]
  rw [List.getD_eq_getElem?_getD, List.getElem?_eq_getElem ha, Option.getD_some]
theorem set_ok {s : Wy} (I : Iv s) {k : Nat} {y : Itm} (hy : PR y) : Iv (s.1.set k y, s.2) :=
  ⟨fun x hx => by rcases List.mem_or_eq_of_mem_set hx with h | rfl; exact I.q x h; exact hy, by simpa using I.n⟩
end Go.Proofs.YtedcgeghgbgonaaGreatDoor
namespace Go.Proofs.YtedcgeghgbgonaaGreatDoor
open Go Go.Va
set_option linter.unusedSimpArgs false
set_option linter.unusedVariables false
def wf_runtime_boundsError (x : runtime_boundsError) : Prop := (wfI .i64) x.x ∧ (wfI .i64) x.y ∧ wfT x.signed ∧ wfT x.code
def wf_runtime_errorAddressString (x : runtime_errorAddressString) : Prop := wfS x.msg ∧ wfT x.addr
def wf_api_Entry (x : api_Entry) : Prop := wfS x.Key ∧ (wfI .i64) x.Version ∧ (wfI .i64) x.AsOf ∧ (wfI .i64) x.Ends ∧ (wfL wfT) x.Value
theorem opens42 : Opens Tryz.prog 42 e_api_Entry wf_api_Entry := by
  intro H enc w fuel cs x hx
  obtain ⟨xs, m, _, _, hl, hn, hx⟩ := DataW.trod_struct Tryz.underlying42 hx
  rw [cellsOf_sz tk sz42 (by decide)] at hl
  obtain ⟨y0, w0, r0, o0⟩ := opens_f hx hn 0 (o := 0) (s := 1) rfl (opens_s Tryz.underlying9) rfl (cellsOf_sz tk sz9 (by decide))
  obtain ⟨y1, w1, r1, o1⟩ := opens_f hx hn 1 (o := 1) (s := 1) rfl (opens_i64 Tryz.underlying3) rfl (cellsOf_sz tk sz3 (by decide))
  obtain ⟨y2, w2, r2, o2⟩ := opens_f hx hn 2 (o := 2) (s := 1) rfl (opens_i64 Tryz.underlying3) rfl (cellsOf_sz tk sz3 (by decide))
  obtain ⟨y3, w3, r3, o3⟩ := opens_f hx hn 3 (o := 3) (s := 1) rfl (opens_i64 Tryz.underlying3) rfl (cellsOf_sz tk sz3 (by decide))
  obtain ⟨y4, w4, r4, o4⟩ := opens_f hx hn 4 (o := 4) (s := 1) rfl (opens_l tk Tryz.underlying40 (enc_u td5 sz5) (opens_u rfl rfl Tryz.underlying5)) rfl (cellsOf_sz tk sz40 (by decide))
  refine ⟨⟨y0, y1, y2, y3, y4⟩, ⟨w0, w1, w2, w3, w4⟩, ?_, ?_⟩
  · have h := (rel_piece r0 (rel_piece r1 (rel_piece r2 (rel_piece r3 (rel_piece r4 (rel_end hl))))))
    rw [List.drop_zero] at h
    first | exact h | (simp only [List.append_nil, List.append_assoc] at h ⊢; exact h) | (simpa [AV.cells, e_api_Entry, c_api_Entry] using h)
  · have h := (one_piece o0 (one_piece o1 (one_piece o2 (one_piece o3 (one_piece o4 (one_end hl))))))
    rw [List.drop_zero] at h
    exact h
def wf_api_Msg (x : api_Msg) : Prop := (wfI .i64) x.Kind ∧ (wfI .i64) x.From ∧ (wfI .i64) x.To ∧ (wfI .i64) x.Epoch ∧ (wfI .i64) x.Id ∧ wf_api_Entry x.X ∧ wfT x.Found
theorem opens44 : Opens Tryz.prog 44 e_api_Msg wf_api_Msg := by
  intro H enc w fuel cs x hx
  obtain ⟨xs, m, _, _, hl, hn, hx⟩ := DataW.trod_struct Tryz.underlying44 hx
  rw [cellsOf_sz tk sz44 (by decide)] at hl
  obtain ⟨y0, w0, r0, o0⟩ := opens_f hx hn 0 (o := 0) (s := 1) rfl (opens_i64 Tryz.underlying3) rfl (cellsOf_sz tk sz3 (by decide))
  obtain ⟨y1, w1, r1, o1⟩ := opens_f hx hn 1 (o := 1) (s := 1) rfl (opens_i64 Tryz.underlying3) rfl (cellsOf_sz tk sz3 (by decide))
  obtain ⟨y2, w2, r2, o2⟩ := opens_f hx hn 2 (o := 2) (s := 1) rfl (opens_i64 Tryz.underlying3) rfl (cellsOf_sz tk sz3 (by decide))
  obtain ⟨y3, w3, r3, o3⟩ := opens_f hx hn 3 (o := 3) (s := 1) rfl (opens_i64 Tryz.underlying3) rfl (cellsOf_sz tk sz3 (by decide))
  obtain ⟨y4, w4, r4, o4⟩ := opens_f hx hn 4 (o := 4) (s := 1) rfl (opens_i64 Tryz.underlying3) rfl (cellsOf_sz tk sz3 (by decide))
  obtain ⟨y5, w5, r5, o5⟩ := opens_f hx hn 5 (o := 5) (s := 5) rfl opens42 rfl (cellsOf_sz tk sz42 (by decide))
  obtain ⟨y6, w6, r6, o6⟩ := opens_f hx hn 6 (o := 10) (s := 1) rfl (opens_b Tryz.underlying4) rfl (cellsOf_sz tk sz4 (by decide))
  refine ⟨⟨y0, y1, y2, y3, y4, y5, y6⟩, ⟨w0, w1, w2, w3, w4, w5, w6⟩, ?_, ?_⟩
  · have h := (rel_piece r0 (rel_piece r1 (rel_piece r2 (rel_piece r3 (rel_piece r4 (rel_piece r5 (rel_piece r6 (rel_end hl))))))))
    rw [List.drop_zero] at h
    first | exact h | (simp only [List.append_nil, List.append_assoc] at h ⊢; exact h) | (simpa [AV.cells, e_api_Msg, c_api_Msg] using h)
  · have h := (one_piece o0 (one_piece o1 (one_piece o2 (one_piece o3 (one_piece o4 (one_piece o5 (one_piece o6 (one_end hl))))))))
    rw [List.drop_zero] at h
    exact h
def wf_R26_Lines (x : R26_Lines) : Prop := (wfL wf_api_Msg) x.L ∧ (wfL wfT) x.Bad ∧ (wfI .i64) x.Lost
def wf_L26_Op (x : L26_Op) : Prop := (wfI .i64) x.Kind ∧ (wfL wf_api_Msg) x.L ∧ (wfI .i64) x.I ∧ (wfI .i64) x.At ∧ wfT x.By
theorem opens34 : Opens Tryz.prog 34 e_L26_Op wf_L26_Op := by
  intro H enc w fuel cs x hx
  obtain ⟨xs, m, _, _, hl, hn, hx⟩ := DataW.trod_struct Tryz.underlying34 hx
  rw [cellsOf_sz tk sz34 (by decide)] at hl
  obtain ⟨y0, w0, r0, o0⟩ := opens_f hx hn 0 (o := 0) (s := 1) rfl (opens_i64 Tryz.underlying3) rfl (cellsOf_sz tk sz3 (by decide))
  obtain ⟨y1, w1, r1, o1⟩ := opens_f hx hn 1 (o := 1) (s := 1) rfl (opens_l tk Tryz.underlying27 enc44 opens44) rfl (cellsOf_sz tk sz27 (by decide))
  obtain ⟨y2, w2, r2, o2⟩ := opens_f hx hn 2 (o := 2) (s := 1) rfl (opens_i64 Tryz.underlying3) rfl (cellsOf_sz tk sz3 (by decide))
  obtain ⟨y3, w3, r3, o3⟩ := opens_f hx hn 3 (o := 3) (s := 1) rfl (opens_i64 Tryz.underlying3) rfl (cellsOf_sz tk sz3 (by decide))
  obtain ⟨y4, w4, r4, o4⟩ := opens_f hx hn 4 (o := 4) (s := 1) rfl (opens_u rfl rfl Tryz.underlying5) rfl (cellsOf_sz tk sz5 (by decide))
  refine ⟨⟨y0, y1, y2, y3, y4⟩, ⟨w0, w1, w2, w3, w4⟩, ?_, ?_⟩
  · have h := (rel_piece r0 (rel_piece r1 (rel_piece r2 (rel_piece r3 (rel_piece r4 (rel_end hl))))))
    rw [List.drop_zero] at h
    first | exact h | (simp only [List.append_nil, List.append_assoc] at h ⊢; exact h) | (simpa [AV.cells, e_L26_Op, c_L26_Op] using h)
  · have h := (one_piece o0 (one_piece o1 (one_piece o2 (one_piece o3 (one_piece o4 (one_end hl))))))
    rw [List.drop_zero] at h
    exact h
def wf_lines_parcel (x : lines_parcel) : Prop := (wfL wfT) x.b ∧ wfT x.spoilt
def wf_lines_Lines (x : lines_Lines) : Prop := (wfL wf_lines_parcel) x.l ∧ (wfI .i64) x.lost
def wf_trouble_mark (x : trouble_mark) : Prop := (wfI .i64) x.code
def wf_octets_Reader (x : octets_Reader) : Prop := (wfL wfT) x.b ∧ (wfI .i64) x.at_ ∧ (wfI .i64) x.code
def wf_reflectlite_ValueError (x : reflectlite_ValueError) : Prop := wfS x.Method ∧ wfT x.Kind
def wf_abi_Method (x : abi_Method) : Prop := (wfI .i32) x.Name ∧ (wfI .i32) x.Mtyp ∧ (wfI .i32) x.Ifn ∧ (wfI .i32) x.Tfn
end Go.Proofs.YtedcgeghgbgonaaGreatDoor
namespace Go.Proofs.YtedcgeghgbgonaaGreatDoor
open Go Go.Va
set_option linter.unusedVariables false
set_option linter.unusedSimpArgs false
theorem light_in {l : List L26_Op} {i : Nat} (hi : i < l.length) (v : Int) : L26_light_l1 l (i : Int) v ([], 0) = some ((l[i].L.take 40).map (·.X)) := by
  have key := loopO_up (body := fun s => L26_light_b1 l (i : Int) v s.1 s.2) (fun j => ((l[i].L.take j).map (·.X), (j : Int))) (min 40 l[i].L.length) (x := (l[i].L.take (min 40 l[i].L.length)).map (·.X)) (fun j hj => by
    unfold L26_light_b1
    simp only [lt_eq, ix_nat hi, Option.bind_some]
    have hjl : j < l[i].L.length := by omega
    rw [if_pos (decide_eq_true (by omega)), decide_eq_true (show (j : Int) < 40 by omega)]
    simp only [Option.bind_some, if_true, ix_nat hjl]
    have e1 : (l[i].L.take (j + 1)).map (·.X) = (l[i].L.take j).map (·.X) ++ [l[i].L[j].X] := by
      rw [List.take_succ_eq_append_getElem hjl, List.map_append]; rfl
    rw [e1, app_eq (by rw [List.length_map, List.length_take, List.length_singleton]; omega), w64_nat (by omega)]
    rfl) (by
    unfold L26_light_b1
    simp only [lt_eq, ix_nat hi, Option.bind_some]
    by_cases h : ((min 40 l[i].L.length : Nat) : Int) < (l[i].L.length : Int)
    · rw [if_pos (decide_eq_true h), decide_eq_false (by omega)]
      rfl
    · rw [if_neg (by simpa using h)]
      rfl)
  have e : l[i].L.take (min 40 l[i].L.length) = l[i].L.take 40 := by
    by_cases h : 40 ≤ l[i].L.length
    · rw [Nat.min_eq_left h]
    · rw [Nat.min_eq_right (by omega), List.take_of_length_le (Nat.le_refl _), List.take_of_length_le (by omega)]
  rw [e] at key
  exact key
def cnt26 (l : List L26_Op) : Nat := (l.map fun o => o.L.length).sum
theorem light_l26 {l : List L26_Op} (hl : l.length ≤ 40) (hw : ∀ o ∈ l, o.L.length ≤ 9223372036854775807) : ∀ (d i k : Nat), i + d = l.length → k ≤ 300 → ∃ y, loopO (fun s => L26_light_b0 l s.1 s.2) ((k : Int), (i : Int)) = some y ∧ (y = .inr false ∨ (y = .inl () ∧ k + cnt26 (l.drop i) ≤ 300 ∧ ∀ o ∈ l.drop i, o.L.length ≤ 40 ∧ ∀ m ∈ o.L, m.X.Value.length ≤ 5000))
  | 0, i, k, hi, hk => by
    refine ⟨.inl (), loopO_out ?_, .inr ⟨rfl, ?_, ?_⟩⟩
    · unfold L26_light_b0
      simp only [lt_eq]
      rw [if_neg (by simp; omega)]
    · rw [List.drop_of_length_le (by omega)]; simpa [cnt26] using hk
    · rw [List.drop_of_length_le (by omega)]; intro o ho; cases ho
  | d + 1, i, k, hi, hk => by
    have hil : i < l.length := by omega
    have hwi := hw _ (List.getElem_mem hil)
    have hdrop : l.drop i = l[i] :: l.drop (i + 1) := List.drop_eq_getElem_cons hil
    by_cases h40 : l[i].L.length ≤ 40
    · by_cases h3 : k + l[i].L.length > 300
      · refine ⟨.inr false, loopO_out ?_, .inl rfl⟩
        unfold L26_light_b0
        simp only [lt_eq, ix_nat hil, Option.bind_some]
        rw [if_pos (decide_eq_true (by omega)), w64_eq (by omega) (by omega), if_pos (decide_eq_true (by omega))]
      · rcases light_eq ((l[i].L.take 40).map (·.X)) with h | ⟨h, h1, h2⟩
        · refine ⟨.inr false, loopO_out ?_, .inl rfl⟩
          unfold L26_light_b0
          simp only [lt_eq, ix_nat hil, Option.bind_some]
          rw [if_pos (decide_eq_true (by omega)), w64_eq (by omega) (by omega), if_neg (by rw [decide_eq_false (by omega)]; decide), light_in hil _]
          simp only [Option.bind_some]
          rw [if_neg (by rw [decide_eq_false (by omega)]; decide), h]
          rfl
        · obtain ⟨y, e1, e2⟩ := light_l26 hl hw d (i + 1) (k + l[i].L.length) (by omega) (by omega)
          refine ⟨y, ?_, ?_⟩
          · rw [← e1]
            refine loopO_in ?_
            simp only
            unfold L26_light_b0
            simp only [lt_eq, ix_nat hil, Option.bind_some]
            rw [if_pos (decide_eq_true (by omega)), w64_eq (by omega) (by omega), if_neg (by rw [decide_eq_false (by omega)]; decide), light_in hil _]
            simp only [Option.bind_some]
            rw [if_neg (by rw [decide_eq_false (by omega)]; decide), h]
            simp only [Option.bind_some, show decide ((0 : Int) > 0) = false from rfl, Bool.false_eq_true, if_false]
            rw [w64_nat (by omega)]
            simp
          · refine e2.imp id fun ⟨q1, q2, q3⟩ => ⟨q1, ?_, ?_⟩
            · rw [hdrop]
              simp only [cnt26, List.map_cons, List.sum_cons] at q2 ⊢
              omega
            · rw [hdrop]
              intro o ho
              rcases List.mem_cons.1 ho with rfl | ho
              · refine ⟨h40, fun m hm => ?_⟩
                rw [List.take_of_length_le h40] at h2
                exact (h2 m.X (List.mem_map_of_mem hm)).2
              · exact q3 o ho
    · refine ⟨.inr false, loopO_out ?_, .inl rfl⟩
      unfold L26_light_b0
      simp only [lt_eq, ix_nat hil, Option.bind_some]
      rw [if_pos (decide_eq_true (by omega))]
      split
      · rfl
      · rw [light_in hil _]
        simp only [Option.bind_some]
        rw [if_pos (decide_eq_true (by omega))]
        rfl
theorem light_eq26 {l : List L26_Op} (hw : ∀ o ∈ l, o.L.length ≤ 9223372036854775807) : L26_light l = some false ∨ (L26_light l = some true ∧ l.length ≤ 40 ∧ cnt26 l ≤ 300 ∧ ∀ o ∈ l, o.L.length ≤ 40 ∧ ∀ m ∈ o.L, m.X.Value.length ≤ 5000) := by
  unfold L26_light
  simp only [lt_eq]
  by_cases h : l.length > 40
  · left; rw [if_pos (decide_eq_true (by omega))]
  · rw [if_neg (by rw [decide_eq_false (by omega)]; decide)]
    obtain ⟨y, h1, h2⟩ := light_l26 (l := l) (by omega) hw l.length 0 0 (by omega) (by omega)
    have h1' : L26_light_l0 l (0, 0) = some y := h1
    rw [h1']
    rcases h2 with rfl | ⟨rfl, h3, h4⟩
    · exact .inl rfl
    · refine .inr ⟨rfl, by omega, by simpa using h3, by simpa using h4⟩
def m26 : api_Msg := ⟨1, 3, 0, 1, 0, zeroE, false⟩
theorem works26 : L26_works = some true := by
  have hm : ckM m26 = 0 := by decide +kernel
  have hz : ckM zeroM ≠ 0 := by decide +kernel
  have I0 : Iv ([], 0) := ⟨fun x hx => (by cases hx), by simp⟩
  have hS := sendN_eq I0 (l := [m26, zeroM, m26]) (by simp) (by simp [m26, zeroM, zeroE])
  have hs : [m26, zeroM, m26].foldl send1 (([], 0) : Wy) = ([itm m26, itm m26], 1) := by
    simp [send1, hm, hz, w64_eq]
  rw [hs] at hS
  have P := itm_ok hm (by simp [m26, zeroE])
  have hbl := P.bl
  have I1 : Iv ([itm m26, itm m26], 1) := ⟨fun x hx => (by simp at hx; rw [hx]; exact P), by simp⟩
  have h1 := spoil_in I1 (k := 0) (by simp) rfl (a := 2) (show 2 < (itm m26).1.b.length by omega) (by_ := 9#8) (by decide)
  have P2 := bad1_ok P rfl (a := 2) (by omega) (by_ := 9#8) (by decide)
  have I2 : Iv ([bad1 (itm m26) 2 9#8, itm m26], 1) := ⟨fun x hx => (by simp at hx; rcases hx with rfl | rfl; exact P2; exact P), by simp⟩
  obtain ⟨e2, h2, c2, n2⟩ := spoil_twice I2 (k := 0) (by simp) rfl 2 9#8
  have h3 := twice_in I2 (k := 1) (by simp) (by simp)
  have I3 : Iv ([bad1 (itm m26) 2 9#8, itm m26, itm m26], 1) := ⟨fun x hx => (by simp at hx; rcases hx with rfl | rfl; exact P2; exact P), by simp⟩
  obtain ⟨e4, h4, c4, n4⟩ := (take_in I3 (k := 0) (by simp)).2 rfl
  have I4 : Iv ([itm m26, itm m26], 2) := ⟨fun x hx => (by simp at hx; rw [hx]; exact P), by simp⟩
  have h5 := (take_in I4 (k := 1) (by simp)).1 rfl
  have I5 : Iv ([itm m26], 2) := ⟨fun x hx => (by simp at hx; rw [hx]; exact P), by simp⟩
  obtain ⟨e6, h6, c6, n6⟩ := drop_out ([itm m26], 2) (i := 5) (.inr (by simp))
  have h7 := all_eq I5
  unfold L26_works
  simp only [lt_eq]
  have e0 : lines_New = some (nL ([], 0)) := rfl
  have ez : z_api_Entry = zeroE := rfl
  rw [e0]
  simp only [Option.bind_some, ez]
  rw [show (⟨1, 3, 0, 1, 0, zeroE, false⟩ : api_Msg) = m26 from rfl, show (⟨0, 0, 0, 0, 0, zeroE, false⟩ : api_Msg) = zeroM from rfl, hS]
  simp only [Option.bind_some]
  have h1' : lines_Lines_Spoil (nL ([itm m26, itm m26], 1)) 0 2 9#8 = some (.nil, nL ([bad1 (itm m26) 2 9#8, itm m26], 1)) := h1
  rw [h1']
  simp only [Option.bind_some]
  have h2' : lines_Lines_Spoil (nL ([bad1 (itm m26) 2 9#8, itm m26], 1)) 0 2 9#8 = some (e2, nL ([bad1 (itm m26) 2 9#8, itm m26], 1)) := h2
  rw [h2']
  simp only [Option.bind_some]
  have h3' : lines_Lines_Twice (nL ([bad1 (itm m26) 2 9#8, itm m26], 1)) 1 = some (.nil, nL ([bad1 (itm m26) 2 9#8, itm m26, itm m26], 1)) := h3
  rw [h3']
  simp only [Option.bind_some]
  have h4' : lines_Lines_Take (nL ([bad1 (itm m26) 2 9#8, itm m26, itm m26], 1)) 0 = some (zeroM, e4, nL ([itm m26, itm m26], 2)) := h4
  rw [h4']
  simp only [Option.bind_some]
  have h5' : lines_Lines_Take (nL ([itm m26, itm m26], 2)) 1 = some (m26, .nil, nL ([itm m26], 2)) := h5
  rw [h5']
  simp only [Option.bind_some]
  rw [h6]
  simp only [Option.bind_some, Err.isNil, trouble_Of, c2, c4, c6, if_true]
  rw [rsame_eq _ _ (by simp [m26, zeroE])]
  simp only [decide_true, Option.bind_some, if_true, len_eq26, lost_eq26, h7]
  rfl
def rL (s : Wy) : R26_Lines := ⟨s.1.map (·.2.1), s.1.map (·.2.2), s.2⟩
theorem there_out (s : Wy) {i : Int} (h : i < 0 ∨ (s.1.length : Int) ≤ i) : R26_there (rL s) i = some false := by
  unfold R26_there
  simp only [lt_eq, rL, List.length_map]
  by_cases h0 : i ≥ 0
  · rw [if_pos (decide_eq_true h0), decide_eq_false (by omega)]
  · rw [if_neg (by simpa using h0)]
theorem there_in (s : Wy) {k : Nat} (h : k < s.1.length) : R26_there (rL s) (k : Int) = some true := by
  unfold R26_there
  simp only [lt_eq, rL, List.length_map]
  rw [if_pos (decide_eq_true (by omega)), decide_eq_true (by omega)]
theorem ixL (s : Wy) {k : Nat} (h : k < s.1.length) : ix (rL s).L (k : Int) = some s.1[k].2.1 := by
  rw [ix_nat (by simpa [rL] using h)]; simp [rL]
theorem ixB (s : Wy) {k : Nat} (h : k < s.1.length) : ix (rL s).Bad (k : Int) = some s.1[k].2.2 := by
  rw [ix_nat (by simpa [rL] using h)]; simp [rL]
theorem rlook_out (s : Wy) {i : Int} (h : i < 0 ∨ (s.1.length : Int) ≤ i) : R26_Look (rL s) i = some (zeroM, 9) := by
  unfold R26_Look
  simp only [lt_eq, there_out s h, Option.bind_some, Bool.not_false, if_true]
  rfl
theorem rlook_in (s : Wy) {k : Nat} (h : k < s.1.length) : R26_Look (rL s) (k : Int) = some (if s.1[k].2.2 = true then (zeroM, 7) else (s.1[k].2.1, 0)) := by
  unfold R26_Look
  simp only [lt_eq, there_in s h, Option.bind_some, Bool.not_true, Bool.false_eq_true, if_false, ixB s h, ixL s h]
  split <;> rfl
theorem rwith_eq {s : Wy} (h : s.1.length ≤ 1000) (x : Itm) : R26_with (rL s) x.2.1 x.2.2 = some (rL (s.1 ++ [x], s.2)) := by
  unfold R26_with
  simp only [lt_eq, rL]
  rw [app_eq (by simp; omega)]
  simp only [Option.bind_some, List.nil_append]
  rw [app_eq (by simp; omega), Option.bind_some, app_eq (by simp; omega)]
  simp only [Option.bind_some, List.nil_append]
  rw [app_eq (by simp; omega)]
  simp
theorem rbut_eq {s : Wy} (h : s.1.length ≤ 1000) {k : Nat} (hk : k < s.1.length) : R26_but (rL s) (k : Int) = some (rL (s.1.eraseIdx k, s.2)) := by
  unfold R26_but
  simp only [lt_eq, rL]
  rw [cutTo_eq (by simp; omega)]
  simp only [Option.bind_some]
  rw [app_eq (by simp; omega), w64_nat (by omega)]
  simp only [Option.bind_some]
  rw [cutFrom_eq (by simp; omega)]
  simp only [Option.bind_some]
  rw [app_eq (by simp; omega)]
  simp only [Option.bind_some]
  rw [cutTo_eq (by simp; omega)]
  simp only [Option.bind_some]
  rw [app_eq (by simp; omega)]
  simp only [Option.bind_some]
  rw [cutFrom_eq (by simp; omega)]
  simp only [Option.bind_some]
  rw [app_eq (by simp; omega)]
  simp [List.eraseIdx_eq_take_drop_succ, List.map_take, List.map_drop]
theorem rsend_eq {s : Wy} (I : Iv s) {l : List api_Msg} (hl : l.length ≤ 1000000) (h : ∀ m ∈ l, m.X.Value.length ≤ 5000) : R26_Send (rL s) l = some (rL (l.foldl send1 s)) := by
  unfold R26_Send R26_Send_l0
  have key := loopO_up (body := fun z => R26_Send_b0 l z.1 z.2) (fun i => ((i : Int), rL ((l.take i).foldl send1 s))) l.length (x := rL ((l.take l.length).foldl send1 s)) (fun i hi => by
    have Ii := sends_ok (l.take i) I (fun m hm => h m (List.mem_of_mem_take hm))
    rw [List.take_succ_eq_append_getElem hi, List.foldl_append]
    generalize (l.take i).foldl send1 s = t at *
    have hn := Ii.n
    have hv := h _ (List.getElem_mem hi)
    unfold R26_Send_b0
    simp only [lt_eq]
    rw [if_pos (decide_eq_true (by omega)), ix_nat hi]
    simp only [Option.bind_some, List.foldl_cons, List.foldl_nil]
    rw [rcheck_eq (by omega)]
    simp only [Option.bind_some]
    unfold send1
    by_cases hc : ckM l[i] = 0
    · simp only [hc, bne_self_eq_false, Bool.false_eq_true, if_false, Option.bind_some, ne_eq, not_true_eq_false, false_or]
      have hL : ((rL t).L.length : Int) = (t.1.length : Int) := by simp [rL]
      rw [hL]
      by_cases h2 : 200 ≤ t.1.length
      · rw [decide_eq_true (show (t.1.length : Int) ≥ 200 by omega), if_pos rfl, if_pos h2, w64_nat (by omega)]
        rfl
      · rw [decide_eq_false (show ¬ (t.1.length : Int) ≥ 200 by omega), if_neg (by decide), if_neg h2, w64_nat (by omega)]
        have := rwith_eq (s := t) (by omega) (itm l[i])
        simp only [itm] at this
        rw [this]
        rfl
    · rw [show (ckM l[i] != 0) = true by simpa using hc]
      simp only [if_true, Option.bind_some]
      rw [if_pos (.inl hc), w64_nat (by omega)]
      rfl) (by
    unfold R26_Send_b0
    simp only [lt_eq]
    rw [if_neg (by simp)])
  rw [List.take_length] at key
  have k2 : loopO (fun z => R26_Send_b0 l z.1 z.2) (0, rL s) = _ := key
  rw [k2]
  rfl
theorem rtake_out (s : Wy) {i : Int} (h : i < 0 ∨ (s.1.length : Int) ≤ i) : R26_Take (rL s) i = some (rL s, zeroM, 9) := by
  unfold R26_Take
  simp only [lt_eq, rlook_out s h, Option.bind_some]
  rfl
theorem rtake_in {s : Wy} (I : Iv s) {k : Nat} (h : k < s.1.length) : R26_Take (rL s) (k : Int) = some (if s.1[k].2.2 = true then (rL (s.1.eraseIdx k, w64 (s.2 + 1)), zeroM, 7) else (rL (s.1.eraseIdx k, s.2), s.1[k].2.1, 0)) := by
  have hn := I.n
  unfold R26_Take
  simp only [lt_eq, rlook_in s h, Option.bind_some, rbut_eq (s := s) (by omega) h]
  cases hd : s.1[k].2.2 <;> rfl
theorem rdrop_out (s : Wy) {i : Int} (h : i < 0 ∨ (s.1.length : Int) ≤ i) : R26_Drop (rL s) i = some (rL s, 9) := by
  unfold R26_Drop
  simp only [lt_eq, there_out s h, Option.bind_some, Bool.not_false, if_true]
theorem rdrop_in {s : Wy} (I : Iv s) {k : Nat} (h : k < s.1.length) : R26_Drop (rL s) (k : Int) = some (rL (s.1.eraseIdx k, w64 (s.2 + 1)), 0) := by
  have hn := I.n
  unfold R26_Drop
  simp only [lt_eq, there_in s h, Option.bind_some, Bool.not_true, Bool.false_eq_true, if_false, rbut_eq (s := s) (by omega) h]
  rfl
theorem rtwice_out (s : Wy) {i : Int} (h : i < 0 ∨ (s.1.length : Int) ≤ i) : R26_Twice (rL s) i = some (rL s, 9) := by
  unfold R26_Twice
  simp only [lt_eq, there_out s h, Option.bind_some, Bool.not_false, if_true]
theorem rtwice_full (s : Wy) {k : Nat} (h : k < s.1.length) (h2 : 200 ≤ s.1.length) : R26_Twice (rL s) (k : Int) = some (rL s, 4) := by
  unfold R26_Twice
  simp only [lt_eq, there_in s h, Option.bind_some, Bool.not_true, Bool.false_eq_true, if_false]
  rw [if_pos (decide_eq_true (by simp [rL]; omega))]
theorem rtwice_in {s : Wy} (I : Iv s) {k : Nat} (h : k < s.1.length) (h2 : s.1.length < 200) : R26_Twice (rL s) (k : Int) = some (rL (s.1 ++ [s.1[k]], s.2), 0) := by
  unfold R26_Twice
  simp only [lt_eq, there_in s h, Option.bind_some, Bool.not_true, Bool.false_eq_true, if_false, ixL s h, ixB s h]
  rw [if_neg (by rw [decide_eq_false (by simp [rL]; omega)]; decide), rwith_eq (by omega)]
  rfl
theorem rspoil_out (s : Wy) {i : Int} (h : i < 0 ∨ (s.1.length : Int) ≤ i) (at_ : Int) (by_ : BitVec 8) : R26_Spoil (rL s) i at_ by_ = some (rL s, 9) := by
  unfold R26_Spoil
  simp only [lt_eq, there_out s h, Option.bind_some, Bool.not_false, if_true]
theorem rspoil_twice (s : Wy) {k : Nat} (h : k < s.1.length) (hd : s.1[k].2.2 = true) (at_ : Int) (by_ : BitVec 8) : R26_Spoil (rL s) (k : Int) at_ by_ = some (rL s, 13) := by
  unfold R26_Spoil
  simp only [lt_eq, there_in s h, Option.bind_some, Bool.not_true, Bool.false_eq_true, if_false, ixB s h, hd, if_true]
theorem rput26 {x : Itm} (P : PR x) : R23_Put x.2.1 = some (cseal (encM x.2.1), 0) := by
  have := P.val
  rw [rput_eq (by omega), if_pos P.ok]
theorem rspoil_range {s : Wy} (I : Iv s) {k : Nat} (h : k < s.1.length) (hd : s.1[k].2.2 = false) {at_ : Int} {by_ : BitVec 8} (hr : at_ < 0 ∨ (s.1[k].1.b.length : Int) ≤ at_ ∨ by_ = 0#8) : R26_Spoil (rL s) (k : Int) at_ by_ = some (rL s, 2) := by
  have P := I.q _ (List.getElem_mem h)
  unfold R26_Spoil
  simp only [lt_eq, there_in s h, Option.bind_some, Bool.not_true, Bool.false_eq_true, if_false, ixB s h, ixL s h, hd, rput26 P, ← P.len]
  have hs : (if decide (at_ < 0) = true then some true else if decide (at_ ≥ (s.1[k].1.b.length : Int)) = true then some true else some (by_ == 0#8)) = some true := by
    by_cases h1 : at_ < 0
    · rw [if_pos (decide_eq_true h1)]
    · rw [if_neg (by simpa using h1)]
      by_cases h2 : at_ ≥ (s.1[k].1.b.length : Int)
      · rw [if_pos (decide_eq_true h2)]
      · rw [if_neg (by simpa using h2)]
        have : by_ = 0#8 := by rcases hr with h | h | h; exact absurd h h1; exact absurd h h2; exact h
        subst this
        rfl
  rw [hs]
  simp
theorem rspoil_in {s : Wy} (I : Iv s) {k : Nat} (h : k < s.1.length) (hd : s.1[k].2.2 = false) {a : Nat} (ha : a < s.1[k].1.b.length) {by_ : BitVec 8} (hb : by_ ≠ 0#8) : R26_Spoil (rL s) (k : Int) (a : Int) by_ = some (rL (s.1.set k (bad1 s.1[k] a by_), s.2), 0) := by
  have P := I.q _ (List.getElem_mem h)
  have hn := I.n
  unfold R26_Spoil
  simp only [lt_eq, there_in s h, Option.bind_some, Bool.not_true, Bool.false_eq_true, if_false, ixB s h, ixL s h, hd, rput26 P, ← P.len]
  rw [if_neg (by simp), if_neg (by rw [decide_eq_false (by omega)]; decide)]
  simp only [show (by_ == 0#8) = false by simpa using hb, Option.bind_some, Bool.false_eq_true, if_false]
  rw [app_eq (by simp [rL]; omega)]
  simp only [Option.bind_some, List.nil_append]
  have hbl : (rL s).Bad.length = s.1.length := by simp [rL]
  have hc : chk (rL s).Bad.length (k : Int) = some () := by unfold chk; rw [hbl, if_pos (by omega)]
  have hu : updA (rL s).Bad.length (rL s).Bad (k : Int) (fun _ => true) = some ((rL s).Bad.set k true) := by
    unfold updA
    rw [ixA_nat (by omega) (by omega)]
    simp
  simp only [hc, hu, Option.bind_some]
  simp only [rL, bad1, List.map_set]
  have e : (s.1.map (·.2.1)).set k s.1[k].2.1 = s.1.map (·.2.1) := by
    have h2 : k < (s.1.map (·.2.1)).length := by simpa using h
    have e2 : (s.1.map (·.2.1))[k] = s.1[k].2.1 := by simp
    rw [← e2, List.set_getElem_self]
  rw [e]
theorem rall_eq {s : Wy} (I : Iv s) : R26_All (rL s) = some (goodL s.1) := by
  have hn := I.n
  unfold R26_All R26_All_l0
  have key := loopO_up (body := fun z => R26_All_b0 (rL s) z.1 z.2) (fun i => (goodL (s.1.take i), (i : Int))) s.1.length (x := goodL (s.1.take s.1.length)) (fun i hi => by
    unfold R26_All_b0
    have hL : ((rL s).L.length : Int) = (s.1.length : Int) := by simp [rL]
    simp only [lt_eq, hL]
    have hl := goodL_len (s.1.take i)
    rw [List.length_take] at hl
    rw [if_pos (decide_eq_true (by omega)), ixB s hi]
    simp only [Option.bind_some]
    rw [List.take_succ_eq_append_getElem hi, goodL_snoc]
    cases hd : s.1[i].2.2 with
    | false =>
      simp only [Bool.not_false, if_true, ixL s hi, Option.bind_some, Bool.false_eq_true, if_false]
      rw [app_eq (by simp; omega), w64_nat (by omega)]
      rfl
    | true =>
      simp only [Bool.not_true, Bool.false_eq_true, if_false, if_true]
      rw [w64_nat (by omega)]) (by
    unfold R26_All_b0
    simp only [lt_eq]
    rw [if_neg (by simp [rL])])
  rw [List.take_length] at key
  have k2 : loopO (fun z => R26_All_b0 (rL s) z.1 z.2) ([], 0) = _ := key
  rw [k2]
  rfl
theorem sameAll23 {l : List api_Msg} (hl : l.length ≤ 1000000) (h : ∀ m ∈ l, m.X.Value.length ≤ 5000) : R23_SameAll l l = some true := by
  unfold R23_SameAll R23_SameAll_l0
  simp only [lt_eq, bne_self_eq_false, Bool.false_eq_true, if_false]
  have key := loopO_up (body := fun z => R23_SameAll_b0 l l z) (fun i => (i : Int)) l.length (x := .inl ()) (fun i hi => by
    unfold R23_SameAll_b0
    have hv := h _ (List.getElem_mem hi)
    simp only [lt_eq]
    rw [if_pos (decide_eq_true (by omega)), ix_nat hi]
    simp only [Option.bind_some]
    rw [rsame_eq _ _ (by omega)]
    simp only [decide_true, Option.bind_some, Bool.not_true, Bool.false_eq_true, if_false]
    rw [w64_nat (by omega)]) (by
    unfold R23_SameAll_b0
    simp only [lt_eq]
    rw [if_neg (by simp)])
  have k2 : loopO (fun z => R23_SameAll_b0 l l z) 0 = _ := key
  rw [k2]
  rfl
theorem good_val {s : Wy} (I : Iv s) : (goodL s.1).length ≤ 1000000 ∧ ∀ m ∈ goodL s.1, m.X.Value.length ≤ 5000 := by
  have := goodL_len s.1
  have hn := I.n
  refine ⟨by omega, fun m hm => ?_⟩
  unfold goodL at hm
  obtain ⟨x, hx, rfl⟩ := List.mem_map.1 hm
  exact (I.q x (List.mem_filter.1 hx).1).val
theorem zsame : R23_Same zeroM zeroM = some true := by
  rw [rsame_eq _ _ (by simp [zeroM, zeroE])]; simp
theorem do_eq26 {s : Wy} (I : Iv s) {o : L26_Op} (ho : o.L.length ≤ 40) (hv : ∀ m ∈ o.L, m.X.Value.length ≤ 5000) : ∃ t, L26_do (nL s) (rL s) o = some (rL t, true, nL t) ∧ Iv t := by
  have hn := I.n
  unfold L26_do
  simp only [lt_eq]
  by_cases h0 : o.Kind = 0
  · rw [if_pos (by simp [h0]), sendN_eq I (by omega) hv, rsend_eq I (by omega) hv]
    exact ⟨_, rfl, sends_ok _ I hv⟩
  rw [if_neg (by simpa using h0)]
  have hin : (o.I < 0 ∨ (s.1.length : Int) ≤ o.I) ∨ ∃ k : Nat, o.I = (k : Int) ∧ k < s.1.length := by
    by_cases h : o.I < 0 ∨ (s.1.length : Int) ≤ o.I
    · exact .inl h
    · exact .inr ⟨o.I.toNat, by omega, by omega⟩
  by_cases h1 : o.Kind = 1
  · rw [if_pos (by simp [h1])]
    rcases hin with h | ⟨k, hk, hkl⟩
    · obtain ⟨e, e1, e2, e3⟩ := take_out s h
      rw [rtake_out s h, e1]
      simp only [Option.bind_some, zsame, if_true, trouble_Of, e2]
      exact ⟨s, rfl, I⟩
    · have P := I.q _ (List.getElem_mem hkl)
      have hval := P.val
      obtain ⟨g1, g2⟩ := take_in I hkl
      rw [hk, rtake_in I hkl]
      cases hd : s.1[k].2.2 with
      | false =>
        rw [g1 hd]
        simp only [Bool.false_eq_true, if_false, Option.bind_some]
        rw [rsame_eq _ _ (by omega)]
        simp only [decide_true, Option.bind_some, if_true, trouble_Of, codeOf]
        exact ⟨_, rfl, erase_ok I k _⟩
      | true =>
        obtain ⟨e, e1, e2, e3⟩ := g2 hd
        rw [e1]
        simp only [if_true, Option.bind_some, zsame, trouble_Of, e2]
        exact ⟨_, rfl, erase_ok I k _⟩
  rw [if_neg (by simpa using h1)]
  by_cases h2 : o.Kind = 2
  · rw [if_pos (by simp [h2])]
    rcases hin with h | ⟨k, hk, hkl⟩
    · obtain ⟨e, e1, e2, e3⟩ := drop_out s h
      rw [rdrop_out s h, e1]
      simp only [Option.bind_some, trouble_Of, e2]
      exact ⟨s, rfl, I⟩
    · rw [hk, rdrop_in I hkl, drop_in I hkl]
      simp only [Option.bind_some, trouble_Of, codeOf]
      exact ⟨_, rfl, erase_ok I k _⟩
  rw [if_neg (by simpa using h2)]
  by_cases h3 : o.Kind = 3
  · rw [if_pos (by simp [h3])]
    rcases hin with h | ⟨k, hk, hkl⟩
    · obtain ⟨e, e1, e2, e3⟩ := twice_out s h
      rw [rtwice_out s h, e1]
      simp only [Option.bind_some, trouble_Of, e2]
      exact ⟨s, rfl, I⟩
    · rw [hk]
      by_cases hf : 200 ≤ s.1.length
      · obtain ⟨e, e1, e2, e3⟩ := twice_full s hkl hf
        rw [rtwice_full s hkl hf, e1]
        simp only [Option.bind_some, trouble_Of, e2]
        exact ⟨s, rfl, I⟩
      · rw [rtwice_in I hkl (by omega), twice_in I hkl (by omega)]
        simp only [Option.bind_some, trouble_Of, codeOf]
        refine ⟨_, rfl, fun x hx => ?_, by simp; omega⟩
        rcases List.mem_append.1 hx with hx | hx
        · exact I.q x hx
        · rw [List.mem_singleton.1 hx]; exact I.q _ (List.getElem_mem hkl)
  rw [if_neg (by simpa using h3)]
  by_cases h4 : o.Kind = 4
  · rw [if_pos (by simp [h4])]
    rcases hin with h | ⟨k, hk, hkl⟩
    · obtain ⟨e, e1, e2, e3⟩ := spoil_out s h o.At o.By
      rw [rspoil_out s h, e1]
      simp only [Option.bind_some, trouble_Of, e2]
      exact ⟨s, rfl, I⟩
    · rw [hk]
      have P := I.q _ (List.getElem_mem hkl)
      cases hd : s.1[k].2.2 with
      | true =>
        obtain ⟨e, e1, e2, e3⟩ := spoil_twice I hkl hd o.At o.By
        rw [rspoil_twice s hkl hd, e1]
        simp only [Option.bind_some, trouble_Of, e2]
        exact ⟨s, rfl, I⟩
      | false =>
        by_cases hr : o.At < 0 ∨ (s.1[k].1.b.length : Int) ≤ o.At ∨ o.By = 0#8
        · obtain ⟨e, e1, e2, e3⟩ := spoil_range I hkl hd hr
          rw [rspoil_range I hkl hd hr, e1]
          simp only [Option.bind_some, trouble_Of, e2]
          exact ⟨s, rfl, I⟩
        · have hb : o.By ≠ 0#8 := fun h => hr (.inr (.inr h))
          have ha : o.At.toNat < s.1[k].1.b.length := by omega
          have e0 : o.At = ((o.At.toNat : Nat) : Int) := by omega
          rw [e0, rspoil_in I hkl hd ha hb, spoil_in I hkl hd ha hb]
          simp only [Option.bind_some, trouble_Of, codeOf]
          exact ⟨_, rfl, set_ok I (bad1_ok P hd ha hb)⟩
  rw [if_neg (by simpa using h4)]
  rcases hin with h | ⟨k, hk, hkl⟩
  · obtain ⟨op, e1⟩ := look_out s h
    rw [rlook_out s h, e1]
    simp only [Option.bind_some, zsame, if_true, trouble_Of, codeOf]
    exact ⟨s, rfl, I⟩
  · have P := I.q _ (List.getElem_mem hkl)
    have hval := P.val
    obtain ⟨g1, g2⟩ := look_in I hkl
    rw [hk, rlook_in s hkl]
    cases hd : s.1[k].2.2 with
    | false =>
      rw [g1 hd]
      simp only [Bool.false_eq_true, if_false, Option.bind_some]
      rw [rsame_eq _ _ (by omega)]
      simp only [decide_true, Option.bind_some, if_true, trouble_Of, codeOf]
      exact ⟨s, rfl, I⟩
    | true =>
      obtain ⟨e, e1, e2, e3, _⟩ := g2 hd
      rw [e1]
      simp only [if_true, Option.bind_some, zsame, trouble_Of, e2]
      exact ⟨s, rfl, I⟩
theorem LinesDoes_pure (l : List L26_Op) (hw : wfL wf_L26_Op l) : L26_LinesDoes l = some true := by
  unfold L26_LinesDoes
  simp only [lt_eq]
  rcases light_eq26 (l := l) (fun o ho => (hw.2 o ho).2.1.1) with h | ⟨h, h1, h2, h3⟩
  · rw [h]
    simp only [Option.bind_some, Bool.not_false, if_true, works26]
  · rw [h]
    simp only [Option.bind_some, Bool.not_true, Bool.false_eq_true, if_false]
    have e0 : lines_New = some (nL ([], 0)) := rfl
    rw [e0]
    simp only [Option.bind_some]
    unfold L26_LinesDoes_l0
    have key := loopO_inv (body := fun z => L26_LinesDoes_b0 l z.1 z.2.1 z.2.2.1 z.2.2.2) (fun z => ∃ (j : Nat) (s : Wy), z = ((j : Int), (nL s).l, rL s, nL s) ∧ j ≤ l.length ∧ Iv s) (fun z => (l.length : Int).toNat - z.1.toNat) (fun y => ∃ u, y = .inl u) ?_ (s := ((0 : Int), (nL ([], 0)).l, (⟨[], [], 0⟩ : R26_Lines), nL ([], 0))) ⟨0, ([], 0), rfl, Nat.zero_le _, fun x hx => (by cases hx), by simp⟩
    · obtain ⟨y, k1, u, rfl⟩ := key
      rw [k1]
      simp only [Option.bind_some, Sum.elim_inl, works26]
    · rintro z ⟨j, s, rfl, hj, I⟩
      unfold L26_LinesDoes_b0
      simp only [lt_eq]
      by_cases hjl : j < l.length
      · left
        have hm := h3 _ (List.getElem_mem hjl)
        obtain ⟨t, d1, d2⟩ := do_eq26 I hm.1 hm.2
        have hg := good_val d2
        rw [if_pos (decide_eq_true (by omega)), ix_nat hjl]
        simp only [Option.bind_some]
        rw [show (({ nL s with l := (nL s).l } : lines_Lines)) = nL s from rfl, d1]
        simp only [Option.bind_some, Bool.not_true, Bool.false_eq_true, if_false, len_eq26, lost_eq26]
        have e1 : ((rL t).L.length : Int) = (t.1.length : Int) := by simp [rL]
        rw [e1, bne_self_eq_false, if_neg (by decide), show ((t.2 : Int) != (rL t).Lost) = false from bne_self_eq_false _, if_neg (by decide), all_eq d2, rall_eq d2]
        simp only [Option.bind_some, sameAll23 hg.1 hg.2, Bool.not_true, Bool.false_eq_true, if_false]
        rw [w64_nat (by omega)]
        exact ⟨_, rfl, ⟨j + 1, t, rfl, hjl, d2⟩, by simp only; omega⟩
      · right
        rw [if_neg (by simp; omega)]
        exact ⟨_, rfl, _, rfl⟩
end Go.Proofs.YtedcgeghgbgonaaGreatDoor
namespace Go.Proofs.YtedcgeghgbgonaaGreatDoor
open Go.ChangeShapes Go.WideShapes Go.RowKit
theorem own : ownKnob Tryz.prog.godebug = none := by kernel_rfl
theorem laidEt : Tryz.prog.globalNamed "errors.errorType" = some 0 := by kernel_rfl
theorem laidRt : (Tryz.prog.cutTypes.find? (·.1 == "internal/reflectlite.rtype")).map (·.2) = some 130 := by kernel_rfl
theorem laidRow : ((List.range 182).filter fun t => Tryz.prog.rowNamed t [101, 114, 114, 111, 114]) = [48] := by kernel_rfl
theorem laidSize : Tryz.prog.types.size = 182 := by kernel_rfl
def laidL {H : Type} : List (String × DataW H) := [("errors.errorType", Rows.laid_errors_errorType)]
theorem handle_of_laid {W : World} (h : laidMetH Tryz.prog laidL W) : W.cell? ⟨0, 0, none⟩ = some (.iface 130 (.agg #[.pointer (some ⟨1, 48, none⟩)])) := by
  have h' : laidMet Tryz.prog [] W ∧ handlesMet Tryz.prog laidL W := h
  obtain ⟨name, u, ty, e1, e2, e3, e4, e5⟩ := h'.2 _ (List.mem_singleton.2 rfl)
  have en : name = [101, 114, 114, 111, 114] := (Option.some.inj e1).symm
  subst en
  obtain rfl := Option.some.inj (laidRt.symm.trans e2)
  have hm : ty ∈ (List.range 182).filter fun t => Tryz.prog.rowNamed t [101, 114, 114, 111, 114] := List.mem_filter.2 ⟨List.mem_range.2 (by rw [← laidSize]; exact e3), e4⟩
  rw [laidRow] at hm
  obtain rfl := List.mem_singleton.1 hm
  have hh : typeHandle Tryz.prog 48 = .pointer (some ⟨1, 48, none⟩) := by kernel_rfl
  rw [hh] at e5
  simpa using World.var?_cell laidEt e5 0
noncomputable def laidWorld (os : Os) : World :=
  let w0 := World.holding Tryz.prog os ⟨#[], #[], []⟩
  { w0 with heap := w0.heap.modify 0 fun
      | .cells _ t frozen => .cells #[.iface 130 (.agg #[.pointer (some ⟨1, 48, none⟩)])] t frozen
      | o => o }
theorem laidWorld_met (os : Os) (args : Array Value) : laidMetH Tryz.prog laidL ((laidWorld os).forCall (fun _ _ => 0) ⟨#[], args, []⟩).memory :=
  laidMetH_of_parts (laidMet_nil _ _) (by kernel_rfl)
theorem gls_met {W : World} (h : laidMetH Tryz.prog laidL W) : ∀ p ∈ gls, W.cell? p.1 = some p.2 := by
  intro p hp
  obtain rfl := List.mem_singleton.1 hp
  exact handle_of_laid h
theorem laidOut : laidOutB Tryz.prog = true := by kernel_rfl
end Go.Proofs.YtedcgeghgbgonaaGreatDoor
