/- SPOILT MESSAGES ARE TOLD: of a message's bytes, some bits of which within 32 side by side were turned, no message is read. (part 6 of 7) -/
import Derived.Test.YthkfilchighbhaaDoorKWireTurned5
import Derived.ChangeSame
import Derived.ChangeVars
import Derived.JoinedOf
import Derived.LaidHandle
import Derived.LaidLaws
import Derived.RowKit
import Derived.RowKitTokens
import Derived.Stop.Joined
import Derived.Test.YthkfilchighbhaaDoorRows
namespace Go.Proofs.YthkfilchighbhaaDoor
open Go Go.Va
set_option linter.unusedVariables false
set_option linter.unusedSimpArgs false
theorem drop_cons {b l : List (BitVec 8)} {c : BitVec 8} {pos : Nat} (h : b.drop pos = c :: l) : ∃ hp : pos < b.length, b[pos] = c ∧ b.drop (pos + 1) = l := by
  have hp : pos < b.length := by
    rcases Nat.lt_or_ge pos b.length with h1 | h1
    · exact h1
    · rw [List.drop_of_length_le h1] at h; cases h
  rw [List.drop_eq_getElem_cons hp] at h
  simp only [List.cons.injEq] at h
  exact ⟨hp, h.1, h.2⟩
theorem fail_eq (b : List (BitVec 8)) (a e : Int) : octets_Reader_Fail ⟨b, a, 0⟩ e = some ⟨b, a, e⟩ := rfl
theorem rfail_eq (b : List (BitVec 8)) (a e : Int) : butteryref02_fail ⟨b, a, 0⟩ e = some ⟨b, a, e⟩ := rfl
def oOut (b : List (BitVec 8)) (a pos : Nat) : Int ⊕ (Nat × Nat) → octets_Reader ⊕ (Int × octets_Reader)
  | .inl e => .inl ⟨b, a, e⟩
  | .inr (m, k) => .inr ((m : Int), ⟨b, ((pos + k : Nat) : Int), 0⟩)
theorem oOut_go (b : List (BitVec 8)) (a pos : Nat) (r : Int ⊕ (Nat × Nat)) : oOut b a pos (up7 r) = oOut b a (pos + 1) r := by
  cases r with
  | inl e => rfl
  | inr p => simp only [up7, oOut]; rw [show pos + (p.2 + 1) = pos + 1 + p.2 by omega]
theorem rd7_err {most : Nat} : ∀ {l : List (BitVec 8)} {f : Bool} {n : Nat} {e : Int}, rd7 most l f n = .inl e → e = 2 ∨ e = 5 ∨ e = 6
  | [], f, n, e, h => by simp [rd7] at h; omega
  | c :: l, f, n, e, h => by
    simp only [rd7] at h
    split at h
    · cases h; simp
    · split at h
      · cases h; simp
      · split at h
        · cases hr : rd7 most l false (n * 128 + c.toNat % 128) with
          | inl e' => rw [hr] at h; cases h; exact rd7_err hr
          | inr p => rw [hr] at h; cases h
        · split at h
          · cases h; simp
          · cases h
theorem octNum_stop (most : Int) (b : List (BitVec 8)) (n pos a e : Int) (he : e ≠ 0) : octets_Reader_Number_l0 most (n, pos, ⟨b, a, e⟩) = some (.inl ⟨b, a, e⟩) :=
  loopO_out (by simp [octets_Reader_Number_b0, lt_eq, he])
theorem le_byte (c : BitVec 8) : (128#8 ≤ c) ↔ 128 ≤ c.toNat := by rw [BitVec.le_def]; rfl
theorem octNum_l {b : List (BitVec 8)} {most a : Nat} (hb : b.length ≤ 1000000) (hm : most < 9223372036854775808) : ∀ (l : List (BitVec 8)) (pos n : Nat) (f : Bool), b.drop pos = l → pos ≤ b.length → (f = true → n = 0 ∧ pos = a) → (f = false → a < pos) → n < 9223372036854775808 →
    octets_Reader_Number_l0 (most : Int) ((n : Int), (pos : Int), ⟨b, (a : Int), 0⟩) = some (oOut b a pos (rd7 most l f n))
  | [], pos, n, f, hl, hp, _, _, _ => by
    have hlen : pos = b.length := by
      have := congrArg List.length hl
      simp at this; omega
    refine loopO_out ?_
    simp only [octets_Reader_Number_b0, lt_eq]
    rw [if_pos (by rfl), if_pos (decide_eq_true (by omega)), fail_eq]
    rfl
  | c :: l, pos, n, f, hl, hp, hf, hg, hn => by
    obtain ⟨hlt, hc, hd⟩ := drop_cons hl
    have e0 : w64 ((pos : Int) + 1) = ((pos + 1 : Nat) : Int) := w64_nat (by omega)
    have e1 : w64 ((a : Int) + 1) = ((a + 1 : Nat) : Int) := by
      have : a ≤ pos := by cases f with | true => have := (hf rfl).2; omega | false => have := hg rfl; omega
      exact w64_nat (by omega)
    have e2 : shr64 (most : Int) 7 = ((most / 128 : Nat) : Int) := by rw [shr64_nat (by omega)]
    have hcl := c.isLt
    have hcond : (if (c == 128#8) = true then (if ((n : Int) == 0) = true then some (((pos + 1 : Nat) : Int) == ((a + 1 : Nat) : Int)) else some false) else some false) = some (decide (c = 128#8 ∧ f = true)) := by
      by_cases h1 : c = 128#8
      · rw [if_pos (by simp [h1])]
        cases f with
        | true =>
          obtain ⟨rfl, rfl⟩ := hf rfl
          simp [h1]
        | false =>
          have := hg rfl
          split
          · have : (((pos + 1 : Nat) : Int) == ((a + 1 : Nat) : Int)) = false := by simp; omega
            rw [this]; simp
          · simp
      · rw [if_neg (by simpa using h1)]; simp [h1]
    have hb0 : octets_Reader_Number_b0 (most : Int) (n : Int) (pos : Int) ⟨b, (a : Int), 0⟩ =
        if c = 128#8 ∧ f = true then some (.inl ((n : Int), ((pos + 1 : Nat) : Int), ⟨b, (a : Int), 5⟩)) else if most / 128 < n then some (.inl ((n : Int), ((pos + 1 : Nat) : Int), ⟨b, (a : Int), 2⟩)) else
        if 128 ≤ c.toNat then some (.inl (((n * 128 + c.toNat % 128 : Nat) : Int), ((pos + 1 : Nat) : Int), ⟨b, (a : Int), 0⟩)) else
        if most < n * 128 + c.toNat then some (.inl (((n * 128 + c.toNat : Nat) : Int), ((pos + 1 : Nat) : Int), ⟨b, (a : Int), 2⟩)) else some (.inr (.inr (((n * 128 + c.toNat : Nat) : Int), ⟨b, ((pos + 1 : Nat) : Int), 0⟩))) := by
      simp only [octets_Reader_Number_b0, lt_eq]
      rw [if_pos (by rfl), if_neg (by rw [decide_eq_false (by omega)]; simp), ix_nat hlt, hc]
      simp only [Option.bind_some, e0, e1, e2]
      rw [hcond]
      simp only [Option.bind_some, decide_eq_true_eq]
      by_cases h1 : c = 128#8 ∧ f = true
      · rw [if_pos h1, if_pos h1, fail_eq]; rfl
      · rw [if_neg h1, if_neg h1]
        by_cases h2 : most / 128 < n
        · rw [if_pos (by omega), if_pos h2, fail_eq]; rfl
        · rw [if_neg (by omega), if_neg h2]
          by_cases h3 : 128 ≤ c.toNat
          · rw [if_pos ((le_byte c).2 h3), if_pos h3, byte_and, or64_7 (by omega) (by omega)]
          · rw [if_neg (fun h => h3 ((le_byte c).1 h)), if_neg h3, or64_7 (by omega) (by omega)]
            by_cases h4 : most < n * 128 + c.toNat
            · rw [if_pos (by omega), if_pos h4, fail_eq]; rfl
            · rw [if_neg (by omega), if_neg h4]
    have step : ∀ (s' : Int × Int × octets_Reader), octets_Reader_Number_b0 (most : Int) (n : Int) (pos : Int) ⟨b, (a : Int), 0⟩ = some (.inl s') → octets_Reader_Number_l0 (most : Int) ((n : Int), (pos : Int), ⟨b, (a : Int), 0⟩) = octets_Reader_Number_l0 (most : Int) s' := fun s' h => loopO_in (body := fun s => octets_Reader_Number_b0 (most : Int) s.1 s.2.1 s.2.2) h
    simp only [rd7]
    by_cases h1 : c = 128#8 ∧ f = true
    · rw [if_pos h1] at hb0 ⊢
      rw [step _ hb0, octNum_stop _ _ _ _ _ _ (by decide)]; rfl
    · rw [if_neg h1] at hb0 ⊢
      by_cases h2 : most / 128 < n
      · rw [if_pos h2] at hb0 ⊢
        rw [step _ hb0, octNum_stop _ _ _ _ _ _ (by decide)]; rfl
      · rw [if_neg h2] at hb0 ⊢
        by_cases h3 : 128 ≤ c.toNat
        · rw [if_pos h3] at hb0 ⊢
          rw [step _ hb0, octNum_l hb hm l (pos + 1) (n * 128 + c.toNat % 128) false hd (by omega) (by simp) (fun _ => by cases f with | true => have := (hf rfl).2; omega | false => have := hg rfl; omega) (by omega), oOut_go]
        · rw [if_neg h3] at hb0 ⊢
          by_cases h4 : most < n * 128 + c.toNat
          · rw [if_pos h4] at hb0 ⊢
            rw [step _ hb0, octNum_stop _ _ _ _ _ _ (by decide)]; rfl
          · rw [if_neg h4] at hb0 ⊢
            exact loopO_out (body := fun s => octets_Reader_Number_b0 (most : Int) s.1 s.2.1 s.2.2) hb0
def rOut (b : List (BitVec 8)) (a pos : Nat) : Int ⊕ (Nat × Nat) → Unit ⊕ (butteryref02_Reader × Int)
  | .inl e => if e = 6 then .inl () else .inr (⟨b, a, e⟩, 0)
  | .inr (m, k) => .inr (⟨b, ((pos + k : Nat) : Int), 0⟩, (m : Int))
theorem rOut_go (b : List (BitVec 8)) (a pos : Nat) (r : Int ⊕ (Nat × Nat)) : rOut b a pos (up7 r) = rOut b a (pos + 1) r := by
  cases r with
  | inl e => rfl
  | inr p => simp only [up7, rOut]; rw [show pos + (p.2 + 1) = pos + 1 + p.2 by omega]
theorem refNum_l {b : List (BitVec 8)} {most a : Nat} (hb : b.length ≤ 1000000) (hm : most < 9223372036854775808) : ∀ (l : List (BitVec 8)) (pos n : Nat) (f : Bool), b.drop pos = l → pos ≤ b.length → (f = true → n = 0 ∧ pos = a) → (f = false → a < pos) → n < 9223372036854775808 →
    butteryref02_Number_l0 ⟨b, (a : Int), 0⟩ (most : Int) ((n : Int), (pos : Int)) = some (rOut b a pos (rd7 most l f n))
  | [], pos, n, f, hl, hp, _, _, _ => by
    have hlen : pos = b.length := by
      have := congrArg List.length hl
      simp at this; omega
    refine loopO_out ?_
    simp only [butteryref02_Number_b0, lt_eq]
    rw [if_neg (by rw [decide_eq_false (by omega)]; simp)]
    rfl
  | c :: l, pos, n, f, hl, hp, hf, hg, hn => by
    obtain ⟨hlt, hc, hd⟩ := drop_cons hl
    have e0 : w64 ((pos : Int) + 1) = ((pos + 1 : Nat) : Int) := w64_nat (by omega)
    have e2 : quo64 (most : Int) 128 = ((most / 128 : Nat) : Int) := quo64_nat hm
    have e3 : Int.tmod (c.toNat : Int) 128 = ((c.toNat % 128 : Nat) : Int) := tmod_nat _ 128
    have hcl := c.isLt
    have e4 : ((c.toNat : Int) == 128) = decide (c = 128#8) := by
      rw [Bool.eq_iff_iff]; simp only [beq_iff_eq, decide_eq_true_eq]
      constructor
      · intro h; apply BitVec.eq_of_toNat_eq; show _ = 128; omega
      · rintro rfl; rfl
    have hcond : (if decide (c = 128#8) = true then some ((pos : Int) == (a : Int)) else some false) = some (decide (c = 128#8 ∧ f = true)) := by
      by_cases h1 : c = 128#8
      · rw [if_pos (by simp [h1])]
        cases f with
        | true =>
          obtain ⟨rfl, rfl⟩ := hf rfl
          simp [h1]
        | false =>
          have := hg rfl
          have : ((pos : Int) == (a : Int)) = false := by simp; omega
          rw [this]; simp
      · rw [if_neg (by simpa using h1)]; simp [h1]
    have hb0 : butteryref02_Number_b0 ⟨b, (a : Int), 0⟩ (most : Int) (n : Int) (pos : Int) =
        if c = 128#8 ∧ f = true then some (.inr (.inr (⟨b, (a : Int), 5⟩, 0))) else if most / 128 < n then some (.inr (.inr (⟨b, (a : Int), 2⟩, 0))) else
        if 128 ≤ c.toNat then some (.inl (((n * 128 + c.toNat % 128 : Nat) : Int), ((pos + 1 : Nat) : Int))) else
        if most < n * 128 + c.toNat then some (.inr (.inr (⟨b, (a : Int), 2⟩, 0))) else some (.inr (.inr (⟨b, ((pos + 1 : Nat) : Int), 0⟩, ((n * 128 + c.toNat : Nat) : Int)))) := by
      simp only [butteryref02_Number_b0, lt_eq]
      rw [if_pos (decide_eq_true (by omega)), ix_nat hlt, hc]
      simp only [Option.bind_some, e0, e2, e3, e4]
      rw [hcond]
      simp only [Option.bind_some, decide_eq_true_eq]
      by_cases h1 : c = 128#8 ∧ f = true
      · rw [if_pos h1, if_pos h1, rfail_eq]; rfl
      · rw [if_neg h1, if_neg h1]
        by_cases h2 : most / 128 < n
        · rw [if_pos (by omega), if_pos h2, rfail_eq]; rfl
        · rw [if_neg (by omega), if_neg h2, w64_eq (n := (n : Int) * 128) (by omega) (by omega), w64_eq (by omega) (by omega)]
          by_cases h3 : 128 ≤ c.toNat
          · rw [if_pos (by omega), if_pos h3]
            rw [show ((n : Int) * 128 + ((c.toNat % 128 : Nat) : Int)) = ((n * 128 + c.toNat % 128 : Nat) : Int) by omega]
          · rw [if_neg (by omega), if_neg h3]
            rw [show ((n : Int) * 128 + ((c.toNat % 128 : Nat) : Int)) = ((n * 128 + c.toNat : Nat) : Int) by omega]
            by_cases h4 : most < n * 128 + c.toNat
            · rw [if_pos (by omega), if_pos h4, rfail_eq]; rfl
            · rw [if_neg (by omega), if_neg h4]
    have hout : ∀ x, butteryref02_Number_b0 ⟨b, (a : Int), 0⟩ (most : Int) (n : Int) (pos : Int) = some (.inr x) → butteryref02_Number_l0 ⟨b, (a : Int), 0⟩ (most : Int) ((n : Int), (pos : Int)) = some x := fun x h => loopO_out (body := fun s => butteryref02_Number_b0 ⟨b, (a : Int), 0⟩ (most : Int) s.1 s.2) h
    have step : ∀ (s' : Int × Int), butteryref02_Number_b0 ⟨b, (a : Int), 0⟩ (most : Int) (n : Int) (pos : Int) = some (.inl s') → butteryref02_Number_l0 ⟨b, (a : Int), 0⟩ (most : Int) ((n : Int), (pos : Int)) = butteryref02_Number_l0 ⟨b, (a : Int), 0⟩ (most : Int) s' := fun s' h => loopO_in (body := fun s => butteryref02_Number_b0 ⟨b, (a : Int), 0⟩ (most : Int) s.1 s.2) h
    simp only [rd7]
    by_cases h1 : c = 128#8 ∧ f = true
    · rw [if_pos h1] at hb0 ⊢
      exact hout _ hb0
    · rw [if_neg h1] at hb0 ⊢
      by_cases h2 : most / 128 < n
      · rw [if_pos h2] at hb0 ⊢
        exact hout _ hb0
      · rw [if_neg h2] at hb0 ⊢
        by_cases h3 : 128 ≤ c.toNat
        · rw [if_pos h3] at hb0 ⊢
          rw [step _ hb0, refNum_l hb hm l (pos + 1) (n * 128 + c.toNat % 128) false hd (by omega) (by simp) (fun _ => by cases f with | true => have := (hf rfl).2; omega | false => have := hg rfl; omega) (by omega), rOut_go]
        · rw [if_neg h3] at hb0 ⊢
          by_cases h4 : most < n * 128 + c.toNat
          · rw [if_pos h4] at hb0 ⊢
            exact hout _ hb0
          · rw [if_neg h4] at hb0 ⊢
            exact hout _ hb0
/-- What is read, and where the reader stands then. -/
def rdN (b : List (BitVec 8)) (a most : Nat) : Nat × Nat × Int := match rd7 most (b.drop a) true 0 with
  | .inl e => (0, a, e)
  | .inr (m, k) => (m, a + k, 0)
theorem octNum_eq {b : List (BitVec 8)} {a most : Nat} (hb : b.length ≤ 1000000) (ha : a ≤ b.length) (hm : most < 9223372036854775808) : octets_Reader_Number ⟨b, a, 0⟩ most = some (((rdN b a most).1 : Int), ⟨b, ((rdN b a most).2.1 : Int), (rdN b a most).2.2⟩) := by
  simp only [octets_Reader_Number]
  have := octNum_l hb hm (b.drop a) a 0 true rfl ha (fun _ => ⟨rfl, rfl⟩) (fun h => by cases h) (by omega)
  rw [show ((0 : Nat) : Int) = 0 from rfl] at this
  rw [this]
  unfold rdN
  cases rd7 most (b.drop a) true 0 with
  | inl e => rfl
  | inr p => rfl
theorem refNum_eq {b : List (BitVec 8)} {a most : Nat} (hb : b.length ≤ 1000000) (ha : a ≤ b.length) (hm : most < 9223372036854775808) : butteryref02_Number ⟨b, a, 0⟩ most = some (⟨b, ((rdN b a most).2.1 : Int), (rdN b a most).2.2⟩, ((rdN b a most).1 : Int)) := by
  simp only [butteryref02_Number, lt_eq]
  rw [if_neg (by simp)]
  have := refNum_l hb hm (b.drop a) a 0 true rfl ha (fun _ => ⟨rfl, rfl⟩) (fun h => by cases h) (by omega)
  rw [show ((0 : Nat) : Int) = 0 from rfl] at this
  rw [this]
  unfold rdN
  cases h : rd7 most (b.drop a) true 0 with
  | inl e =>
    rcases rd7_err h with rfl | rfl | rfl <;> rfl
  | inr p => rfl
theorem rdN_le {b : List (BitVec 8)} {a most : Nat} (ha : a ≤ b.length) : (rdN b a most).2.1 ≤ b.length ∧ a ≤ (rdN b a most).2.1 ∧ (rdN b a most).1 ≤ most ∧ ((rdN b a most).2.2 ≠ 0 → (rdN b a most).1 = 0 ∧ (rdN b a most).2.1 = a) := by
  unfold rdN
  cases h : rd7 most (b.drop a) true 0 with
  | inl e => exact ⟨ha, Nat.le_refl _, Nat.zero_le _, fun _ => ⟨rfl, rfl⟩⟩
  | inr p =>
    have := rd7_le h
    simp only [List.length_drop] at this
    exact ⟨by simp only; omega, by simp only; omega, this.1, fun h => absurd rfl h⟩
theorem rdN_off {b : List (BitVec 8)} {a : Int} {most e : Int} (he : e ≠ 0) : octets_Reader_Number ⟨b, a, e⟩ most = some (0, ⟨b, a, e⟩) := by
  simp only [octets_Reader_Number, octNum_stop _ _ _ _ _ _ he]; rfl
theorem refN_off {b : List (BitVec 8)} {a : Int} {most e : Int} (he : e ≠ 0) : butteryref02_Number ⟨b, a, e⟩ most = some (⟨b, a, e⟩, 0) := by
  simp [butteryref02_Number, lt_eq, he]
theorem left_eq {b : List (BitVec 8)} {a : Nat} {e : Int} (hb : b.length ≤ 1000000) (ha : a ≤ b.length) : octets_Reader_Left ⟨b, a, e⟩ = some ((b.length - a : Nat) : Int) := by
  simp only [octets_Reader_Left, lt_eq]
  rw [w64_eq (by omega) (by omega)]
  congr 1; omega
end Go.Proofs.YthkfilchighbhaaDoor
namespace Go.Proofs.YthkfilchighbhaaDoor
open Go Go.Va
set_option linter.unusedVariables false
set_option linter.unusedSimpArgs false
def stp (a : BitVec 64) (c : BitVec 8) : BitVec 64 := a <<< 8 ||| c.setWidth 64
def word (l : List (BitVec 8)) : BitVec 64 := l.foldl stp 0#64
theorem stp_add (a : BitVec 64) (c : BitVec 8) : a * 256#64 + c.setWidth 64 = stp a c := by
  have h1 : a * 256#64 = a <<< 8 := by
    apply BitVec.eq_of_toNat_eq
    simp [Nat.shiftLeft_eq]
  have h2 : a <<< 8 &&& c.setWidth 64 = 0#64 := by
    apply BitVec.eq_of_getLsbD_eq
    intro i hi
    simp only [BitVec.getLsbD_and, BitVec.getLsbD_shiftLeft, BitVec.getLsbD_setWidth, BitVec.getLsbD_zero]
    by_cases h : i < 8
    · simp [h]
    · rw [BitVec.getLsbD_of_ge c i (by omega)]; simp
  rw [h1, BitVec.add_eq_or_of_and_eq_zero _ _ h2]; rfl
theorem word_wd (n : BitVec 64) : ∀ i, i ≤ 8 → word (wd n i) = n >>> (64 - 8 * i)
  | 0, _ => by
    apply BitVec.eq_of_getLsbD_eq
    intro j hj
    rw [BitVec.getLsbD_ushiftRight, BitVec.getLsbD_of_ge n _ (by omega)]; simp [word, wd]
  | i + 1, h => by
    rw [wd_succ, word, List.foldl_append]
    have ih := word_wd n i (by omega)
    rw [word] at ih
    rw [ih]
    simp only [List.foldl_cons, List.foldl_nil, stp]
    apply BitVec.eq_of_getLsbD_eq
    intro j hj
    simp only [BitVec.getLsbD_or, BitVec.getLsbD_shiftLeft, BitVec.getLsbD_ushiftRight, BitVec.getLsbD_setWidth]
    by_cases h8 : j < 8
    · simp [h8, hj, show 64 - 8 * (i + 1) = 56 - 8 * i by omega]
    · simp only [h8, hj, decide_true, decide_false, Bool.not_false, Bool.and_true, Bool.true_and, Bool.false_and, Bool.and_false, Bool.or_false]
      congr 1; omega
theorem word_full (n : BitVec 64) : word (wd n 8) = n := by
  rw [word_wd n 8 (by omega)]; simp
/-- Eight bytes. -/
def cut8 (b : List (BitVec 8)) (a : Nat) : List (BitVec 8) := (b.take (a + 8)).drop a
theorem cut8_len {b : List (BitVec 8)} {a : Nat} (h : a + 8 ≤ b.length) : (cut8 b a).length = 8 := by simp [cut8]; omega
/-- What bytes are read: they, where the reader stands then, what is wrong. -/
def rdB (b : List (BitVec 8)) (a most : Nat) : List (BitVec 8) × Nat × Int :=
  if (rdN b a most).2.2 ≠ 0 then ([], (rdN b a most).2.1, (rdN b a most).2.2) else
  if b.length < (rdN b a most).2.1 + (rdN b a most).1 then ([], a, 6) else ((b.take ((rdN b a most).2.1 + (rdN b a most).1)).drop (rdN b a most).2.1, (rdN b a most).2.1 + (rdN b a most).1, 0)
theorem octBytesR_eq {b : List (BitVec 8)} {a most : Nat} (hb : b.length ≤ 1000000) (ha : a ≤ b.length) (hm : most < 9223372036854775808) : octets_Reader_Bytes ⟨b, a, 0⟩ most = some ((rdB b a most).1, ⟨b, ((rdB b a most).2.1 : Int), (rdB b a most).2.2⟩) := by
  simp only [octets_Reader_Bytes, octNum_eq hb ha hm, Option.bind_some, lt_eq]
  obtain ⟨h1, h2, h3, h4⟩ := rdN_le (most := most) ha
  unfold rdB
  generalize rdN b a most = z at *
  obtain ⟨n, p, e⟩ := z
  simp only at *
  by_cases he : e = 0
  · subst he
    rw [if_neg (by simp), if_neg (by simp), left_eq hb h1]
    simp only [Option.bind_some]
    by_cases hc : b.length < p + n
    · rw [if_pos hc, if_pos (decide_eq_true (by omega)), fail_eq]; rfl
    · rw [if_neg hc, if_neg (by rw [decide_eq_false (by omega)]; simp), w64_eq (by omega) (by omega), show (p : Int) + (n : Int) = ((p + n : Nat) : Int) by omega, cutO_eq (by omega) (by omega)]
      simp only [Option.bind_some]
      rw [app_eq (by simp; omega)]; rfl
  · rw [if_pos (by simpa using he), if_pos he]
theorem octBytesR_off {b : List (BitVec 8)} {a e most : Int} (he : e ≠ 0) : octets_Reader_Bytes ⟨b, a, e⟩ most = some ([], ⟨b, a, e⟩) := by
  simp [octets_Reader_Bytes, rdN_off he, lt_eq, he]
theorem text_eq {b : List (BitVec 8)} {a most : Nat} (hb : b.length ≤ 1000000) (ha : a ≤ b.length) (hm : most < 9223372036854775808) : butteryref02_Text ⟨b, a, 0⟩ most = some (⟨b, ((rdB b a most).2.1 : Int), (rdB b a most).2.2⟩, (rdB b a most).1) := by
  simp only [butteryref02_Text, refNum_eq hb ha hm, Option.bind_some, lt_eq]
  obtain ⟨h1, h2, h3, h4⟩ := rdN_le (most := most) ha
  unfold rdB
  generalize rdN b a most = z at *
  obtain ⟨n, p, e⟩ := z
  simp only at *
  by_cases he : e = 0
  · subst he
    rw [if_neg (show ¬ (((0 : Int) != 0) = true) by simp), if_neg (show ¬ ((0 : Int) ≠ 0) by simp), w64_eq (n := (b.length : Int) - (p : Int)) (by omega) (by omega)]
    by_cases hc : b.length < p + n
    · rw [if_pos hc, if_pos (decide_eq_true (by omega)), rfail_eq]; rfl
    · rw [if_neg hc, if_neg (by rw [decide_eq_false (by omega)]; simp), w64_eq (by omega) (by omega), show (p : Int) + (n : Int) = ((p + n : Nat) : Int) by omega, cutO_eq (by omega) (by omega)]
      simp only [Option.bind_some]
      rw [app_eq (by simp; omega)]; rfl
  · rw [if_pos (by simpa using he), if_pos he]
theorem text_off {b : List (BitVec 8)} {a e most : Int} (he : e ≠ 0) : butteryref02_Text ⟨b, a, e⟩ most = some (⟨b, a, e⟩, []) := by
  simp [butteryref02_Text, refN_off he, lt_eq, he]
theorem rdB_le {b : List (BitVec 8)} {a most : Nat} (ha : a ≤ b.length) : (rdB b a most).2.1 ≤ b.length ∧ a ≤ (rdB b a most).2.1 ∧ (rdB b a most).1.length ≤ b.length := by
  obtain ⟨h1, h2, h3, h4⟩ := rdN_le (most := most) ha
  unfold rdB
  generalize rdN b a most = z at *
  obtain ⟨n, p, e⟩ := z
  simp only at *
  split
  · exact ⟨h1, h2, by simp⟩
  · split
    · exact ⟨ha, Nat.le_refl _, by simp⟩
    · exact ⟨by simp only; omega, by simp only; omega, by simp; omega⟩
theorem end_eq {b : List (BitVec 8)} {a : Nat} {e : Int} (hb : b.length ≤ 1000000) (ha : a ≤ b.length) : octets_Reader_End ⟨b, a, e⟩ = some (if e = 0 ∧ a < b.length then 5 else e, ⟨b, a, if e = 0 ∧ a < b.length then 5 else e⟩) := by
  simp only [octets_Reader_End, left_eq hb ha, Option.bind_some, lt_eq]
  by_cases h : a < b.length
  · rw [if_pos (decide_eq_true (by omega))]
    by_cases he : e = 0
    · subst he; rw [fail_eq]; simp [h]
    · simp [octets_Reader_Fail, lt_eq, he]
  · rw [if_neg (by rw [decide_eq_false (by omega)]; simp)]; simp [h]
theorem rend_eq {b : List (BitVec 8)} {a : Nat} {e : Int} : butteryref02_End ⟨b, a, e⟩ = some (if e = 0 ∧ a < b.length then 5 else e) := by
  simp only [butteryref02_End, lt_eq]
  by_cases he : e = 0
  · subst he
    rw [if_pos (by rfl)]
    by_cases h : a < b.length
    · simp [h]
    · simp [h]
  · simp [he]
theorem read_eq {b : List (BitVec 8)} (hb : b.length ≤ 1000000) : octets_Read b = some ⟨b, 0, 0⟩ := by
  simp only [octets_Read, lt_eq]
  rw [app_eq (by simp; omega)]; rfl
end Go.Proofs.YthkfilchighbhaaDoor
namespace Go.Proofs.YthkfilchighbhaaDoor
open Go Go.Va
set_option linter.unusedVariables false
set_option linter.unusedSimpArgs false
def upN (k : Nat) : Int ⊕ (Nat × Nat) → Int ⊕ (Nat × Nat)
  | .inl e => .inl e
  | .inr (m, j) => .inr (m, k + j)
theorem upN_up (k : Nat) (r : Int ⊕ (Nat × Nat)) : upN k (up7 r) = upN (k + 1) r := by
  cases r with
  | inl e => rfl
  | inr p => simp only [up7, upN]; rw [show k + (p.2 + 1) = k + 1 + p.2 by omega]
theorem rd7_pre {most : Nat} : ∀ (k q : Nat), q < 128 ^ k → q ≤ most / 128 → ∀ l, rd7 most (pre q ++ l) true 0 = upN (pre q).length (rd7 most l (decide (q = 0)) q)
  | 0, q, h, hq, l => by
    have : q = 0 := by simpa using h
    subst this
    rw [pre_zero]
    simp only [List.nil_append, List.length_nil, decide_true]
    cases rd7 most l true 0 with
    | inl e => rfl
    | inr p => simp [upN]
  | k + 1, q, h, hq, l => by
    by_cases h0 : q = 0
    · subst h0
      rw [pre_zero]
      simp only [List.nil_append, List.length_nil, decide_true]
      cases rd7 most l true 0 with
      | inl e => rfl
      | inr p => simp [upN]
    · rw [pre_pos (by omega), List.append_assoc, rd7_pre k (q / 128) (by rw [Nat.div_lt_iff_lt_mul (by decide)]; rw [Nat.pow_succ] at h; exact h) (by omega)]
      have hc : (BitVec.ofNat 8 (q % 128 + 128)).toNat = q % 128 + 128 := by simp; omega
      simp only [List.singleton_append, rd7]
      rw [if_neg (by
        rintro ⟨h1, h2⟩
        have h1 := congrArg BitVec.toNat h1
        rw [hc] at h1
        have h1 : q % 128 + 128 = 128 := h1
        have h2 : q / 128 = 0 := by simpa using h2
        omega), if_neg (by omega), if_pos (by omega), hc, upN_up]
      rw [show q / 128 * 128 + (q % 128 + 128) % 128 = q by omega, decide_eq_false h0]
      simp
theorem rd7_num {most m : Nat} (hm : m ≤ most) (hm2 : m < 9223372036854775808) (l : List (BitVec 8)) : rd7 most (num7 m ++ l) true 0 = .inr (m, (num7 m).length) := by
  rw [num7, List.append_assoc, rd7_pre 9 (m / 128) (by omega) (by omega)]
  have hc : (BitVec.ofNat 8 (m % 128)).toNat = m % 128 := by simp; omega
  simp only [List.singleton_append, rd7]
  rw [if_neg (by
    rintro ⟨h1, h2⟩
    have h1 := congrArg BitVec.toNat h1
    rw [hc] at h1
    have h1 : m % 128 = 128 := h1
    omega), if_neg (by omega), if_neg (by omega), if_neg (by omega), hc, show m / 128 * 128 + m % 128 = m by omega]
  simp [upN]
theorem rdN_num {b l : List (BitVec 8)} {a most m : Nat} (h : b.drop a = num7 m ++ l) (hm : m ≤ most) (hm2 : m < 9223372036854775808) : rdN b a most = (m, a + (num7 m).length, 0) := by
  rw [rdN, h, rd7_num hm hm2]
/-- Bytes that are read as a number, all but the first ones: they are its last bytes. -/
theorem rd7_one {most : Nat} (hm : most < 9223372036854775808) : ∀ {l : List (BitVec 8)} {f : Bool} {n m k : Nat}, (f = true → n = 0) → (f = false → 0 < n) → rd7 most l f n = .inr (m, k) → num7 m = pre n ++ l.take k
  | [], f, n, m, k, _, _, h => by simp [rd7] at h
  | c :: l, f, n, m, k, hf, hg, h => by
    have hc := c.isLt
    simp only [rd7] at h
    split at h
    · cases h
    · rename_i h1
      split at h
      · cases h
      · split at h
        · rename_i h3
          cases hr : rd7 most l false (n * 128 + c.toNat % 128) with
          | inl e => rw [hr] at h; cases h
          | inr p =>
            obtain ⟨m', k'⟩ := p
            rw [hr] at h
            simp only [up7, Sum.inr.injEq, Prod.mk.injEq] at h
            obtain ⟨rfl, rfl⟩ := h
            have hpos : 0 < n * 128 + c.toNat % 128 := by
              cases f with
              | true =>
                have : c ≠ 128#8 := fun e => h1 ⟨e, rfl⟩
                have : c.toNat ≠ 128 := fun e => this (BitVec.eq_of_toNat_eq e)
                omega
              | false => have := hg rfl; omega
            have ih := rd7_one hm (f := false) (fun e => by cases e) (fun _ => hpos) hr
            rw [ih, pre_pos hpos]
            rw [show (n * 128 + c.toNat % 128) / 128 = n by omega, show (n * 128 + c.toNat % 128) % 128 + 128 = c.toNat by omega]
            simp
        · rename_i h3
          split at h
          · cases h
          · simp only [Sum.inr.injEq, Prod.mk.injEq] at h
            obtain ⟨rfl, rfl⟩ := h
            rw [num7, show (n * 128 + c.toNat) / 128 = n by omega, show (n * 128 + c.toNat) % 128 = c.toNat by omega]
            simp
/-- What a reader is, and the program's reader beside it. -/
structure rdr where
  a : Nat
  e : Int
def rdr.x (r : rdr) (b : List (BitVec 8)) : butteryref02_Reader := ⟨b, r.a, r.e⟩
def rdr.o (r : rdr) (b : List (BitVec 8)) : octets_Reader := ⟨b, r.a, r.e⟩
theorem num_both {b : List (BitVec 8)} (hb : b.length ≤ 1000000) (r : rdr) (hr : r.a ≤ b.length) {m : Int} (h0 : 0 ≤ m) (h1 : m ≤ 9223372036854775807) : ∃ (s : rdr) (n : Int), s.a ≤ b.length ∧ butteryref02_Number (r.x b) m = some (s.x b, n) ∧ octets_Reader_Number (r.o b) m = some (n, s.o b) := by
  obtain ⟨m, rfl⟩ : ∃ n : Nat, m = (n : Int) := ⟨m.toNat, by omega⟩
  obtain ⟨a, e⟩ := r
  by_cases he : e = 0
  · subst he
    exact ⟨⟨(rdN b a m).2.1, (rdN b a m).2.2⟩, _, (rdN_le hr).1, refNum_eq hb hr (by omega), octNum_eq hb hr (by omega)⟩
  · exact ⟨⟨a, e⟩, 0, hr, refN_off he, rdN_off he⟩
theorem text_both {b : List (BitVec 8)} (hb : b.length ≤ 1000000) (r : rdr) (hr : r.a ≤ b.length) {m : Int} (h0 : 0 ≤ m) (h1 : m ≤ 9223372036854775807) : ∃ (s : rdr) (n : List (BitVec 8)), s.a ≤ b.length ∧ n.length ≤ b.length ∧ butteryref02_Text (r.x b) m = some (s.x b, n) ∧ octets_Reader_Bytes (r.o b) m = some (n, s.o b) := by
  obtain ⟨m, rfl⟩ : ∃ n : Nat, m = (n : Int) := ⟨m.toNat, by omega⟩
  obtain ⟨a, e⟩ := r
  by_cases he : e = 0
  · subst he
    exact ⟨⟨(rdB b a m).2.1, (rdB b a m).2.2⟩, _, (rdB_le hr).1, (rdB_le hr).2.2, text_eq hb hr (by omega), octBytesR_eq hb hr (by omega)⟩
  · exact ⟨⟨a, e⟩, [], hr, by simp, text_off he, octBytesR_off he⟩
/-- What is read as a number. -/
def rN (b : List (BitVec 8)) (r : rdr) (m : Nat) : Nat × rdr := if r.e = 0 then ((rdN b r.a m).1, ⟨(rdN b r.a m).2.1, (rdN b r.a m).2.2⟩) else (0, r)
def rB (b : List (BitVec 8)) (r : rdr) (m : Nat) : List (BitVec 8) × rdr := if r.e = 0 then ((rdB b r.a m).1, ⟨(rdB b r.a m).2.1, (rdB b r.a m).2.2⟩) else ([], r)
theorem octN_r {b : List (BitVec 8)} (hb : b.length ≤ 1000000) {r : rdr} (hr : r.a ≤ b.length) {m : Nat} (hm : m < 9223372036854775808) : octets_Reader_Number (r.o b) (m : Int) = some (((rN b r m).1 : Int), (rN b r m).2.o b) := by
  obtain ⟨a, e⟩ := r
  unfold rN
  by_cases he : e = 0
  · subst he; rw [if_pos rfl]; exact octNum_eq hb hr hm
  · rw [if_neg he]; exact rdN_off he
theorem refN_r {b : List (BitVec 8)} (hb : b.length ≤ 1000000) {r : rdr} (hr : r.a ≤ b.length) {m : Nat} (hm : m < 9223372036854775808) : butteryref02_Number (r.x b) (m : Int) = some ((rN b r m).2.x b, ((rN b r m).1 : Int)) := by
  obtain ⟨a, e⟩ := r
  unfold rN
  by_cases he : e = 0
  · subst he; rw [if_pos rfl]; exact refNum_eq hb hr hm
  · rw [if_neg he]; exact refN_off he
theorem octB_r {b : List (BitVec 8)} (hb : b.length ≤ 1000000) {r : rdr} (hr : r.a ≤ b.length) {m : Nat} (hm : m < 9223372036854775808) : octets_Reader_Bytes (r.o b) (m : Int) = some ((rB b r m).1, (rB b r m).2.o b) := by
  obtain ⟨a, e⟩ := r
  unfold rB
  by_cases he : e = 0
  · subst he; rw [if_pos rfl]; exact octBytesR_eq hb hr hm
  · rw [if_neg he]; exact octBytesR_off he
theorem refB_r {b : List (BitVec 8)} (hb : b.length ≤ 1000000) {r : rdr} (hr : r.a ≤ b.length) {m : Nat} (hm : m < 9223372036854775808) : butteryref02_Text (r.x b) (m : Int) = some ((rB b r m).2.x b, (rB b r m).1) := by
  obtain ⟨a, e⟩ := r
  unfold rB
  by_cases he : e = 0
  · subst he; rw [if_pos rfl]; exact text_eq hb hr hm
  · rw [if_neg he]; exact text_off he
theorem rN_le {b : List (BitVec 8)} {r : rdr} (hr : r.a ≤ b.length) (m : Nat) : (rN b r m).2.a ≤ b.length ∧ r.a ≤ (rN b r m).2.a ∧ (rN b r m).1 ≤ m := by
  unfold rN
  split
  · have := rdN_le (most := m) hr; exact ⟨this.1, this.2.1, this.2.2.1⟩
  · exact ⟨hr, Nat.le_refl _, Nat.zero_le _⟩
theorem rB_le {b : List (BitVec 8)} {r : rdr} (hr : r.a ≤ b.length) (m : Nat) : (rB b r m).2.a ≤ b.length ∧ r.a ≤ (rB b r m).2.a ∧ (rB b r m).1.length ≤ b.length := by
  unfold rB
  split
  · exact rdB_le hr
  · exact ⟨hr, Nat.le_refl _, by simp⟩
theorem rN_off {b : List (BitVec 8)} {r : rdr} {m : Nat} (h : (rN b r m).2.e = 0) : r.e = 0 := by
  unfold rN at h
  split at h
  · assumption
  · exact h
theorem rB_off {b : List (BitVec 8)} {r : rdr} {m : Nat} (h : (rB b r m).2.e = 0) : r.e = 0 := by
  unfold rB at h
  split at h
  · assumption
  · exact h
/-- A number that is there is read. -/
theorem rN_is {b l : List (BitVec 8)} {r : rdr} {m n : Nat} (he : r.e = 0) (h : b.drop r.a = num7 n ++ l) (hm : n ≤ m) (hn : n < 9223372036854775808) : rN b r m = (n, ⟨r.a + (num7 n).length, 0⟩) := by
  unfold rN
  rw [if_pos he, rdN_num h hm hn]
theorem drop_app {b x l : List (BitVec 8)} {a : Nat} (h : b.drop a = x ++ l) : b.drop (a + x.length) = l := by
  rw [← List.drop_drop, h, List.drop_left' rfl]
/-- Bytes that are there are read. -/
theorem rB_is {b t l : List (BitVec 8)} {r : rdr} {m : Nat} (he : r.e = 0) (hr : r.a ≤ b.length) (h : b.drop r.a = num7 t.length ++ (t ++ l)) (hm : t.length ≤ m) (hn : t.length < 9223372036854775808) : rB b r m = (t, ⟨r.a + (num7 t.length).length + t.length, 0⟩) := by
  have h2 := drop_app h
  have h3 := congrArg List.length h2
  have h4 := congrArg List.length h
  simp only [List.length_drop, List.length_append] at h3 h4
  unfold rB rdB
  rw [if_pos he, rdN_num h hm hn]
  simp only
  rw [if_neg (by simp), if_neg (by omega)]
  refine Prod.ext ?_ rfl
  simp only
  rw [List.drop_take, h2, show r.a + (num7 t.length).length + t.length - (r.a + (num7 t.length).length) = t.length by omega, List.take_left' rfl]
/-- What was read as a number is its bytes. -/
theorem rN_one {b : List (BitVec 8)} {r : rdr} {m : Nat} (hm : m < 9223372036854775808) (h : (rN b r m).2.e = 0) : b.drop r.a = num7 (rN b r m).1 ++ b.drop (rN b r m).2.a ∧ r.a < (rN b r m).2.a := by
  have he := rN_off h
  unfold rN at h ⊢
  rw [if_pos he] at h ⊢
  unfold rdN at h ⊢
  cases hr : rd7 m (b.drop r.a) true 0 with
  | inl e =>
    rw [hr] at h
    simp only at h
    rcases rd7_err hr with rfl | rfl | rfl <;> cases h
  | inr p =>
    obtain ⟨n, k⟩ := p
    have h1 := rd7_one hm (fun _ => rfl) (fun h => by cases h) hr
    rw [pre_zero, List.nil_append] at h1
    have h2 := rd7_le hr
    simp only
    rw [h1, ← List.drop_drop, List.take_append_drop]
    exact ⟨rfl, by omega⟩
/-- What was read as bytes is their number and they. -/
theorem rB_one {b : List (BitVec 8)} {r : rdr} {m : Nat} (hr : r.a ≤ b.length) (hm : m < 9223372036854775808) (h : (rB b r m).2.e = 0) : b.drop r.a = num7 (rB b r m).1.length ++ ((rB b r m).1 ++ b.drop (rB b r m).2.a) ∧ r.a < (rB b r m).2.a ∧ (rB b r m).1.length ≤ m := by
  have he := rB_off h
  have hN := rN_one (b := b) (r := r) hm
  have hle := rN_le hr m
  unfold rN at hN hle
  rw [if_pos he] at hN hle
  simp only at hN hle
  unfold rB at h ⊢
  rw [if_pos he] at h ⊢
  unfold rdB at h ⊢
  generalize rdN b r.a m = z at *
  obtain ⟨n, p, e⟩ := z
  simp only at *
  by_cases h1 : e = 0
  · subst h1
    rw [if_neg (by simp)] at h ⊢
    by_cases h2 : b.length < p + n
    · rw [if_pos h2] at h; cases h
    · rw [if_neg h2]
      obtain ⟨k1, k2⟩ := hN rfl
      have hl : ((b.take (p + n)).drop p).length = n := by simp; omega
      simp only
      rw [hl]
      refine ⟨?_, by omega, hle.2.2⟩
      rw [k1, List.drop_take, show p + n - p = n by omega, ← List.drop_drop, List.take_append_drop]
  · rw [if_pos h1] at h; exact absurd h h1
end Go.Proofs.YthkfilchighbhaaDoor
namespace Go.Proofs.YthkfilchighbhaaDoor
open Go Go.Va
set_option linter.unusedVariables false
set_option linter.unusedSimpArgs false
/-- What is wrong with an entry. -/
def ckK (k : List (BitVec 8)) : Int := if k.length = 0 then 1 else if 40 < k.length then 3 else 0
def ckE (x : api_Entry) : Int :=
  if ckK x.Key ≠ 0 then ckK x.Key else
  if (x.Version < 1 ∨ x.Version > 1099511627776) ∨ (x.AsOf < x.Version ∨ x.AsOf > 1099511627776) ∨ (x.Ends < 0 ∨ x.Ends > 1099511627776) then 2 else
  if 4096 < x.Value.length then 3 else 0
theorem octKey_eq (k : List (BitVec 8)) : octets_Key k = some (ckK k) := by
  unfold octets_Key ckK
  simp only [lt_eq]
  by_cases h0 : k.length = 0
  · rw [if_pos h0, if_pos (by simp [h0])]
  · rw [if_neg h0, if_neg (by simp; intro h; subst h; simp at h0)]
    by_cases h1 : 40 < k.length
    · rw [if_pos h1, if_pos (decide_eq_true (by omega))]
    · rw [if_neg h1, if_neg (by rw [decide_eq_false (by omega)]; simp)]
theorem refKey_eq (k : List (BitVec 8)) : butteryref02_Key k = some (ckK k) := by rw [← key_eq, octKey_eq]
theorem new_eq (op : List (BitVec 8)) (n c : Int) (hc : c ≠ 0) : trouble_New op n c = some (.fault op n c .nil) := by
  simp [trouble_New, lt_eq, hc]
theorem wrap_eq (op : List (BitVec 8)) (n : Int) (e : Err) (he : e.isNil = false) : trouble_Wrap op n e = some (.fault op n 0 e) := by
  simp [trouble_Wrap, lt_eq, he]
theorem num_ck (op : List (BitVec 8)) (n low : Int) (e : Err) : ∃ e', item_Check_1_c op n low e = some e' ∧ (e.isNil = false → e' = e) ∧ (e = .nil → (n < low ∨ n > 1099511627776) → ∃ o a, e' = .fault o a 2 .nil) ∧ (e = .nil → ¬ (n < low ∨ n > 1099511627776) → e' = .nil) := by
  unfold item_Check_1_c
  simp only [lt_eq]
  cases e with
  | fault o a c u => exact ⟨_, rfl, fun _ => rfl, (fun h => by cases h), (fun h => by cases h)⟩
  | nil =>
    simp only [Err.isNil, if_true]
    by_cases h1 : n < low
    · rw [if_pos (decide_eq_true h1)]
      exact ⟨_, rfl, (fun h => by cases h), fun _ _ => ⟨_, _, rfl⟩, fun _ h => absurd (.inl h1) h⟩
    · rw [if_neg (by rw [decide_eq_false h1]; simp)]
      by_cases h2 : n > 1099511627776
      · rw [decide_eq_true h2]
        exact ⟨_, rfl, (fun h => by cases h), fun _ _ => ⟨_, _, rfl⟩, fun _ h => absurd (.inr h2) h⟩
      · rw [decide_eq_false h2]
        exact ⟨_, rfl, (fun h => by cases h), fun _ h => absurd h (by omega), fun _ _ => rfl⟩
theorem check_eq (x : api_Entry) : ∃ e, item_Check x = some e ∧ codeOf e = ckE x ∧ e.isNil = decide (ckE x = 0) := by
  unfold item_Check ckE
  rw [octKey_eq]
  simp only [Option.bind_some, lt_eq]
  by_cases hk : ckK x.Key = 0
  · rw [if_neg (show ¬ ((ckK x.Key != 0) = true) by simpa using hk), if_neg (show ¬ (ckK x.Key ≠ 0) by simpa using hk)]
    obtain ⟨e1, a1, a2, a3, a4⟩ := num_ck [118#8, 101#8, 114#8, 115#8, 105#8, 111#8, 110#8] x.Version 1 .nil
    obtain ⟨e2, b1, b2, b3, b4⟩ := num_ck [97#8, 115#8, 111#8, 102#8] x.AsOf x.Version e1
    obtain ⟨e3, c1, c2, c3, c4⟩ := num_ck [101#8, 110#8, 100#8, 115#8] x.Ends 0 e2
    simp only [a1, b1, c1, Option.bind_some]
    by_cases h : (x.Version < 1 ∨ x.Version > 1099511627776) ∨ (x.AsOf < x.Version ∨ x.AsOf > 1099511627776) ∨ (x.Ends < 0 ∨ x.Ends > 1099511627776)
    · rw [if_pos h]
      have key : ∃ o a, e3 = .fault o a 2 .nil := by
        by_cases h1 : x.Version < 1 ∨ x.Version > 1099511627776
        · obtain ⟨o, a, rfl⟩ := a3 rfl h1
          have := b2 rfl; subst this
          have := c2 rfl; subst this
          exact ⟨o, a, rfl⟩
        · have := a4 rfl h1; subst this
          by_cases h2 : x.AsOf < x.Version ∨ x.AsOf > 1099511627776
          · obtain ⟨o, a, rfl⟩ := b3 rfl h2
            have := c2 rfl; subst this
            exact ⟨o, a, rfl⟩
          · have := b4 rfl h2; subst this
            have h3 : x.Ends < 0 ∨ x.Ends > 1099511627776 := by
              rcases h with h | h | h
              · exact absurd h h1
              · exact absurd h h2
              · exact h
            exact c3 rfl h3
      obtain ⟨o, a, rfl⟩ := key
      exact ⟨_, rfl, rfl, rfl⟩
    · rw [if_neg h]
      simp only [not_or] at h
      have := a4 rfl (by omega); subst this
      have := b4 rfl (by omega); subst this
      have := c4 rfl (by omega); subst this
      simp only [Err.isNil, if_true, Option.bind_some]
      by_cases hv : 4096 < x.Value.length
      · rw [if_pos (decide_eq_true (by omega)), if_pos hv, new_eq _ _ _ (by decide)]
        exact ⟨_, rfl, rfl, rfl⟩
      · rw [if_neg (by rw [decide_eq_false (by omega)]; simp), if_neg hv]
        exact ⟨_, rfl, rfl, rfl⟩
  · rw [if_pos (by simpa using hk), if_pos hk, new_eq _ _ _ hk]
    exact ⟨_, rfl, by simp [codeOf, hk], by simp [Err.isNil, hk]⟩
theorem refCheck_eq (x : api_Entry) : butteryref06_Check x = some (ckE x) := by
  unfold butteryref06_Check ckE
  rw [refKey_eq]
  simp only [Option.bind_some, lt_eq]
  by_cases hk : ckK x.Key = 0
  · rw [if_neg (show ¬ ((ckK x.Key != 0) = true) by simpa using hk), if_neg (show ¬ (ckK x.Key ≠ 0) by simpa using hk)]
    have hb : (if decide (x.Version < 1) = true then some true else if decide (x.Version > 1099511627776) = true then some true else if decide (x.AsOf < x.Version) = true then some true else if decide (x.AsOf > 1099511627776) = true then some true else if decide (x.Ends < 0) = true then some true else some (decide (x.Ends > 1099511627776))) = some (decide ((x.Version < 1 ∨ x.Version > 1099511627776) ∨ (x.AsOf < x.Version ∨ x.AsOf > 1099511627776) ∨ (x.Ends < 0 ∨ x.Ends > 1099511627776))) := by
      by_cases h1 : x.Version < 1
      · simp [h1]
      by_cases h2 : x.Version > 1099511627776
      · simp [h1, h2]
      by_cases h3 : x.AsOf < x.Version
      · simp [h1, h2, h3]
      by_cases h4 : x.AsOf > 1099511627776
      · simp [h1, h2, h3, h4]
      by_cases h5 : x.Ends < 0
      · simp [h1, h2, h3, h4, h5]
      · simp [h1, h2, h3, h4, h5]
    rw [hb]
    simp only [Option.bind_some, decide_eq_true_eq]
    split
    · rfl
    · by_cases hv : 4096 < x.Value.length
      · rw [if_pos (by omega), if_pos hv]
      · rw [if_neg (by omega), if_neg hv]
  · rw [if_pos (show (ckK x.Key != 0) = true by simpa using hk), if_pos (show ckK x.Key ≠ 0 from hk)]
/-- An entry that may be. -/
theorem ck_ok {x : api_Entry} (h : ckE x = 0) : 1 ≤ x.Key.length ∧ x.Key.length ≤ 40 ∧ 1 ≤ x.Version ∧ x.Version ≤ 1099511627776 ∧ x.Version ≤ x.AsOf ∧ x.AsOf ≤ 1099511627776 ∧ 0 ≤ x.Ends ∧ x.Ends ≤ 1099511627776 ∧ x.Value.length ≤ 4096 := by
  unfold ckE ckK at h
  by_cases h1 : x.Key.length = 0
  · simp [h1] at h
  by_cases h2 : 40 < x.Key.length
  · simp [h1, h2] at h
  simp only [if_neg h1, if_neg h2] at h
  rw [if_neg (by simp)] at h
  by_cases h3 : (x.Version < 1 ∨ x.Version > 1099511627776) ∨ (x.AsOf < x.Version ∨ x.AsOf > 1099511627776) ∨ (x.Ends < 0 ∨ x.Ends > 1099511627776)
  · rw [if_pos h3] at h; cases h
  rw [if_neg h3] at h
  by_cases h4 : 4096 < x.Value.length
  · rw [if_pos h4] at h; cases h
  omega
/-- The bytes of an entry. -/
def encE (x : api_Entry) : List (BitVec 8) := num7 x.Key.length ++ (x.Key ++ (num7 x.Version.toNat ++ (num7 x.AsOf.toNat ++ (num7 x.Ends.toNat ++ (num7 x.Value.length ++ x.Value)))))
theorem okN_ck {x : api_Entry} (h : ckE x = 0) : okN [x.Version, x.AsOf, x.Ends] := by
  obtain ⟨h1, h2, h3, h4, h5, h6, h7, h8, h9⟩ := ck_ok h
  refine ⟨by simp, fun n hn => ?_⟩
  simp only [List.mem_cons, List.not_mem_nil, or_false] at hn
  rcases hn with rfl | rfl | rfl <;> omega
theorem num7_le {n : Nat} (h : n < 9223372036854775808) : (num7 n).length ≤ 9 := num7_len h
theorem encE_len {x : api_Entry} (h : ckE x = 0) : (encE x).length ≤ 4181 ∧ 1 ≤ (encE x).length := by
  obtain ⟨h1, h2, h3, h4, h5, h6, h7, h8, h9⟩ := ck_ok h
  have a1 := num7_len (n := x.Key.length) (by omega)
  have a2 := num7_len (n := x.Version.toNat) (by omega)
  have a3 := num7_len (n := x.AsOf.toNat) (by omega)
  have a4 := num7_len (n := x.Ends.toNat) (by omega)
  have a5 := num7_len (n := x.Value.length) (by omega)
  simp only [encE, List.length_append]
  omega
theorem nlen_num7 : ∀ (k n : Nat), n < 128 ^ k → (num7 n).length = nlen n
  | 0, n, h => by
    have : n = 0 := by simpa using h
    subst this
    rw [num7_small (by omega), nlen_lt (by omega)]; rfl
  | k + 1, n, h => by
    by_cases h1 : n < 128
    · rw [num7_small h1, nlen_lt h1]; rfl
    · rw [nlen_ge (by omega), ← nlen_num7 k (n / 128) (by rw [Nat.div_lt_iff_lt_mul (by decide)]; rw [Nat.pow_succ] at h; exact h)]
      simp only [num7, List.length_append, List.length_cons, List.length_nil]
      rw [pre_pos (m := n / 128) (by omega)]
      simp
theorem nlen_eq {n : Nat} (h : n < 9223372036854775808) : (num7 n).length = nlen n := nlen_num7 9 n (by omega)
def zeroE : api_Entry := ⟨[], 0, 0, 0, []⟩
/-- What is read as an entry. -/
def frE (b : List (BitVec 8)) (r : rdr) : api_Entry × rdr :=
  let k := rB b r 40
  let v := rN b k.2 1099511627776
  let a := rN b v.2 1099511627776
  let n := rN b a.2 1099511627776
  let w := rB b n.2 4096
  let x : api_Entry := ⟨k.1, v.1, a.1, n.1, w.1⟩
  if w.2.e = 0 then (if ckE x = 0 then (x, w.2) else (zeroE, ⟨w.2.a, ckE x⟩)) else (zeroE, w.2)
theorem frE_le {b : List (BitVec 8)} {r : rdr} (hr : r.a ≤ b.length) : (frE b r).2.a ≤ b.length := by
  unfold frE
  have h1 := rB_le hr 40
  have h2 := rN_le h1.1 1099511627776
  have h3 := rN_le h2.1 1099511627776
  have h4 := rN_le h3.1 1099511627776
  have h5 := rB_le h4.1 4096
  simp only
  split
  · split
    · exact h5.1
    · exact h5.1
  · exact h5.1
/-- An entry that is there is read. -/
theorem frE_is {b l : List (BitVec 8)} {r : rdr} {x : api_Entry} (he : r.e = 0) (hr : r.a ≤ b.length) (h : b.drop r.a = encE x ++ l) (hc : ckE x = 0) : frE b r = (x, ⟨r.a + (encE x).length, 0⟩) := by
  obtain ⟨h1, h2, h3, h4, h5, h6, h7, h8, h9⟩ := ck_ok hc
  simp only [encE, List.append_assoc] at h
  have k1 := rB_is he hr h (m := 40) (by omega) (by omega)
  have d1 : b.drop (r.a + (num7 x.Key.length).length + x.Key.length) = _ := drop_app (drop_app h)
  have l1 : r.a + (num7 x.Key.length).length + x.Key.length ≤ b.length := by have := (rB_le hr 40).1; rw [k1] at this; exact this
  have k2 := rN_is (r := ⟨r.a + (num7 x.Key.length).length + x.Key.length, 0⟩) rfl d1 (m := 1099511627776) (by omega) (by omega)
  have d2 := drop_app d1
  have l2 := (rN_le (b := b) (r := ⟨r.a + (num7 x.Key.length).length + x.Key.length, 0⟩) l1 1099511627776).1
  rw [k2] at l2
  have k3 := rN_is (r := ⟨r.a + (num7 x.Key.length).length + x.Key.length + (num7 x.Version.toNat).length, 0⟩) rfl d2 (m := 1099511627776) (by omega) (by omega)
  have d3 := drop_app d2
  have l3 := (rN_le (b := b) (r := ⟨r.a + (num7 x.Key.length).length + x.Key.length + (num7 x.Version.toNat).length, 0⟩) l2 1099511627776).1
  rw [k3] at l3
  have k4 := rN_is (r := ⟨r.a + (num7 x.Key.length).length + x.Key.length + (num7 x.Version.toNat).length + (num7 x.AsOf.toNat).length, 0⟩) rfl d3 (m := 1099511627776) (by omega) (by omega)
  have d4 := drop_app d3
  have l4 := (rN_le (b := b) (r := ⟨r.a + (num7 x.Key.length).length + x.Key.length + (num7 x.Version.toNat).length + (num7 x.AsOf.toNat).length, 0⟩) l3 1099511627776).1
  rw [k4] at l4
  have k5 := rB_is (r := ⟨r.a + (num7 x.Key.length).length + x.Key.length + (num7 x.Version.toNat).length + (num7 x.AsOf.toNat).length + (num7 x.Ends.toNat).length, 0⟩) rfl l4 d4 (m := 4096) (by omega) (by omega)
  have e2 : (x.Version.toNat : Int) = x.Version := by omega
  have e3 : (x.AsOf.toNat : Int) = x.AsOf := by omega
  have e4 : (x.Ends.toNat : Int) = x.Ends := by omega
  unfold frE
  simp only [k1, k2, k3, k4, k5, if_true, e2, e3, e4]
  rw [if_pos hc]
  refine Prod.ext rfl ?_
  simp only [encE, List.length_append, rdr.mk.injEq, and_true]
  omega
/-- What was read as an entry is its bytes. -/
theorem frE_one {b : List (BitVec 8)} {r : rdr} (hr : r.a ≤ b.length) (h : (frE b r).2.e = 0) : ckE (frE b r).1 = 0 ∧ b.drop r.a = encE (frE b r).1 ++ b.drop (frE b r).2.a ∧ r.a < (frE b r).2.a := by
  unfold frE at h ⊢
  have h1 := rB_le hr 40
  have h2 := rN_le h1.1 1099511627776
  have h3 := rN_le h2.1 1099511627776
  have h4 := rN_le h3.1 1099511627776
  have h5 := rB_le h4.1 4096
  have o5 := rB_one (b := b) h4.1 (m := 4096) (by omega)
  have f5 := rB_off (b := b) (r := (rN b (rN b (rN b (rB b r 40).2 1099511627776).2 1099511627776).2 1099511627776).2) (m := 4096)
  have o4 := rN_one (b := b) (r := (rN b (rN b (rB b r 40).2 1099511627776).2 1099511627776).2) (m := 1099511627776) (by omega)
  have f4 := rN_off (b := b) (r := (rN b (rN b (rB b r 40).2 1099511627776).2 1099511627776).2) (m := 1099511627776)
  have o3 := rN_one (b := b) (r := (rN b (rB b r 40).2 1099511627776).2) (m := 1099511627776) (by omega)
  have f3 := rN_off (b := b) (r := (rN b (rB b r 40).2 1099511627776).2) (m := 1099511627776)
  have o2 := rN_one (b := b) (r := (rB b r 40).2) (m := 1099511627776) (by omega)
  have f2 := rN_off (b := b) (r := (rB b r 40).2) (m := 1099511627776)
  have o1 := rB_one (b := b) hr (m := 40) (by omega)
  simp only at h ⊢
  generalize rB b (rN b (rN b (rN b (rB b r 40).2 1099511627776).2 1099511627776).2 1099511627776).2 4096 = w at *
  generalize rN b (rN b (rN b (rB b r 40).2 1099511627776).2 1099511627776).2 1099511627776 = n at *
  generalize rN b (rN b (rB b r 40).2 1099511627776).2 1099511627776 = a at *
  generalize rN b (rB b r 40).2 1099511627776 = v at *
  generalize rB b r 40 = k at *
  by_cases he : w.2.e = 0
  · rw [if_pos he] at h ⊢
    by_cases hc : ckE ⟨k.1, v.1, a.1, n.1, w.1⟩ = 0
    · rw [if_pos hc]
      have g4 := f5 he
      have g3 := f4 g4
      have g2 := f3 g3
      have g1 := f2 g2
      refine ⟨hc, ?_, ?_⟩
      · simp only [encE, Int.toNat_natCast, List.append_assoc]
        rw [(o1 g1).1, (o2 g2).1, (o3 g3).1, (o4 g4).1, (o5 he).1]
      · have := (o1 g1).2.1
        simp only
        omega
    · rw [if_neg hc] at h
      exact absurd h hc
  · rw [if_neg he] at h
    exact absurd h he
end Go.Proofs.YthkfilchighbhaaDoor
namespace Go.Proofs.YthkfilchighbhaaDoor
open Go Go.Va
set_option linter.unusedVariables false
set_option linter.unusedSimpArgs false
/-- What bytes are as entries, from a place on; or what is wrong first. -/
def rdE (b : List (BitVec 8)) : Nat → Nat → List api_Entry ⊕ Int
  | 0, _ => .inl []
  | k + 1, a => if a < b.length then (if (frE b ⟨a, 0⟩).2.e = 0 then (match rdE b k (frE b ⟨a, 0⟩).2.a with
      | .inl l => .inl ((frE b ⟨a, 0⟩).1 :: l)
      | .inr c => .inr c) else .inr (frE b ⟨a, 0⟩).2.e) else .inl []
theorem rdE_ne {b : List (BitVec 8)} : ∀ {k a : Nat} {c : Int}, rdE b k a = .inr c → c ≠ 0
  | 0, a, c, h => by simp [rdE] at h
  | k + 1, a, c, h => by
    simp only [rdE] at h
    split at h
    · split at h
      · split at h
        · cases h
        · rename_i hc; cases h; exact rdE_ne hc
      · rename_i he; cases h; exact he
    · cases h
theorem rdE_len {b : List (BitVec 8)} : ∀ {k a : Nat} {l : List api_Entry}, rdE b k a = .inl l → l.length ≤ k
  | 0, a, l, h => by simp [rdE] at h; subst h; simp
  | k + 1, a, l, h => by
    simp only [rdE] at h
    split at h
    · split at h
      · split at h
        · rename_i l' hl; cases h; have := rdE_len hl; simp; omega
        · cases h
      · cases h
    · cases h; simp
theorem frE_val {b : List (BitVec 8)} {r : rdr} (hr : r.a ≤ b.length) : (frE b r).1.Value.length ≤ b.length := by
  unfold frE
  have h1 := rB_le hr 40
  have h2 := rN_le h1.1 1099511627776
  have h3 := rN_le h2.1 1099511627776
  have h4 := rN_le h3.1 1099511627776
  have h5 := rB_le h4.1 4096
  simp only
  split
  · split
    · exact h5.2.2
    · simp [zeroE]
  · simp [zeroE]
theorem rdE_val {b : List (BitVec 8)} : ∀ {k a : Nat} {l : List api_Entry}, a ≤ b.length → rdE b k a = .inl l → ∀ x ∈ l, x.Value.length ≤ b.length
  | 0, a, l, ha, h, x, hx => by simp [rdE] at h; subst h; simp at hx
  | k + 1, a, l, ha, h, x, hx => by
    simp only [rdE] at h
    split at h
    · split at h
      · split at h
        · rename_i l' hl
          cases h
          rcases List.mem_cons.1 hx with rfl | hx
          · exact frE_val (r := ⟨a, 0⟩) ha
          · exact rdE_val (frE_le (r := ⟨a, 0⟩) ha) hl x hx
        · cases h
      · cases h
    · cases h; simp at hx
theorem o_code (r : rdr) (b : List (BitVec 8)) : (r.o b).code = r.e := rfl
theorem o_at (r : rdr) (b : List (BitVec 8)) : (r.o b).at_ = r.a := rfl
theorem x_code (r : rdr) (b : List (BitVec 8)) : (r.x b).Code = r.e := rfl
theorem x_at (r : rdr) (b : List (BitVec 8)) : (r.x b).At = r.a := rfl
/-- Entries that were read are their bytes. -/
theorem rdE_one {b : List (BitVec 8)} : ∀ {k a : Nat} {l : List api_Entry}, b.length < k + a → a ≤ b.length → rdE b k a = .inl l → b.drop a = l.flatMap encE ∧ ∀ x ∈ l, ckE x = 0
  | 0, a, l, h1, h2, h => absurd h1 (by omega)
  | k + 1, a, l, h1, h2, h => by
    simp only [rdE] at h
    split at h
    · rename_i ha
      split at h
      · rename_i he
        obtain ⟨c1, c2, c3⟩ := frE_one (b := b) (r := ⟨a, 0⟩) h2 he
        simp only at c2 c3
        split at h
        · rename_i l' hl
          cases h
          obtain ⟨i1, i2⟩ := rdE_one (by omega) (frE_le (b := b) (r := ⟨a, 0⟩) h2) hl
          refine ⟨by rw [c2, i1]; simp, fun x hx => ?_⟩
          rcases List.mem_cons.1 hx with rfl | hx
          · exact c1
          · exact i2 x hx
        · cases h
      · cases h
    · cases h
      exact ⟨by rw [List.drop_of_length_le (by omega)]; rfl, fun x hx => by cases hx⟩
/-- Entries that may be are read from their bytes. -/
theorem rdE_is {b : List (BitVec 8)} : ∀ {k a : Nat} {l : List api_Entry}, b.length < k + a → a ≤ b.length → b.drop a = l.flatMap encE → (∀ x ∈ l, ckE x = 0) → rdE b k a = .inl l
  | 0, a, l, h1, h2, _, _ => absurd h1 (by omega)
  | k + 1, a, [], h1, h2, h3, h4 => by
    have h5 := congrArg List.length h3
    simp at h5
    rw [rdE, if_neg (by omega)]
  | k + 1, a, x :: l, h1, h2, h3, h4 => by
    have hx := h4 x List.mem_cons_self
    rw [List.flatMap_cons] at h3
    have hr := frE_is (r := ⟨a, 0⟩) rfl h2 h3 hx
    have h5 := congrArg List.length h3
    have hp := (encE_len hx).2
    simp only [List.length_drop, List.length_append] at h5
    have ih := rdE_is (k := k) (a := a + (encE x).length) (l := l) (by omega) (by omega) (drop_app h3) (fun y hy => h4 y (List.mem_cons_of_mem _ hy))
    rw [rdE, if_pos (by omega), hr]
    simp only [if_true, ih]
theorem all_len {l : List api_Entry} (h : ∀ x ∈ l, ckE x = 0) : (l.flatMap encE).length ≤ 4181 * l.length := by
  induction l with
  | nil => simp
  | cons x l ih =>
    have := ih (fun y hy => h y (List.mem_cons_of_mem _ hy))
    have := (encE_len (h x List.mem_cons_self)).1
    simp only [List.flatMap_cons, List.length_append, List.length_cons]
    omega
theorem same_eq6 (x y : api_Entry) (hx : x.Value.length < 9223372036854775807) : butteryref06_Same x y = some (decide (x = y)) := by
  obtain ⟨k, v, a, n, w⟩ := x
  obtain ⟨k', v', a', n', w'⟩ := y
  simp only at hx
  simp only [butteryref06_Same, lt_eq, same_eq _ _ hx, Option.bind_some, beq_iff_eq, api_Entry.mk.injEq]
  by_cases h1 : k = k'
  · by_cases h2 : v = v'
    · by_cases h3 : a = a'
      · by_cases h4 : n = n'
        · simp [h1, h2, h3, h4]
        · simp [h1, h2, h3, h4]
      · simp [h1, h2, h3]
    · simp [h1, h2]
  · simp [h1]
theorem isame_eq6 (x y : api_Entry) : item_Same x y = some (decide (x = y)) := by
  obtain ⟨k, v, a, n, w⟩ := x
  obtain ⟨k', v', a', n', w'⟩ := y
  simp only [item_Same, lt_eq, beq_iff_eq, api_Entry.mk.injEq]
  by_cases h1 : k = k'
  · by_cases h2 : v = v'
    · by_cases h3 : a = a'
      · by_cases h4 : n = n'
        · by_cases h5 : w = w'
          · simp [h1, h2, h3, h4, h5]
          · simp [h1, h2, h3, h4, h5]
        · simp [h1, h2, h3, h4]
      · simp [h1, h2, h3]
    · simp [h1, h2]
  · simp [h1]
/-- What is light. -/
theorem light_l {l : List api_Entry} (hl : l.length ≤ 40) : ∀ (k i : Nat) (n : Nat), k + i = l.length → n ≤ 12000 → ∃ y, butterylaw06_Light_l0 l ((n : Int), (i : Int)) = some y ∧ (y = .inr 1 ∨ (y = .inl () ∧ ∀ j, i ≤ j → (h : j < l.length) → l[j].Key.length ≤ 200 ∧ l[j].Value.length ≤ 5000))
  | 0, i, n, hk, hn => by
    refine ⟨.inl (), loopO_out ?_, .inr ⟨rfl, fun j h1 h2 => by omega⟩⟩
    simp only [butterylaw06_Light_b0, lt_eq]
    rw [if_neg (by rw [decide_eq_false (by omega)]; simp)]
  | k + 1, i, n, hk, hn => by
    have hi : i < l.length := by omega
    by_cases h1 : l[i].Key.length > 200
    · refine ⟨.inr 1, loopO_out ?_, .inl rfl⟩
      simp only [butterylaw06_Light_b0, lt_eq, ix_nat hi, Option.bind_some]
      rw [if_pos (decide_eq_true (by omega)), if_pos (decide_eq_true (by omega))]
      rfl
    · by_cases h2 : l[i].Value.length > 5000
      · refine ⟨.inr 1, loopO_out ?_, .inl rfl⟩
        simp only [butterylaw06_Light_b0, lt_eq, ix_nat hi, Option.bind_some]
        rw [if_pos (decide_eq_true (by omega)), if_neg (by rw [decide_eq_false (by omega)]; simp), decide_eq_true (by omega)]
        rfl
      · have hw : w64 ((n : Int) + (l[i].Value.length : Int)) = ((n + l[i].Value.length : Nat) : Int) := by rw [w64_eq (by omega) (by omega)]; omega
        by_cases h3 : n + l[i].Value.length > 12000
        · refine ⟨.inr 1, loopO_out ?_, .inl rfl⟩
          simp only [butterylaw06_Light_b0, lt_eq, ix_nat hi, Option.bind_some]
          rw [if_pos (decide_eq_true (by omega)), if_neg (by rw [decide_eq_false (by omega)]; simp), decide_eq_false (by omega)]
          simp only [Option.bind_some, Bool.false_eq_true, if_false, hw]
          rw [if_pos (decide_eq_true (by omega))]
        · obtain ⟨y, i1, i2⟩ := light_l hl k (i + 1) (n + l[i].Value.length) (by omega) (by omega)
          have e : butterylaw06_Light_l0 l ((n : Int), (i : Int)) = butterylaw06_Light_l0 l (((n + l[i].Value.length : Nat) : Int), ((i + 1 : Nat) : Int)) := by
            refine loopO_in (body := fun s => butterylaw06_Light_b0 l s.1 s.2) ?_
            simp only [butterylaw06_Light_b0, lt_eq, ix_nat hi, Option.bind_some]
            rw [if_pos (decide_eq_true (by omega)), if_neg (by rw [decide_eq_false (by omega)]; simp), decide_eq_false (by omega)]
            simp only [Option.bind_some, Bool.false_eq_true, if_false, hw]
            rw [if_neg (by rw [decide_eq_false (by omega)]; simp), w64_nat (by omega)]
          refine ⟨y, by rw [e]; exact i1, ?_⟩
          rcases i2 with rfl | ⟨rfl, i3⟩
          · exact .inl rfl
          · refine .inr ⟨rfl, fun j h4 h5 => ?_⟩
            by_cases hj : j = i
            · subst hj; omega
            · exact i3 j (by omega) h5
theorem light_eq (l : List api_Entry) : butterylaw06_Light l = some 1 ∨ (butterylaw06_Light l = some 0 ∧ l.length ≤ 40 ∧ ∀ x ∈ l, x.Key.length ≤ 200 ∧ x.Value.length ≤ 5000) := by
  unfold butterylaw06_Light
  simp only [lt_eq]
  by_cases h : l.length > 40
  · left; rw [if_pos (decide_eq_true (by omega))]
  · rw [if_neg (by rw [decide_eq_false (by omega)]; simp)]
    obtain ⟨y, h1, h2⟩ := light_l (l := l) (by omega) l.length 0 0 (by omega) (by omega)
    have h1' : butterylaw06_Light_l0 l (0, 0) = some y := h1
    rw [h1']
    rcases h2 with rfl | ⟨rfl, h3⟩
    · exact .inl rfl
    · refine .inr ⟨rfl, by omega, fun x hx => ?_⟩
      obtain ⟨j, hj, rfl⟩ := List.mem_iff_getElem.1 hx
      exact h3 j (by omega) hj
end Go.Proofs.YthkfilchighbhaaDoor
namespace Go.Va
open Go
set_option linter.unusedVariables false
set_option linter.unusedSimpArgs false
/-- One bit of a csum. -/
def cstep (n : BitVec 32) : BitVec 32 := if n &&& 1#32 = 1#32 then n >>> 1 ^^^ 3988292384#32 else n >>> 1
def csteps : Nat → BitVec 32 → BitVec 32
  | 0, n => n
  | k + 1, n => cstep (csteps k n)
def ccol (c : BitVec 8) : BitVec 32 := csteps 8 (c.setWidth 32)
def cmore1 (n : BitVec 32) (c : BitVec 8) : BitVec 32 := n >>> 8 ^^^ ccol (n.setWidth 8 ^^^ c)
def cmore (s : BitVec 32) (b : List (BitVec 8)) : BitVec 32 := ~~~ (b.foldl cmore1 (~~~ s))
def csum (b : List (BitVec 8)) : BitVec 32 := cmore 0#32 b
def cfour (n : BitVec 32) : List (BitVec 8) := [n.setWidth 8, (n >>> 8).setWidth 8, (n >>> 16).setWidth 8, (n >>> 24).setWidth 8]
def cseal (b : List (BitVec 8)) : List (BitVec 8) := b ++ cfour (csum b)
def cfits (b : List (BitVec 8)) : Bool := decide (4 ≤ b.length) && decide (cfour (csum (b.take (b.length - 4))) = b.drop (b.length - 4))
/-- One bit, as the document has it. -/
def rbit (c : BitVec 8) (k : Nat) (n : BitVec 32) : BitVec 32 := if (c >>> k).setWidth 32 % 2#32 = n % 2#32 then n / 2#32 else n / 2#32 ^^^ 3988292384#32
def rbits (c : BitVec 8) (n : BitVec 32) : Nat → BitVec 32
  | 0 => n
  | k + 1 => rbit c k (rbits c n k)
def rbyte (n : BitVec 32) (c : BitVec 8) : BitVec 32 := rbits c n 8
def rsum (b : List (BitVec 8)) : BitVec 32 := 4294967295#32 - b.foldl rbyte 4294967295#32
def rdiv (n : BitVec 32) : Nat → BitVec 32
  | 0 => n
  | k + 1 => rdiv n k / 256#32
def rfour (n : BitVec 32) : Nat → List (BitVec 8)
  | 0 => []
  | k + 1 => rfour n k ++ [(rdiv n k % 256#32).setWidth 8]
theorem rfour_len (n : BitVec 32) : ∀ k, (rfour n k).length = k
  | 0 => rfl
  | k + 1 => by simp [rfour, rfour_len n k]
def rseal (b : List (BitVec 8)) : List (BitVec 8) := b ++ rfour (rsum b) 4
def rfits (b : List (BitVec 8)) : Bool := decide (4 ≤ b.length) && decide (rseal (b.take (b.length - 4)) = b)

theorem shr_shr (n : BitVec 32) (k : Nat) : n >>> k >>> 1 = n >>> (k + 1) := by rw [BitVec.shiftRight_add]
theorem crc_and_one (n : BitVec 32) : (n &&& 1#32 = 1#32) ↔ n.getLsbD 0 = true := by
  constructor
  · intro h
    have := congrArg (fun x => x.getLsbD 0) h
    simpa using this
  · intro h
    apply BitVec.eq_of_getLsbD_eq
    intro i hi
    by_cases h0 : i = 0
    · subst h0; simpa using h
    · rw [BitVec.getLsbD_and, BitVec.getLsbD_one]
      simp [h0]
theorem crc_step_eq (n : BitVec 32) : cstep n = n >>> 1 ^^^ (if n.getLsbD 0 = true then 3988292384#32 else 0#32) := by
  unfold cstep
  by_cases h : n.getLsbD 0 = true
  · rw [if_pos ((crc_and_one n).2 h), if_pos h]
  · rw [if_neg (fun hh => h ((crc_and_one n).1 hh)), if_neg h, BitVec.xor_zero]
theorem crc_step_xor (a b : BitVec 32) : cstep (a ^^^ b) = cstep a ^^^ cstep b := by
  rw [crc_step_eq, crc_step_eq, crc_step_eq, BitVec.getLsbD_xor, BitVec.ushiftRight_xor_distrib]
  generalize a >>> 1 = x
  generalize b >>> 1 = y
  cases a.getLsbD 0 <;> cases b.getLsbD 0
  · simp
  · simp [BitVec.xor_assoc]
  · simp only [Bool.xor_false, if_true, Bool.false_eq_true, if_false, BitVec.xor_zero]
    rw [BitVec.xor_assoc, BitVec.xor_comm y, BitVec.xor_assoc]
  · simp only [Bool.xor_self, if_true, Bool.false_eq_true, if_false, BitVec.xor_zero]
    rw [BitVec.xor_assoc, ← BitVec.xor_assoc (3988292384#32), BitVec.xor_comm (3988292384#32) y, BitVec.xor_assoc y, BitVec.xor_self, BitVec.xor_zero]
theorem crc_steps_xor (a b : BitVec 32) : ∀ k, csteps k (a ^^^ b) = csteps k a ^^^ csteps k b
  | 0 => rfl
  | k + 1 => by rw [csteps, crc_steps_xor a b k, crc_step_xor]; rfl
theorem crc_step_even (n : BitVec 32) (h : n.getLsbD 0 = false) : cstep n = n >>> 1 := by
  rw [crc_step_eq, h]; simp
theorem crc_steps_even (z : BitVec 32) : ∀ k, (∀ i, i < k → z.getLsbD i = false) → csteps k z = z >>> k
  | 0, _ => by simp [csteps]
  | k + 1, h => by
    rw [csteps, crc_steps_even z k (fun i hi => h i (by omega)), crc_step_even _ (by rw [BitVec.getLsbD_ushiftRight]; exact h _ (by omega)), shr_shr]
theorem crc_steps_byte (n : BitVec 32) (c : BitVec 8) : csteps 8 (n ^^^ c.setWidth 32) = cmore1 n c := by
  have h : n ^^^ c.setWidth 32 = (n >>> 8) <<< 8 ^^^ (n.setWidth 8 ^^^ c).setWidth 32 := by
    apply BitVec.eq_of_getLsbD_eq
    intro i hi
    simp only [BitVec.getLsbD_xor, BitVec.getLsbD_shiftLeft, BitVec.getLsbD_ushiftRight, BitVec.getLsbD_setWidth]
    by_cases h8 : i < 8
    · simp [h8, hi]
    · have e : 8 + (i - 8) = i := by omega
      simp [h8, hi, e, BitVec.getLsbD_of_ge c i (by omega)]
  rw [h, crc_steps_xor, crc_steps_even]
  · unfold cmore1 ccol
    congr 1
    apply BitVec.eq_of_getLsbD_eq
    intro i hi
    simp only [BitVec.getLsbD_shiftLeft, BitVec.getLsbD_ushiftRight]
    by_cases h32 : 8 + i < 32
    · simp [h32]
    · simp [h32, BitVec.getLsbD_of_ge n (8 + i) (by omega)]
  · intro i hi
    simp [BitVec.getLsbD_shiftLeft, hi]
theorem chalf (n : BitVec 32) : n / 2#32 = n >>> 1 := by
  apply BitVec.eq_of_toNat_eq
  rw [BitVec.toNat_udiv, BitVec.toNat_ushiftRight, Nat.shiftRight_eq_div_pow]
  rfl
theorem clow (n m : BitVec 32) : n % 2#32 = m % 2#32 ↔ n.getLsbD 0 = m.getLsbD 0 := by
  have e (x : BitVec 32) : x.getLsbD 0 = decide (x.toNat % 2 = 1) := by
    rw [BitVec.getLsbD, Nat.testBit_zero]
  rw [e, e]
  constructor
  · intro h
    have := congrArg BitVec.toNat h
    simp only [BitVec.toNat_umod, BitVec.toNat_ofNat] at this
    have h2 : n.toNat % 2 = m.toNat % 2 := this
    rw [h2]
  · intro h
    apply BitVec.eq_of_toNat_eq
    simp only [BitVec.toNat_umod, BitVec.toNat_ofNat]
    show n.toNat % 2 = m.toNat % 2
    rw [decide_eq_decide] at h
    omega
/-- One bit, as a cstep. -/
theorem rbit_eq (c : BitVec 8) (k : Nat) (n : BitVec 32) : rbit c k n = n >>> 1 ^^^ (if (c.getLsbD k != n.getLsbD 0) = true then 3988292384#32 else 0#32) := by
  unfold rbit
  have hb : ((c >>> k).setWidth 32).getLsbD 0 = c.getLsbD k := by
    simp
    intro h
    rcases Nat.lt_or_ge k 32 with h1 | h1
    · exact h1
    · rw [BitVec.getLsbD_of_ge c k (by omega)] at h; cases h
  by_cases h : c.getLsbD k = n.getLsbD 0
  · rw [if_pos ((clow _ _).2 (by rw [hb]; exact h)), chalf, h]
    simp
  · rw [if_neg (fun hh => h (by rw [← hb]; exact (clow _ _).1 hh)), chalf]
    have : (c.getLsbD k != n.getLsbD 0) = true := by simpa using h
    rw [this]; simp
theorem rbits_eq (c : BitVec 8) (n : BitVec 32) : ∀ k, csteps k (n ^^^ c.setWidth 32) = rbits c n k ^^^ (c.setWidth 32) >>> k
  | 0 => by simp [csteps, rbits]
  | k + 1 => by
    have hc : (c.setWidth 32 >>> k).getLsbD 0 = c.getLsbD k := by
      simp only [BitVec.getLsbD_ushiftRight, BitVec.getLsbD_setWidth, Nat.add_zero]
      by_cases h : k < 32
      · simp [h]
      · simp [h, BitVec.getLsbD_of_ge c k (by omega)]
    rw [csteps, rbits_eq c n k, rbits, crc_step_eq, rbit_eq, BitVec.getLsbD_xor, hc, BitVec.ushiftRight_xor_distrib, shr_shr]
    generalize rbits c n k >>> 1 = x
    generalize c.setWidth 32 >>> (k + 1) = y
    generalize rbits c n k = r
    have : (r.getLsbD 0 ^^ c.getLsbD k) = (c.getLsbD k != r.getLsbD 0) := by cases r.getLsbD 0 <;> cases c.getLsbD k <;> rfl
    rw [this, BitVec.xor_assoc, BitVec.xor_assoc]
    congr 1
    exact BitVec.xor_comm _ _
theorem rbyte_eq (n : BitVec 32) (c : BitVec 8) : rbyte n c = cmore1 n c := by
  rw [← crc_steps_byte, rbits_eq]
  have : (c.setWidth 32) >>> 8 = 0#32 := by
    apply BitVec.eq_of_getLsbD_eq
    intro i hi
    simp [BitVec.getLsbD_of_ge c (8 + i) (by omega)]
  rw [this, BitVec.xor_zero]
  rfl
theorem ones_sub (x : BitVec 32) : 4294967295#32 - x = ~~~ x := by
  apply BitVec.eq_of_toNat_eq
  have := x.isLt
  rw [BitVec.toNat_sub, BitVec.toNat_not]
  simp only [BitVec.toNat_ofNat]
  omega
theorem rsum_eq (b : List (BitVec 8)) : rsum b = csum b := by
  unfold rsum csum cmore
  rw [ones_sub]
  congr 1
  rw [show (~~~ (0#32)) = 4294967295#32 by decide]
  congr 1
  funext n c
  exact rbyte_eq n c
theorem crc_more_sum (a b : List (BitVec 8)) : cmore (csum a) b = csum (a ++ b) := by
  unfold csum cmore
  rw [BitVec.not_not, List.foldl_append]
theorem low8 (n : BitVec 32) : (n % 256#32).setWidth 8 = n.setWidth 8 := by
  apply BitVec.eq_of_toNat_eq
  simp only [BitVec.toNat_setWidth, BitVec.toNat_umod, BitVec.toNat_ofNat]
  show n.toNat % 256 % 256 = n.toNat % 256
  omega
theorem by8 (n : BitVec 32) : n / 256#32 = n >>> 8 := by
  apply BitVec.eq_of_toNat_eq
  rw [BitVec.toNat_udiv, BitVec.toNat_ushiftRight, Nat.shiftRight_eq_div_pow]
  rfl
theorem rfour_eq (n : BitVec 32) : rfour n 4 = cfour n := by
  simp only [rfour, rdiv, cfour, low8, by8, List.nil_append, List.cons_append, ← BitVec.shiftRight_add]
theorem crc_seal_eq (b : List (BitVec 8)) : cseal b = rseal b := by
  rw [cseal, rseal, rfour_eq, rsum_eq]
theorem crc_fits_eq (b : List (BitVec 8)) : cfits b = rfits b := by
  unfold cfits rfits
  by_cases h : 4 ≤ b.length
  · rw [decide_eq_true h, Bool.true_and, Bool.true_and, decide_eq_decide, ← crc_seal_eq, cseal]
    constructor
    · intro e
      rw [e, List.take_append_drop]
    · intro e
      have := congrArg (List.drop (b.length - 4)) e
      rw [List.drop_append_of_le_length (by simp), List.drop_of_length_le (by simp), List.nil_append] at this
      exact this
  · rw [decide_eq_false h]; rfl
theorem cdigit (n : BitVec 32) : n = (n.setWidth 8).setWidth 32 + (n >>> 8) * 256#32 := by
  apply BitVec.eq_of_toNat_eq
  have := n.isLt
  rw [BitVec.toNat_add, BitVec.toNat_mul, BitVec.toNat_setWidth, BitVec.toNat_setWidth, BitVec.toNat_ushiftRight, Nat.shiftRight_eq_div_pow]
  show n.toNat = (n.toNat % 256 % 4294967296 + n.toNat / 256 * 256 % 4294967296) % 4294967296
  omega
theorem ctop (n : BitVec 32) : n >>> 24 = ((n >>> 24).setWidth 8).setWidth 32 := by
  apply BitVec.eq_of_getLsbD_eq
  intro i hi
  simp only [BitVec.getLsbD_setWidth, BitVec.getLsbD_ushiftRight, hi, decide_true, Bool.true_and]
  by_cases h : i < 8
  · simp [h]
  · simp [h, BitVec.getLsbD_of_ge n (24 + i) (by omega)]
theorem crc_four_back (n : BitVec 32) : (n.setWidth 8).setWidth 32 + ((n >>> 8).setWidth 8).setWidth 32 * 256#32 + ((n >>> 16).setWidth 8).setWidth 32 * 65536#32 + ((n >>> 24).setWidth 8).setWidth 32 * 16777216#32 = n := by
  have h1 := cdigit n
  have h2 := cdigit (n >>> 8)
  have h3 := cdigit (n >>> 16)
  rw [← BitVec.shiftRight_add] at h2 h3
  rw [← ctop n]
  rw [show (65536#32 : BitVec 32) = 256#32 * 256#32 by decide, show (16777216#32 : BitVec 32) = 256#32 * 256#32 * 256#32 by decide]
  generalize (n.setWidth 8).setWidth 32 = a at *
  generalize ((n >>> 8).setWidth 8).setWidth 32 = b at *
  generalize ((n >>> 16).setWidth 8).setWidth 32 = c at *
  generalize n >>> 24 = d at *
  generalize n >>> 16 = e at *
  generalize n >>> 8 = f at *
  rw [h1, h2, h3]
  simp only [BitVec.add_mul, BitVec.mul_assoc, BitVec.add_assoc]
/-! three rows together -/
def xor3 (a b c : List (BitVec 8)) : List (BitVec 8) := (List.zip a (List.zip b c)).map fun p => p.1 ^^^ p.2.1 ^^^ p.2.2
theorem crc_column_xor (x y : BitVec 8) : ccol (x ^^^ y) = ccol x ^^^ ccol y := by
  unfold ccol
  rw [← crc_steps_xor]
  congr 1
theorem crc_more1_xor (n m : BitVec 32) (x y : BitVec 8) : cmore1 (n ^^^ m) (x ^^^ y) = cmore1 n x ^^^ cmore1 m y := by
  unfold cmore1
  have e : (n ^^^ m).setWidth 8 ^^^ (x ^^^ y) = (n.setWidth 8 ^^^ x) ^^^ (m.setWidth 8 ^^^ y) := by
    have : (n ^^^ m).setWidth 8 = n.setWidth 8 ^^^ m.setWidth 8 := by
      apply BitVec.eq_of_getLsbD_eq
      intro i hi
      simp [hi]
    rw [this]
    ac_rfl
  rw [e, crc_column_xor, BitVec.ushiftRight_xor_distrib]
  ac_rfl
theorem crc_fold_xor : ∀ (a b c : List (BitVec 8)) (n m k : BitVec 32), a.length = b.length → a.length = c.length → (xor3 a b c).foldl cmore1 (n ^^^ m ^^^ k) = a.foldl cmore1 n ^^^ b.foldl cmore1 m ^^^ c.foldl cmore1 k
  | [], [], [], n, m, k, _, _ => rfl
  | x :: a, y :: b, z :: c, n, m, k, h1, h2 => by
    have ih := crc_fold_xor a b c (cmore1 n x) (cmore1 m y) (cmore1 k z) (by simpa using h1) (by simpa using h2)
    show (xor3 a b c).foldl cmore1 (cmore1 (n ^^^ m ^^^ k) (x ^^^ y ^^^ z)) = _
    rw [crc_more1_xor, crc_more1_xor, ih]
    rfl
  | [], _ :: _, _, _, _, _, h1, _ => by simp at h1
  | [], [], _ :: _, _, _, _, _, h2 => by simp at h2
  | _ :: _, [], _, _, _, _, h1, _ => by simp at h1
  | _ :: _, _ :: _, [], _, _, _, _, h2 => by simp at h2
theorem crc_sum_xor3 (a b c : List (BitVec 8)) (h1 : a.length = b.length) (h2 : a.length = c.length) : csum a ^^^ csum b ^^^ csum c = csum (xor3 a b c) := by
  unfold csum cmore
  have := crc_fold_xor a b c (~~~ 0#32) (~~~ 0#32) (~~~ 0#32) h1 h2
  rw [show ((~~~ 0#32) ^^^ (~~~ 0#32) ^^^ (~~~ 0#32)) = (~~~ 0#32) by decide] at this
  rw [this]
  generalize List.foldl cmore1 (~~~ 0#32) a = x
  generalize List.foldl cmore1 (~~~ 0#32) b = y
  generalize List.foldl cmore1 (~~~ 0#32) c = z
  apply BitVec.eq_of_getLsbD_eq
  intro i hi
  simp [hi]

/-! ### bit by bit; bits side by side that are turned -/
def bstep (n : BitVec 32) (b : Bool) : BitVec 32 := cstep (n ^^^ (if b = true then 1#32 else 0#32))
theorem shift_split (z : BitVec 32) (k : Nat) : z >>> k = (if z.getLsbD k = true then 1#32 else 0#32) ^^^ (z >>> (k + 1)) <<< 1 := by
  apply BitVec.eq_of_getLsbD_eq
  intro i hi
  simp only [BitVec.getLsbD_xor, BitVec.getLsbD_ushiftRight, BitVec.getLsbD_shiftLeft]
  by_cases h0 : i = 0
  · subst h0
    cases z.getLsbD k <;> simp
  · have e : k + 1 + (i - 1) = k + i := by omega
    have h1 : ¬ i < 1 := by omega
    rw [e]
    have : ((if z.getLsbD k = true then 1#32 else 0#32) : BitVec 32).getLsbD i = false := by
      split <;> simp [BitVec.getLsbD_one, h0]
    rw [this]
    simp [h1, hi]
theorem csteps_bits (n z : BitVec 32) : ∀ k, csteps k (n ^^^ z) = ((List.range k).map z.getLsbD).foldl bstep n ^^^ z >>> k
  | 0 => by simp [csteps]
  | k + 1 => by
    rw [csteps, csteps_bits n z k, List.range_succ, List.map_append, List.foldl_append]
    simp only [List.map_cons, List.map_nil, List.foldl_cons, List.foldl_nil]
    generalize ((List.range k).map z.getLsbD).foldl bstep n = f
    rw [shift_split z k, ← BitVec.xor_assoc, crc_step_xor]
    unfold bstep
    congr 1
    rw [crc_step_even _ (by simp [BitVec.getLsbD_shiftLeft])]
    apply BitVec.eq_of_getLsbD_eq
    intro i hi
    simp only [BitVec.getLsbD_ushiftRight, BitVec.getLsbD_shiftLeft]
    by_cases h : 1 + i < 32
    · have e : 1 + i - 1 = i := by omega
      have h1 : ¬ (1 + i < 1) := by omega
      simp [h, e, h1]
    · have : i = 31 := by omega
      subst this
      simp [BitVec.getLsbD_of_ge z (k + 1 + 31) (by omega)]
def bits8 (c : BitVec 8) : List Bool := (List.range 8).map c.getLsbD
def bits32 (w : BitVec 32) : List Bool := (List.range 32).map w.getLsbD
theorem more1_bits (n : BitVec 32) (c : BitVec 8) : cmore1 n c = (bits8 c).foldl bstep n := by
  rw [← crc_steps_byte, csteps_bits]
  have : (c.setWidth 32) >>> 8 = 0#32 := by
    apply BitVec.eq_of_getLsbD_eq
    intro i hi
    simp [BitVec.getLsbD_of_ge c (8 + i) (by omega)]
  rw [this, BitVec.xor_zero]
  have e : (List.range 8).map (c.setWidth 32 : BitVec 32).getLsbD = bits8 c := by
    unfold bits8
    apply List.map_congr_left
    intro i hi
    have : i < 8 := by simpa using hi
    simp [show i < 32 by omega]
  rw [e]
theorem word_bits (n w : BitVec 32) : csteps 32 (n ^^^ w) = (bits32 w).foldl bstep n := by
  rw [csteps_bits]
  have : w >>> 32 = 0#32 := by
    apply BitVec.eq_of_getLsbD_eq
    intro i hi
    simp [BitVec.getLsbD_of_ge w (32 + i) (by omega)]
  rw [this, BitVec.xor_zero]; rfl
theorem fold_bits : ∀ (b : List (BitVec 8)) (n : BitVec 32), b.foldl cmore1 n = (b.flatMap bits8).foldl bstep n
  | [], n => rfl
  | c :: b, n => by
    rw [List.foldl_cons, fold_bits b, List.flatMap_cons, List.foldl_append, more1_bits]
theorem four_bits (n : BitVec 32) : (cfour n).flatMap bits8 = bits32 n := by
  unfold cfour bits32 bits8
  simp only [List.flatMap_cons, List.flatMap_nil, List.append_nil]
  rw [show List.range 32 = List.range 8 ++ ((List.range 8).map (8 + ·) ++ ((List.range 8).map (16 + ·) ++ (List.range 8).map (24 + ·))) from by decide]
  simp only [List.map_append, List.map_map]
  have key : ∀ k : Nat, ((List.range 8).map ((n >>> k).setWidth 8 : BitVec 8).getLsbD) = (List.range 8).map (n.getLsbD ∘ (k + ·)) := by
    intro k
    apply List.map_congr_left
    intro i hi
    have : i < 8 := by simpa using hi
    simp [this]
  have k0 : ((List.range 8).map (n.setWidth 8 : BitVec 8).getLsbD) = (List.range 8).map n.getLsbD := by
    apply List.map_congr_left
    intro i hi
    have : i < 8 := by simpa using hi
    simp [this]
  rw [k0, key 8, key 16, key 24]
theorem bstep_xor (n m : BitVec 32) (a b : Bool) : bstep (n ^^^ m) (a ^^ b) = bstep n a ^^^ bstep m b := by
  unfold bstep
  rw [← crc_step_xor]
  congr 1
  cases a <;> cases b <;> simp only [Bool.xor_false, Bool.false_xor, Bool.xor_self, Bool.xor_true, Bool.not_false, if_true, Bool.false_eq_true, if_false, BitVec.xor_zero]
  all_goals first
    | ac_rfl
    | rw [BitVec.xor_assoc n 1#32, ← BitVec.xor_assoc 1#32 m, BitVec.xor_comm 1#32 m, BitVec.xor_assoc m, BitVec.xor_self, BitVec.xor_zero]
theorem bfold_xor : ∀ (a b : List Bool) (n m : BitVec 32), a.length = b.length → (List.zipWith (· ^^ ·) a b).foldl bstep (n ^^^ m) = a.foldl bstep n ^^^ b.foldl bstep m
  | [], [], _, _, _ => rfl
  | x :: a, y :: b, n, m, h => by
    simp only [List.zipWith_cons_cons, List.foldl_cons, bstep_xor]
    exact bfold_xor a b _ _ (by simpa using h)
  | [], _ :: _, _, _, h => by simp at h
  | _ :: _, [], _, _, h => by simp at h
theorem cstep_inj {n : BitVec 32} (h : cstep n = 0#32) : n = 0#32 := by
  rw [crc_step_eq] at h
  by_cases h0 : n.getLsbD 0 = true
  · rw [if_pos h0] at h
    have := congrArg (fun x => x.getLsbD 31) h
    simp [BitVec.getLsbD_of_ge n 32 (by omega)] at this
  · rw [if_neg h0, BitVec.xor_zero] at h
    apply BitVec.eq_of_getLsbD_eq
    intro i hi
    rcases Nat.eq_zero_or_pos i with hz | hz
    · subst hz; simpa using h0
    · have := congrArg (fun x => x.getLsbD (i - 1)) h
      simp only [BitVec.getLsbD_ushiftRight] at this
      rw [show 1 + (i - 1) = i by omega] at this
      simpa using this
theorem csteps_inj : ∀ {k : Nat} {n : BitVec 32}, csteps k n = 0#32 → n = 0#32
  | 0, n, h => h
  | k + 1, n, h => csteps_inj (k := k) (cstep_inj h)
theorem bfold_zeros (n : BitVec 32) : ∀ k, (List.replicate k false).foldl bstep n = csteps k n := by
  have key : ∀ k (n : BitVec 32), csteps k (cstep n) = cstep (csteps k n) := by
    intro k
    induction k with
    | zero => intro n; rfl
    | succ k ih => intro n; rw [csteps, ih, csteps]
  intro k
  induction k generalizing n with
  | zero => rfl
  | succ k ih =>
    rw [List.replicate_succ, List.foldl_cons, ih, csteps, ← key]
    simp [bstep]
theorem csteps_zero : ∀ k, csteps k 0#32 = 0#32
  | 0 => rfl
  | k + 1 => by rw [csteps, csteps_zero k]; rfl
/-- Bits side by side that are turned are seen. -/
theorem burst {k m : Nat} {w : BitVec 32} (h : (List.replicate k false ++ (bits32 w ++ List.replicate m false)).foldl bstep 0#32 = 0#32) : w = 0#32 := by
  rw [List.foldl_append, List.foldl_append, bfold_zeros 0#32 k, csteps_zero, ← word_bits, bfold_zeros, BitVec.zero_xor] at h
  exact csteps_inj (csteps_inj h)
/-- What bytes with their sum behind come to. -/
theorem sealed_fold (b : List (BitVec 8)) : (b ++ cfour (csum b)).foldl cmore1 (~~~ 0#32) = csteps 32 (~~~ 0#32) := by
  rw [List.foldl_append, fold_bits (cfour _), four_bits, ← word_bits]
  congr 1
  unfold csum cmore
  generalize b.foldl cmore1 (~~~ 0#32) = x
  apply BitVec.eq_of_getLsbD_eq
  intro i hi
  simp only [BitVec.getLsbD_xor, BitVec.getLsbD_not, hi, decide_true, Bool.true_and, BitVec.getLsbD_zero]
  cases x.getLsbD i <;> rfl
theorem fits_fold {s : List (BitVec 8)} (h : cfits s = true) : s.foldl cmore1 (~~~ 0#32) = csteps 32 (~~~ 0#32) := by
  unfold cfits at h
  simp only [Bool.and_eq_true, decide_eq_true_eq] at h
  have : s = s.take (s.length - 4) ++ cfour (csum (s.take (s.length - 4))) := by rw [h.2, List.take_append_drop]
  rw [this]
  exact sealed_fold _
def bitAt (s : List (BitVec 8)) (p : Nat) : Bool := (s.getD (p / 8) 0#8).getLsbD (p % 8)
theorem bits_at : ∀ (s : List (BitVec 8)), s.flatMap bits8 = (List.range (8 * s.length)).map (bitAt s)
  | [] => rfl
  | c :: s => by
    rw [List.flatMap_cons, bits_at s, List.length_cons, show 8 * (s.length + 1) = 8 + 8 * s.length by omega, List.range_add, List.map_append, List.map_map]
    have e1 : bits8 c = (List.range 8).map (bitAt (c :: s)) := by
      unfold bits8
      apply List.map_congr_left
      intro i hi
      have : i < 8 := by simpa using hi
      simp [bitAt, Nat.div_eq_of_lt this, Nat.mod_eq_of_lt this]
    have e2 : (List.range (8 * s.length)).map (bitAt s) = (List.range (8 * s.length)).map (bitAt (c :: s) ∘ fun x => 8 + x) := by
      apply List.map_congr_left
      intro i hi
      simp only [bitAt, Function.comp]
      rw [show (8 + i) / 8 = i / 8 + 1 by omega, show (8 + i) % 8 = i % 8 by omega]
      rfl
    rw [e1, e2]
def turned (k : Nat) (w : BitVec 32) (p : Nat) : Bool := decide (k ≤ p ∧ p < k + 32) && w.getLsbD (p - k)
theorem turned_list {k n : Nat} (w : BitVec 32) (h : k + 32 ≤ n) : (List.range n).map (turned k w) = List.replicate k false ++ (bits32 w ++ List.replicate (n - k - 32) false) := by
  apply List.ext_getElem?
  intro i
  simp only [List.getElem?_map, List.getElem?_append, List.getElem?_replicate, List.length_replicate, bits32, List.length_map, List.length_range]
  by_cases h1 : i < k
  · rw [if_pos h1, List.getElem?_range (by omega)]
    simp [turned, h1, show ¬ k ≤ i by omega]
  · rw [if_neg h1]
    by_cases h2 : i - k < 32
    · rw [if_pos h2, List.getElem?_range (by omega), List.getElem?_range h2]
      simp [turned, show k ≤ i by omega, show i < k + 32 by omega]
    · rw [if_neg h2]
      by_cases h3 : i < n
      · rw [List.getElem?_range h3, if_pos (by omega)]
        simp [turned, show ¬ i < k + 32 by omega]
      · rw [if_neg (by omega), List.getElem?_eq_none (by simp; omega)]; rfl
/-- Spoilt bytes are told. -/
theorem tells {s t : List (BitVec 8)} {k : Nat} {w : BitVec 32} (hw : w ≠ 0#32) (hl : t.length = s.length) (hk : k + 32 ≤ 8 * s.length) (hs : cfits s = true) (ht : ∀ p, p < 8 * s.length → bitAt t p = (bitAt s p ^^ turned k w p)) : cfits t = false := by
  cases hf : cfits t with
  | false => rfl
  | true =>
    exfalso
    apply hw
    have e1 := fits_fold hs
    have e2 := fits_fold hf
    rw [fold_bits, bits_at] at e1 e2
    rw [hl] at e2
    have e3 : (List.range (8 * s.length)).map (bitAt t) = List.zipWith (· ^^ ·) ((List.range (8 * s.length)).map (bitAt s)) ((List.range (8 * s.length)).map (turned k w)) := by
      rw [List.zipWith_map, List.zipWith_self]
      exact List.map_congr_left (fun p hp => ht p (by simpa using hp))
    have e4 := bfold_xor ((List.range (8 * s.length)).map (bitAt s)) ((List.range (8 * s.length)).map (turned k w)) (~~~ 0#32) 0#32 (by simp)
    rw [← e3, BitVec.xor_zero, e1, e2] at e4
    have e5 : ((List.range (8 * s.length)).map (turned k w)).foldl bstep 0#32 = 0#32 := by
      generalize ((List.range (8 * s.length)).map (turned k w)).foldl bstep 0#32 = x at e4
      generalize csteps 32 (~~~ 0#32) = r at e4
      have := congrArg (r ^^^ ·) e4
      simp only [BitVec.xor_self, ← BitVec.xor_assoc, BitVec.zero_xor] at this
      exact this.symm
    rw [turned_list w hk] at e5
    exact burst e5
end Go.Va
namespace Go.Proofs.YthkfilchighbhaaDoor
open Go Go.Va
set_option linter.unusedVariables false
set_option linter.unusedSimpArgs false
theorem column_eq (c : BitVec 8) : checksum_column c = some (ccol c) := by
  have k := loopO_up (body := fun s => checksum_column_b0 s.1 s.2) (fun i : Nat => (csteps i (c.setWidth 32), (i : Int))) 8 (x := ccol c) (fun i hi => by
    simp only [checksum_column_b0, lt_eq]
    rw [if_pos (decide_eq_true (by omega)), w64_nat (by omega)]
    rw [show csteps (i + 1) (c.setWidth 32) = cstep (csteps i (c.setWidth 32)) from rfl]
    unfold cstep
    by_cases h : csteps i (c.setWidth 32) &&& 1#32 = 1#32
    · rw [if_pos (by simpa using h), if_pos h]
    · rw [if_neg (by simpa using h), if_neg h]) (by
    simp only [checksum_column_b0, lt_eq]
    rw [if_neg (by simp)]
    rfl)
  have k' : checksum_column_l0 (c.setWidth 32, 0) = some (ccol c) := k
  unfold checksum_column
  simp only [lt_eq, k', Option.bind_some]
theorem more_eq (n : BitVec 32) {b : List (BitVec 8)} (hb : b.length ≤ 1000000000) : checksum_More n b = some (cmore n b) := by
  have k := loopO_up (body := fun s => checksum_More_b0 b (b.length : Int) s.1 s.2) (fun i : Nat => ((b.take i).foldl cmore1 (~~~ n), (i : Int))) b.length (x := b.foldl cmore1 (~~~ n)) (fun i hi => by
    simp only [checksum_More_b0, lt_eq]
    rw [if_pos (decide_eq_true (by omega)), ix_nat hi]
    simp only [Option.bind_some, column_eq]
    rw [w64_nat (by omega), List.take_add_one, List.getElem?_eq_getElem hi, List.foldl_append]
    rfl) (by
    simp only [checksum_More_b0, lt_eq, List.take_length]
    rw [if_neg (by rw [decide_eq_false (by omega)]; simp)])
  have k' : checksum_More_l0 b (b.length : Int) (~~~ n, 0) = some (b.foldl cmore1 (~~~ n)) := k
  unfold checksum_More
  simp only [lt_eq, k', Option.bind_some]
  rfl
theorem sum_eq {b : List (BitVec 8)} (hb : b.length ≤ 1000000000) : checksum_Sum b = some (csum b) := by
  unfold checksum_Sum
  simp only [more_eq _ hb, Option.bind_some]
  rfl
theorem four_eq (n : BitVec 32) : checksum_Four n = some (cfour n) := by
  unfold checksum_Four
  simp only [lt_eq]
  rw [stW_eq (by simp) (by simp)]
  rfl
theorem cfour_len (n : BitVec 32) : (cfour n).length = 4 := rfl
theorem cseal_len (b : List (BitVec 8)) : (cseal b).length = b.length + 4 := by simp [cseal, cfour_len]
theorem seal_eq {b : List (BitVec 8)} (hb : b.length ≤ 1000000000) : checksum_Seal b = some (cseal b) := by
  unfold checksum_Seal
  simp only [sum_eq hb, four_eq, Option.bind_some]
  rw [stW_eq (by simp) (cfour_len _)]
  simp only [Option.bind_some]
  rw [app_eq (by simp; omega), whole_eq (cfour_len _)]
  simp only [Option.bind_some, List.nil_append]
  rw [app_eq (by simp [cfour_len]; omega)]
  rfl
theorem fits_eq {b : List (BitVec 8)} (hb : b.length ≤ 1000000000) : checksum_Fits b = some (cfits b) := by
  unfold checksum_Fits cfits
  simp only [lt_eq]
  rw [w64_eq (by omega) (by omega)]
  by_cases h : 4 ≤ b.length
  · rw [if_neg (by rw [decide_eq_false (by omega)]; simp), show (b.length : Int) - 4 = ((b.length - 4 : Nat) : Int) by omega, cutTo_eq (by omega), cutFrom_eq (by omega)]
    simp only [Option.bind_some]
    rw [sum_eq (by rw [List.length_take]; omega)]
    simp only [Option.bind_some, four_eq]
    rw [show (4 : Int) = ((4 : Nat) : Int) from rfl, cutTo_eq (by rw [List.length_drop]; omega)]
    have hl : ((b.drop (b.length - 4)).take 4).length = 4 := by rw [List.length_take, List.length_drop]; omega
    simp only [Option.bind_some]
    rw [whole_eq hl]
    simp only [Option.bind_some]
    rw [eqA_eq (cfour_len _) hl]
    have ht : (b.drop (b.length - 4)).take 4 = b.drop (b.length - 4) := List.take_of_length_le (by rw [List.length_drop]; omega)
    rw [ht]
    simp only [Option.bind_some, decide_eq_true h, Bool.true_and]
    congr 1
    exact Bool.eq_iff_iff.2 (by simp)
  · rw [if_pos (decide_eq_true (by omega)), decide_eq_false h]
    rfl
theorem cseal_fits (b : List (BitVec 8)) : cfits (cseal b) = true := by
  unfold cfits
  rw [cseal_len, decide_eq_true (by omega), show b.length + 4 - 4 = b.length by omega]
  unfold cseal
  rw [List.take_left, List.drop_left]
  simp
end Go.Proofs.YthkfilchighbhaaDoor
namespace Go.Proofs.YthkfilchighbhaaDoor
open Go Go.Va
set_option linter.unusedVariables false
set_option linter.unusedSimpArgs false
set_option maxRecDepth 20000
noncomputable def butteryref03_Sum_b1 (x0 : List (BitVec 8)) (c2 : Int) (c17 : BitVec 32) (c18 : Int) : Option (((BitVec 32) × Int) ⊕ ((BitVec 32))) :=
  lt (decide (c18 < (8 : Int))) fun v29 =>
  if v29 = true then
    (ix x0 c2).bind fun v32 =>
    ((sc c18).map fun m => v32 >>> m).bind fun v34 =>
    lt (BitVec.setWidth 32 v34) fun v36 =>
    lt (v36 % 2#32) fun v38 =>
    lt (c17 % 2#32) fun v40 =>
    lt (c17 / 2#32) fun v42 =>
    lt (v38 != v40) fun v44 =>
    if v44 = true then
      lt (v42 ^^^ 3988292384#32) fun v47 =>
      lt (w64 (c18 + (1 : Int))) fun v49 =>
      some (.inl (v47, v49))
    else
      lt (w64 (c18 + (1 : Int))) fun v51 =>
      some (.inl (v42, v51))
  else
    some (.inr c17)
noncomputable def butteryref03_Sum_l1 (x0 : List (BitVec 8)) (c2 : Int) (s : (BitVec 32) × Int) : Option ((BitVec 32)) := loopO (fun s => butteryref03_Sum_b1 x0 c2 s.1 s.2) s
noncomputable def butteryref03_Sum_b0 (x0 : List (BitVec 8)) (c1 : BitVec 32) (c2 : Int) : Option (((BitVec 32) × Int) ⊕ ((BitVec 32))) :=
  lt (((x0).length : Int)) fun v13 =>
  lt (decide (c2 < v13)) fun v15 =>
  if v15 = true then
    (butteryref03_Sum_l1 x0 c2 (c1, (0 : Int))).bind fun s26 =>
      lt (w64 (c2 + (1 : Int))) fun v54 =>
      some (.inl (s26, v54))
  else
    some (.inr c1)
noncomputable def butteryref03_Sum_l0 (x0 : List (BitVec 8)) (s : (BitVec 32) × Int) : Option ((BitVec 32)) := loopO (fun s => butteryref03_Sum_b0 x0 s.1 s.2) s
noncomputable def butteryref03_Sum (x0 : List (BitVec 8)) : Option ((BitVec 32)) :=
  (butteryref03_Sum_l0 x0 (4294967295#32, (0 : Int))).bind fun s10 =>
    lt (4294967295#32 - s10) fun v57 =>
    some v57
end Go.Proofs.YthkfilchighbhaaDoor
namespace Go.Proofs.YthkfilchighbhaaDoor
open Go Go.Va
set_option linter.unusedVariables false
set_option linter.unusedSimpArgs false
set_option maxRecDepth 20000
noncomputable def butteryref03_Seal_b0  (c7 : List (BitVec 8)) (c8 : BitVec 32) (c9 : Int) : Option (((List (BitVec 8)) × (BitVec 32) × Int) ⊕ ((List (BitVec 8)))) :=
  lt (decide (c9 < (4 : Int))) fun v20 =>
  if v20 = true then
    lt (c8 % 256#32) fun v23 =>
    lt (BitVec.setWidth 8 v23) fun v25 =>
    lt (([v25] : List (BitVec 8))) fun v27 =>
    (app 1 c7 v27).bind fun v29 =>
    lt (c8 / 256#32) fun v33 =>
    lt (w64 (c9 + (1 : Int))) fun v35 =>
    some (.inl (v29, v33, v35))
  else
    some (.inr c7)
noncomputable def butteryref03_Seal_l0  (s : (List (BitVec 8)) × (BitVec 32) × Int) : Option ((List (BitVec 8))) := loopO (fun s => butteryref03_Seal_b0 s.1 s.2.1 s.2.2) s
noncomputable def butteryref03_Seal (x0 : List (BitVec 8)) : Option ((List (BitVec 8))) :=
  (app 1 ([] : List (BitVec 8)) x0).bind fun v2 =>
  (butteryref03_Sum x0).bind fun v6 =>
  (butteryref03_Seal_l0 (v2, v6, (0 : Int))).bind fun s17 =>
    some s17
end Go.Proofs.YthkfilchighbhaaDoor
namespace Go.Proofs.YthkfilchighbhaaDoor
open Go Go.Va
set_option linter.unusedVariables false
set_option linter.unusedSimpArgs false
set_option maxRecDepth 20000
noncomputable def butteryref03_Fits_b0 (x0 : List (BitVec 8)) (v11 : List (BitVec 8)) (c12 : Int) : Option ((Int) ⊕ (Unit ⊕ (Bool))) :=
  lt (((x0).length : Int)) fun v23 =>
  lt (decide (c12 < v23)) fun v25 =>
  if v25 = true then
    (ix v11 c12).bind fun v28 =>
    (ix x0 c12).bind fun v30 =>
    lt (v28 != v30) fun v32 =>
    if v32 = true then
      some (.inr (.inr false))
    else
      lt (w64 (c12 + (1 : Int))) fun v36 =>
      some (.inl v36)
  else
    some (.inr (.inl ()))
noncomputable def butteryref03_Fits_l0 (x0 : List (BitVec 8)) (v11 : List (BitVec 8)) (s : Int) : Option (Unit ⊕ (Bool)) := loopO (fun s => butteryref03_Fits_b0 x0 v11 s) s
noncomputable def butteryref03_Fits (x0 : List (BitVec 8)) : Option (Bool) :=
  lt (((x0).length : Int)) fun v2 =>
  lt (w64 (v2 - (4 : Int))) fun v4 =>
  lt (decide (v4 < (0 : Int))) fun v6 =>
  if v6 = true then
    some false
  else
    (cutTo x0 v4).bind fun v9 =>
    (butteryref03_Seal v9).bind fun v11 =>
    (butteryref03_Fits_l0 x0 v11 (0 : Int)).bind fun o13 =>
      Sum.elim (fun s20 : Unit =>
        some true
        ) (fun y => some y) o13
end Go.Proofs.YthkfilchighbhaaDoor
namespace Go.Proofs.YthkfilchighbhaaDoor
open Go Go.Va
set_option linter.unusedVariables false
set_option linter.unusedSimpArgs false
theorem rcSum_eq {b : List (BitVec 8)} (hb : b.length ≤ 1000000000) : butteryref03_Sum b = some (csum b) := by
  have inner : ∀ (n : BitVec 32) (i : Nat) (hi : i < b.length), butteryref03_Sum_l1 b (i : Int) (n, 0) = some (rbyte n b[i]) := fun n i hi => by
    have k := loopO_up (body := fun s => butteryref03_Sum_b1 b (i : Int) s.1 s.2) (fun j : Nat => (rbits b[i] n j, (j : Int))) 8 (x := rbyte n b[i]) (fun j hj => by
      simp only [butteryref03_Sum_b1, lt_eq, ix_nat hi, sc_nat, Option.map_some, Option.bind_some]
      rw [if_pos (decide_eq_true (by omega)), w64_nat (by omega)]
      rw [show rbits b[i] n (j + 1) = rbit b[i] j (rbits b[i] n j) from rfl]
      unfold rbit
      by_cases h : (b[i] >>> j).setWidth 32 % 2#32 = rbits b[i] n j % 2#32
      · rw [if_neg (by rw [h]; simp), if_pos h]
      · rw [if_pos (bne_iff_ne.2 h), if_neg h]) (by
      simp only [butteryref03_Sum_b1, lt_eq]
      rw [if_neg (by simp)]
      rfl)
    exact k
  have k := loopO_foldl b rbyte id (body := fun s => butteryref03_Sum_b0 b s.1 s.2) (fun s i hi => by
    simp only [butteryref03_Sum_b0, lt_eq]
    rw [if_pos (decide_eq_true (by omega)), inner _ _ hi]
    simp only [Option.bind_some]
    rw [w64_nat (by omega)]) (fun s => by
    simp only [butteryref03_Sum_b0, lt_eq]
    rw [if_neg (by simp)]
    rfl) 4294967295#32
  have k' : butteryref03_Sum_l0 b (4294967295#32, 0) = some (b.foldl rbyte 4294967295#32) := k
  unfold butteryref03_Sum
  simp only [lt_eq, k', Option.bind_some]
  rw [← rsum_eq]
  rfl
theorem rcSeal_eq {b : List (BitVec 8)} (hb : b.length ≤ 1000000000) : butteryref03_Seal b = some (cseal b) := by
  have k := loopO_up (body := fun s => butteryref03_Seal_b0 s.1 s.2.1 s.2.2) (fun i : Nat => (b ++ rfour (csum b) i, rdiv (csum b) i, (i : Int))) 4 (x := b ++ rfour (csum b) 4) (fun i hi => by
    simp only [butteryref03_Seal_b0, lt_eq]
    have hl := rfour_len (csum b) i
    rw [if_pos (decide_eq_true (by omega)), app_eq (by simp [hl]; omega)]
    simp only [Option.bind_some]
    rw [w64_nat (by omega), List.append_assoc]
    rfl) (by
    simp only [butteryref03_Seal_b0, lt_eq]
    rw [if_neg (by simp)])
  have k' : butteryref03_Seal_l0 (b, csum b, 0) = some (b ++ rfour (csum b) 4) := by
    have := k
    simp only [rfour, rdiv, List.append_nil] at this ⊢
    exact this
  unfold butteryref03_Seal
  rw [app_eq (by simp; omega)]
  simp only [Option.bind_some, rcSum_eq hb, List.nil_append, k']
  rw [rfour_eq]
  rfl
theorem rcFits_l {x y : List (BitVec 8)} (hx : x.length < 9223372036854775807) (hl : x.length = y.length) : (butteryref03_Fits_l0 x y 0).bind (fun o => Sum.elim (fun _ : Unit => some true) (fun y => some y) o) = some (decide (x = y)) := by
  have h := loopO_find (body := fun s => butteryref03_Fits_b0 x y s) (fun i : Nat => (i : Int)) x.length (fun i => if x[i]? ≠ y[i]? then some (Sum.inr false) else none) (x := .inl ()) (fun i hi => by
    simp only [butteryref03_Fits_b0, lt_eq, ix_nat hi, ix_nat (show i < y.length by omega), Option.bind_some]
    rw [if_pos (by simpa using hi)]
    by_cases he : x[i] = y[i]
    · rw [if_neg (by simp [he]), if_neg (by simp [hi, show i < y.length by omega, he]), w64_nat (by omega)]; rfl
    · rw [if_pos (by simpa using Ne.symm he), if_pos (by simp [hi, show i < y.length by omega, he])]; rfl) (by simp [butteryref03_Fits_b0, lt_eq])
  rw [show ((0 : Nat) : Int) = 0 from rfl] at h
  simp only [butteryref03_Fits_l0, h, Option.bind_some]
  by_cases he : x = y
  · rw [List.findSome?_eq_none_iff.2 (fun i _ => by rw [if_neg (by simp [he])])]
    simp [he]
  · cases hf : (List.range x.length).findSome? (fun i => if x[i]? ≠ y[i]? then some (Sum.inr (α := Unit) false) else none) with
    | none =>
      refine absurd (List.ext_getElem? fun i => ?_) he
      have h1 := List.findSome?_eq_none_iff.1 hf
      rcases Nat.lt_or_ge i x.length with hi | hi
      · have := h1 i (by simpa using hi)
        by_cases hc : x[i]? = y[i]?
        · exact hc
        · rw [if_pos hc] at this; cases this
      · rw [List.getElem?_eq_none hi, List.getElem?_eq_none (by omega)]
    | some v =>
      obtain ⟨i, _, hi⟩ := List.exists_of_findSome?_eq_some hf
      split at hi
      · cases hi; simp [he]
      · cases hi
theorem rcFits_eq {b : List (BitVec 8)} (hb : b.length ≤ 1000000000) : butteryref03_Fits b = some (cfits b) := by
  rw [crc_fits_eq]
  unfold butteryref03_Fits rfits
  simp only [lt_eq]
  rw [w64_eq (by omega) (by omega)]
  by_cases h : 4 ≤ b.length
  · rw [if_neg (by rw [decide_eq_false (by omega)]; simp), show (b.length : Int) - 4 = ((b.length - 4 : Nat) : Int) by omega, cutTo_eq (by omega)]
    simp only [Option.bind_some]
    rw [rcSeal_eq (by rw [List.length_take]; omega)]
    simp only [Option.bind_some]
    have hl : b.length = (cseal (b.take (b.length - 4))).length := by
      simp only [cseal, List.length_append, List.length_take, cfour, List.length_cons, List.length_nil]; omega
    rw [rcFits_l (by omega) hl, ← crc_seal_eq, decide_eq_true h, Bool.true_and]
    congr 1
    exact decide_eq_decide.2 ⟨fun h => h.symm, fun h => h.symm⟩
  · rw [if_pos (decide_eq_true (by omega)), decide_eq_false h]
    rfl
end Go.Proofs.YthkfilchighbhaaDoor
namespace Go.Proofs.YthkfilchighbhaaDoor
open Go Go.Va
set_option linter.unusedVariables false
set_option linter.unusedSimpArgs false
set_option maxRecDepth 20000
noncomputable def butteryref23_Put (x0 : api_Msg) : Option ((List (BitVec 8)) × Int) :=
  (butteryref23_Check x0).bind fun v2 =>
  lt (v2 != (0 : Int)) fun v4 =>
  if v4 = true then
    some ([], v2)
  else
    lt (([x0.Kind, x0.From, x0.To, x0.Epoch] : List Int)) fun v7 =>
    (butteryref02_Put [] v7).bind fun v9 =>
    (butteryref23_lease x0.Kind).bind fun v11 =>
    (
      if v11 = true then
        lt (([x0.Id] : List Int)) fun v18 =>
        (butteryref02_Put v9 v18).bind fun v20 =>
        some v20
      else
        some v9
     : Option ((List (BitVec 8)))).bind fun s12 =>
      (butteryref23_key x0.Kind).bind fun v23 =>
      (
        if v23 = true then
          (toBytes x0.X.Key).bind fun v30 =>
          (butteryref02_Bytes s12 v30).bind fun v32 =>
          some v32
        else
          some s12
       : Option ((List (BitVec 8)))).bind fun s24 =>
        (butteryref23_asof x0.Kind).bind fun v35 =>
        (
          if v35 = true then
            lt (([x0.X.AsOf] : List Int)) fun v42 =>
            (butteryref02_Put s24 v42).bind fun v44 =>
            some v44
          else
            some s24
         : Option ((List (BitVec 8)))).bind fun s36 =>
          (
            (butteryref23_found x0.Kind).bind fun v51 =>
            if v51 = true then
              some x0.Found
            else
              some false
           : Option (Bool)).bind fun s46 =>
            (
              if s46 = true then
                (butteryref02_Put s36 ([(1 : Int)] : List Int)).bind fun v60 =>
                some v60
              else
                some s36
             : Option ((List (BitVec 8)))).bind fun s54 =>
              (
                (butteryref23_found x0.Kind).bind fun v67 =>
                if v67 = true then
                  lt (!x0.Found) fun v70 =>
                  some v70
                else
                  some false
               : Option (Bool)).bind fun s62 =>
                (
                  if s62 = true then
                    (butteryref02_Put s54 ([(0 : Int)] : List Int)).bind fun v78 =>
                    some v78
                  else
                    some s54
                 : Option ((List (BitVec 8)))).bind fun s72 =>
                  (
                    lt (x0.Kind == (6 : Int)) fun v85 =>
                    if v85 = true then
                      some x0.Found
                    else
                      some false
                   : Option (Bool)).bind fun s80 =>
                    if s80 = true then
                      lt (([x0.X.Version, x0.X.Ends] : List Int)) fun v90 =>
                      (butteryref02_Put s72 v90).bind fun v92 =>
                      (butteryref02_Bytes v92 x0.X.Value).bind fun v94 =>
                      (butteryref03_Seal v94).bind fun v96 =>
                      some (v96, (0 : Int))
                    else
                      (butteryref03_Seal s72).bind fun v98 =>
                      some (v98, (0 : Int))
end Go.Proofs.YthkfilchighbhaaDoor
namespace Go.Proofs.YthkfilchighbhaaDoor
open Go Go.Va
set_option linter.unusedVariables false
set_option linter.unusedSimpArgs false
/-- Which parts a kind has. -/
def ptsA (k : Int) : List (BitVec 8) := if k = 2 then [65#8, 70#8] else if k = 3 ∨ k = 4 then [75#8, 65#8] else if k = 5 then [73#8, 75#8] else if k = 6 then [73#8, 75#8, 65#8, 70#8, 86#8] else []
theorem parts_eq (k : Int) : wire_parts k = some (ptsA k) := by
  unfold wire_parts ptsA
  simp only [lt_eq]
  by_cases h2 : k = 2
  · subst h2; rfl
  by_cases h3 : k = 3
  · subst h3; rfl
  by_cases h4 : k = 4
  · subst h4; rfl
  by_cases h5 : k = 5
  · subst h5; rfl
  by_cases h6 : k = 6
  · subst h6; rfl
  simp [h2, h3, h4, h5, h6]
theorem down_eq (k : Int) : wire_down k = some (decide (k = 2 ∨ k = 3 ∨ k = 6)) := by
  unfold wire_down
  simp only [lt_eq]
  by_cases h2 : k = 2
  · subst h2; rfl
  by_cases h3 : k = 3
  · subst h3; rfl
  by_cases h6 : k = 6
  · subst h6; rfl
  simp [h2, h3, h6]
theorem lease_eq (k : Int) : butteryref23_lease k = some (decide (k = 5 ∨ k = 6)) := by
  unfold butteryref23_lease
  simp only [lt_eq]
  by_cases h2 : k = 5
  · subst h2; rfl
  by_cases h3 : k = 6
  · subst h3; rfl
  simp [h2, h3]
theorem hkey_eq (k : Int) : butteryref23_key k = some (decide (k = 3 ∨ k = 4 ∨ k = 5 ∨ k = 6)) := by
  unfold butteryref23_key
  simp only [lt_eq]
  by_cases h1 : k ≥ 3
  · rw [if_pos (decide_eq_true h1)]
    congr 1
    exact decide_eq_decide.2 (by omega)
  · rw [if_neg (by rw [decide_eq_false h1]; simp), decide_eq_false (by omega)]
theorem asof_eq (k : Int) : butteryref23_asof k = some (decide (k = 2 ∨ k = 3 ∨ k = 4 ∨ k = 6)) := by
  unfold butteryref23_asof
  simp only [lt_eq]
  by_cases h2 : k = 2
  · subst h2; rfl
  by_cases h3 : k = 3
  · subst h3; rfl
  by_cases h4 : k = 4
  · subst h4; rfl
  by_cases h6 : k = 6
  · subst h6; rfl
  simp [h2, h3, h4, h6]
theorem hfound_eq (k : Int) : butteryref23_found k = some (decide (k = 2 ∨ k = 6)) := by
  unfold butteryref23_found
  simp only [lt_eq]
  by_cases h2 : k = 2
  · subst h2; rfl
  by_cases h3 : k = 6
  · subst h3; rfl
  simp [h2, h3]
/-- One part, looked at. -/
def stC (m : api_Msg) (c : BitVec 8) (r : api_Msg) : Int × api_Msg :=
  if c = 73#8 then (if m.Id < 1 ∨ m.Id > 1099511627776 then (2, r) else (0, { r with Id := 0 }))
  else if c = 75#8 then (if ckK m.X.Key ≠ 0 then (ckK m.X.Key, r) else (0, { r with X := { r.X with Key := [] } }))
  else if c = 65#8 then (if m.X.AsOf < 0 ∨ m.X.AsOf > 1099511627776 then (2, r) else (0, { r with X := { r.X with AsOf := 0 } }))
  else if c = 70#8 then (0, { r with Found := false })
  else (if m.Found = true then (if ckE m.X ≠ 0 then (ckE m.X, r) else (0, { r with X := zeroE })) else (0, r))
def ckL (m : api_Msg) : List (BitVec 8) → api_Msg → Int × api_Msg
  | [], r => (0, r)
  | c :: l, r => if (stC m c r).1 = 0 then ckL m l (stC m c r).2 else ((stC m c r).1, r)
def isP (c : BitVec 8) : Prop := c = 73#8 ∨ c = 75#8 ∨ c = 65#8 ∨ c = 70#8 ∨ c = 86#8
theorem ptsA_is (k : Int) : ∀ c ∈ ptsA k, isP c := by
  intro c hc
  unfold ptsA at hc
  unfold isP
  repeat' split at hc
  all_goals simp at hc
  all_goals first
    | (rcases hc with rfl | rfl | rfl | rfl | rfl <;> simp)
    | (rcases hc with rfl | rfl <;> simp)
theorem nxS_at {s l : List (BitVec 8)} {p : Nat} {c : BitVec 8} (h : s.drop p = c :: l) (hc : c.toNat < 128) : nxS (s, p) = some (some (c.toNat : Int)) ∧ s.drop (p + 1) = l := by
  obtain ⟨hp, h1, h2⟩ := drop_cons h
  refine ⟨?_, h2⟩
  unfold nxS
  simp only [List.getElem?_eq_getElem hp, h1]
  rw [if_pos hc]
theorem nxS_end {s : List (BitVec 8)} {p : Nat} (h : s.drop p = []) : nxS (s, p) = some none := by
  unfold nxS
  rw [List.getElem?_eq_none (List.drop_eq_nil_iff.1 h)]
theorem chk_l (m : api_Msg) : ∀ (l : List (BitVec 8)) (s : List (BitVec 8)) (p : Nat) (r : api_Msg), (∀ c ∈ l, isP c) → s.drop p = l →
    ∃ o, wire_Check_l0 m ((s, p), r) = some o ∧ ((ckL m l r).1 = 0 → ∃ q, o = .inl (q, (ckL m l r).2)) ∧ ((ckL m l r).1 ≠ 0 → ∃ e, o = .inr e ∧ codeOf e = (ckL m l r).1 ∧ e.isNil = false)
  | [], s, p, r, _, h => by
    refine ⟨.inl ((s, p), r), loopO_out (body := fun s => wire_Check_b0 m s.1 s.2) ?_, fun _ => ⟨_, rfl⟩, fun h => absurd rfl h⟩
    simp only [wire_Check_b0, nxS_end h, Option.bind_some, Option.elim_none]
  | c :: l, s, p, r, hl, h => by
    have hc := hl c (List.mem_cons_self ..)
    obtain ⟨h1, h2⟩ := nxS_at (c := c) h (by rcases hc with rfl | rfl | rfl | rfl | rfl <;> decide)
    have key : ((stC m c r).1 = 0 → wire_Check_b0 m (s, p) r = some (.inl ((s, p + 1), (stC m c r).2))) ∧ ((stC m c r).1 ≠ 0 → ∃ e, wire_Check_b0 m (s, p) r = some (.inr (.inr e)) ∧ codeOf e = (stC m c r).1 ∧ e.isNil = false) := by
      simp only [wire_Check_b0, h1, Option.bind_some, Option.elim_some, lt_eq]
      unfold stC
      rcases hc with rfl | rfl | rfl | rfl | rfl
      · simp only [show ((((73#8 : BitVec 8).toNat : Int)) == 73) = true from rfl, if_true]
        by_cases h3 : m.Id < 1
        · simp [h3, new_eq, codeOf, Err.isNil]
        · by_cases h4 : m.Id > 1099511627776
          · simp [h3, h4, new_eq, codeOf, Err.isNil]
          · simp [h3, h4]
      · simp only [show ((((75#8 : BitVec 8).toNat : Int)) == 73) = false from rfl, show ((((75#8 : BitVec 8).toNat : Int)) == 75) = true from rfl, Bool.false_eq_true, if_false, if_true, show ¬ (75#8 : BitVec 8) = 73#8 by decide, octKey_eq, Option.bind_some]
        by_cases h3 : ckK m.X.Key = 0
        · simp [h3]
        · simp [h3, new_eq _ _ _ h3, codeOf, Err.isNil]
      · simp only [show ((((65#8 : BitVec 8).toNat : Int)) == 73) = false from rfl, show ((((65#8 : BitVec 8).toNat : Int)) == 75) = false from rfl, show ((((65#8 : BitVec 8).toNat : Int)) == 65) = true from rfl, Bool.false_eq_true, if_false, if_true, show ¬ (65#8 : BitVec 8) = 73#8 by decide, show ¬ (65#8 : BitVec 8) = 75#8 by decide]
        by_cases h3 : m.X.AsOf < 0
        · simp [h3, new_eq, codeOf, Err.isNil]
        · by_cases h4 : m.X.AsOf > 1099511627776
          · simp [h3, h4, new_eq, codeOf, Err.isNil]
          · simp [h3, h4]
      · simp [show ((((70#8 : BitVec 8).toNat : Int)) == 73) = false from rfl, show ((((70#8 : BitVec 8).toNat : Int)) == 75) = false from rfl, show ((((70#8 : BitVec 8).toNat : Int)) == 65) = false from rfl]
      · obtain ⟨e, e1, e2, e3⟩ := check_eq m.X
        simp only [show ((((86#8 : BitVec 8).toNat : Int)) == 73) = false from rfl, show ((((86#8 : BitVec 8).toNat : Int)) == 75) = false from rfl, show ((((86#8 : BitVec 8).toNat : Int)) == 65) = false from rfl, show ((((86#8 : BitVec 8).toNat : Int)) == 70) = false from rfl, show ((((86#8 : BitVec 8).toNat : Int)) == 86) = true from rfl, Bool.false_eq_true, if_false, if_true, show ¬ (86#8 : BitVec 8) = 73#8 by decide, show ¬ (86#8 : BitVec 8) = 75#8 by decide, show ¬ (86#8 : BitVec 8) = 65#8 by decide, show ¬ (86#8 : BitVec 8) = 70#8 by decide, e1, Option.bind_some, e3]
        by_cases h3 : m.Found = true
        · by_cases h4 : ckE m.X = 0
          · simp [h3, h4, zeroE]
          · have h5 : e.isNil = false := by rw [e3]; simp [h4]
            simp only [h3, h4, Bool.not_true, Bool.false_eq_true, if_false, decide_false, Bool.not_false, if_true, wrap_eq _ _ e h5, Option.bind_some, ne_eq, not_false_eq_true]
            exact ⟨fun h => h.elim, fun _ => ⟨_, rfl, by simp [codeOf, e2], rfl⟩⟩
        · simp [h3]
    simp only [ckL]
    by_cases h3 : (stC m c r).1 = 0
    · rw [if_pos h3]
      obtain ⟨o, o1, o2, o3⟩ := chk_l m l s (p + 1) (stC m c r).2 (fun d hd => hl d (List.mem_cons_of_mem _ hd)) h2
      refine ⟨o, ?_, o2, o3⟩
      rw [← o1]
      exact loopO_in (body := fun s => wire_Check_b0 m s.1 s.2) (key.1 h3)
    · rw [if_neg h3]
      obtain ⟨e, e1, e2, e3⟩ := key.2 h3
      exact ⟨.inr e, loopO_out (body := fun s => wire_Check_b0 m s.1 s.2) e1, fun h => absurd h h3, fun _ => ⟨e, rfl, e2, e3⟩⟩
/-- What is wrong with a message. -/
def ckF (m : api_Msg) : Int × Int := if m.Kind = 2 ∨ m.Kind = 3 ∨ m.Kind = 6 then (m.To, m.From) else (m.From, m.To)
def ckM (m : api_Msg) : Int :=
  if m.Kind < 1 ∨ m.Kind > 6 then 12 else
  if (ckF m).1 < 1 ∨ (ckF m).1 > 16 ∨ (ckF m).2 ≠ 0 ∨ m.Epoch < 1 ∨ m.Epoch > 1099511627776 then 2 else
  if (ckL m (ptsA m.Kind) { m with Kind := 0, From := 0, To := 0, Epoch := 0 }).1 ≠ 0 then (ckL m (ptsA m.Kind) { m with Kind := 0, From := 0, To := 0, Epoch := 0 }).1 else
  if (ckL m (ptsA m.Kind) { m with Kind := 0, From := 0, To := 0, Epoch := 0 }).2.Id ≠ 0 ∨ (ckL m (ptsA m.Kind) { m with Kind := 0, From := 0, To := 0, Epoch := 0 }).2.Found = true ∨ (ckL m (ptsA m.Kind) { m with Kind := 0, From := 0, To := 0, Epoch := 0 }).2.X ≠ zeroE then 5 else 0
theorem or_bool {a b : Prop} [Decidable a] [Decidable b] : (if decide a = true then some true else some (decide b) : Option Bool) = some (decide (a ∨ b)) := by
  by_cases h : a <;> simp [h]
theorem wcheck_eq (m : api_Msg) : ∃ e, wire_Check m = some e ∧ codeOf e = ckM m ∧ e.isNil = decide (ckM m = 0) := by
  unfold wire_Check ckM
  simp only [lt_eq, or_bool, Option.bind_some, down_eq, parts_eq]
  by_cases h1 : m.Kind < 1 ∨ m.Kind > 6
  · simp only [h1, decide_true, if_true, new_eq _ _ (12 : Int) (by decide), Option.bind_some]
    exact ⟨_, rfl, rfl, rfl⟩
  · simp only [decide_eq_false h1, if_neg h1, Bool.false_eq_true, if_false]
    have hf : (if decide (m.Kind = 2 ∨ m.Kind = 3 ∨ m.Kind = 6) = true then some (m.To, m.From) else some (m.From, m.To) : Option (Int × Int)) = some (ckF m) := by
      unfold ckF
      by_cases h : m.Kind = 2 ∨ m.Kind = 3 ∨ m.Kind = 6
      · rw [if_pos h, if_pos (decide_eq_true h)]
      · rw [if_neg h, if_neg (by rw [decide_eq_false h]; simp)]
    simp only [hf, Option.bind_some]
    generalize ckF m = f
    by_cases h2 : f.1 < 1 ∨ f.1 > 16 ∨ f.2 ≠ 0
    · have h3 : (if decide (f.1 < 1) = true then some true else if decide (f.1 > 16) = true then some true else some (f.2 != 0) : Option Bool) = some true := by
        by_cases a : f.1 < 1
        · simp [a]
        · by_cases b : f.1 > 16
          · simp [a, b]
          · have : f.2 ≠ 0 := by omega
            simp [a, b, this]
      have h2' : f.1 < 1 ∨ f.1 > 16 ∨ f.2 ≠ 0 ∨ m.Epoch < 1 ∨ m.Epoch > 1099511627776 := by omega
      rw [h3, if_pos h2']
      simp only [Option.bind_some, if_true, new_eq _ _ (2 : Int) (by decide)]
      exact ⟨_, rfl, rfl, rfl⟩
    · have h3 : (if decide (f.1 < 1) = true then some true else if decide (f.1 > 16) = true then some true else some (f.2 != 0) : Option Bool) = some false := by
        have : f.2 = 0 := by omega
        simp [show ¬ f.1 < 1 by omega, show ¬ f.1 > 16 by omega, this]
      rw [h3]
      simp only [Option.bind_some, Bool.false_eq_true, if_false]
      by_cases h4 : m.Epoch < 1 ∨ m.Epoch > 1099511627776
      · have h2' : f.1 < 1 ∨ f.1 > 16 ∨ f.2 ≠ 0 ∨ m.Epoch < 1 ∨ m.Epoch > 1099511627776 := by omega
        rw [decide_eq_true h4, if_pos h2']
        simp only [Option.bind_some, if_true, new_eq _ _ (2 : Int) (by decide)]
        exact ⟨_, rfl, rfl, rfl⟩
      · have h2' : ¬ (f.1 < 1 ∨ f.1 > 16 ∨ f.2 ≠ 0 ∨ m.Epoch < 1 ∨ m.Epoch > 1099511627776) := by omega
        rw [decide_eq_false h4, if_neg h2']
        simp only [Bool.false_eq_true, if_false]
        obtain ⟨o, o1, o2, o3⟩ := chk_l m (ptsA m.Kind) (ptsA m.Kind) 0 { m with Kind := 0, From := 0, To := 0, Epoch := 0 } (ptsA_is _) rfl
        simp only [o1, Option.bind_some]
        generalize ckL m (ptsA m.Kind) { m with Kind := 0, From := 0, To := 0, Epoch := 0 } = q at *
        by_cases h5 : q.1 = 0
        · obtain ⟨z, rfl⟩ := o2 h5
          simp only [Sum.elim_inl, h5, ne_eq, not_true_eq_false, if_false, isame_eq6, Option.bind_some]
          by_cases h6 : q.2.Id = 0
          · by_cases h7 : q.2.Found = true
            · simp [h6, h7, new_eq, codeOf, Err.isNil]
            · by_cases h8 : q.2.X = zeroE
              · simp [h6, h7, h8, zeroE, codeOf, Err.isNil]
              · have h9 : ¬ q.2.X = ⟨[], 0, 0, 0, []⟩ := h8
                simp [h6, h7, h8, h9, new_eq, codeOf, Err.isNil]
          · simp [h6, new_eq, codeOf, Err.isNil]
        · obtain ⟨e, rfl, e1, e2⟩ := o3 h5
          simp only [Sum.elim_inr, h5, ne_eq, not_false_eq_true, if_true]
          exact ⟨e, rfl, e1, by rw [e2]; simp [h5]⟩
theorem wsame_eq (x y : api_Msg) : wire_Same x y = some (decide (x = y)) := by
  obtain ⟨a1, a2, a3, a4, a5, a6, a7⟩ := x
  obtain ⟨b1, b2, b3, b4, b5, b6, b7⟩ := y
  unfold wire_Same
  simp only [lt_eq, isame_eq6, Option.bind_some]
  by_cases h1 : a1 = b1 <;> by_cases h2 : a2 = b2 <;> by_cases h3 : a3 = b3 <;> by_cases h4 : a4 = b4 <;> by_cases h5 : a5 = b5 <;> by_cases h7 : a7 = b7 <;> simp [h1, h2, h3, h4, h5, h7]
theorem rsame_eq (x y : api_Msg) (hx : x.X.Value.length < 9223372036854775807) : butteryref23_Same x y = some (decide (x = y)) := by
  obtain ⟨a1, a2, a3, a4, a5, a6, a7⟩ := x
  obtain ⟨b1, b2, b3, b4, b5, b6, b7⟩ := y
  unfold butteryref23_Same
  simp only [lt_eq, same_eq6 a6 b6 hx, Option.bind_some]
  by_cases h1 : a1 = b1 <;> by_cases h2 : a2 = b2 <;> by_cases h3 : a3 = b3 <;> by_cases h4 : a4 = b4 <;> by_cases h5 : a5 = b5 <;> by_cases h7 : a7 = b7 <;> simp [h1, h2, h3, h4, h5, h7]
end Go.Proofs.YthkfilchighbhaaDoor
namespace Go.Proofs.YthkfilchighbhaaDoor
open Go Go.Va
set_option linter.unusedVariables false
set_option linter.unusedSimpArgs false
theorem some_if {p : Prop} [Decidable p] {α : Type} (a b : α) : (if p then some a else some b) = some (if p then a else b) := by split <;> rfl
/-- The parts that a kind has, by the document. -/
theorem fields_eq (m : api_Msg) : butteryref23_fields m = some (
    if (m.Kind = 5 ∨ m.Kind = 6) ∧ (m.Id < 1 ∨ m.Id > 1099511627776) then 2 else
    if (m.Kind = 3 ∨ m.Kind = 4 ∨ m.Kind = 5 ∨ m.Kind = 6) ∧ ckK m.X.Key ≠ 0 then ckK m.X.Key else
    if (m.Kind = 2 ∨ m.Kind = 3 ∨ m.Kind = 4 ∨ m.Kind = 6) ∧ (m.X.AsOf < 0 ∨ m.X.AsOf > 1099511627776) then 2 else
    if m.Kind = 6 ∧ m.Found = true then ckE m.X else 0) := by
  unfold butteryref23_fields
  simp only [lt_eq, lease_eq, hkey_eq, asof_eq, Option.bind_some, or_bool, refKey_eq, refCheck_eq]
  by_cases h1 : (m.Kind = 5 ∨ m.Kind = 6) ∧ (m.Id < 1 ∨ m.Id > 1099511627776)
  · rw [if_pos h1, if_pos (decide_eq_true h1.1), decide_eq_true h1.2]; rfl
  · rw [if_neg h1]
    have e1 : (if decide (m.Kind = 5 ∨ m.Kind = 6) = true then some (decide (m.Id < 1 ∨ m.Id > 1099511627776)) else some false : Option Bool) = some false := by
      by_cases h : m.Kind = 5 ∨ m.Kind = 6
      · rw [if_pos (decide_eq_true h), decide_eq_false (fun h2 => h1 ⟨h, h2⟩)]
      · rw [if_neg (by rw [decide_eq_false h]; simp)]
    simp only [e1, Option.bind_some, Bool.false_eq_true, if_false]
    by_cases h2 : (m.Kind = 3 ∨ m.Kind = 4 ∨ m.Kind = 5 ∨ m.Kind = 6) ∧ ckK m.X.Key ≠ 0
    · rw [if_pos h2, if_pos (decide_eq_true h2.1), if_pos (by simpa using h2.2)]; rfl
    · rw [if_neg h2]
      have e2 : (if decide (m.Kind = 3 ∨ m.Kind = 4 ∨ m.Kind = 5 ∨ m.Kind = 6) = true then (if (ckK m.X.Key != 0) = true then some (Sum.inr (ckK m.X.Key)) else some (Sum.inl ())) else some (Sum.inl ()) : Option (Unit ⊕ Int)) = some (.inl ()) := by
        by_cases h : m.Kind = 3 ∨ m.Kind = 4 ∨ m.Kind = 5 ∨ m.Kind = 6
        · rw [if_pos (decide_eq_true h), if_neg (by have : ckK m.X.Key = 0 := Classical.byContradiction fun h3 => h2 ⟨h, h3⟩
                                                    simp [this])]
        · rw [if_neg (by rw [decide_eq_false h]; simp)]
      simp only [e2, Option.bind_some, Sum.elim_inl]
      by_cases h3 : (m.Kind = 2 ∨ m.Kind = 3 ∨ m.Kind = 4 ∨ m.Kind = 6) ∧ (m.X.AsOf < 0 ∨ m.X.AsOf > 1099511627776)
      · rw [if_pos h3, if_pos (decide_eq_true h3.1), decide_eq_true h3.2]; rfl
      · rw [if_neg h3]
        have e3 : (if decide (m.Kind = 2 ∨ m.Kind = 3 ∨ m.Kind = 4 ∨ m.Kind = 6) = true then some (decide (m.X.AsOf < 0 ∨ m.X.AsOf > 1099511627776)) else some false : Option Bool) = some false := by
          by_cases h : m.Kind = 2 ∨ m.Kind = 3 ∨ m.Kind = 4 ∨ m.Kind = 6
          · rw [if_pos (decide_eq_true h), decide_eq_false (fun h4 => h3 ⟨h, h4⟩)]
          · rw [if_neg (by rw [decide_eq_false h]; simp)]
        simp only [e3, Option.bind_some, Bool.false_eq_true, if_false]
        by_cases h4 : m.Kind = 6
        · by_cases h5 : m.Found = true
          · simp [h4, h5]
          · simp [h4, h5]
        · simp [h4]
def onlyM (m : api_Msg) : api_Msg :=
  ⟨m.Kind, m.From, m.To, m.Epoch, if m.Kind = 5 ∨ m.Kind = 6 then m.Id else 0,
    if m.Kind = 6 ∧ m.Found = true then m.X else ⟨if m.Kind = 3 ∨ m.Kind = 4 ∨ m.Kind = 5 ∨ m.Kind = 6 then m.X.Key else [], 0, if m.Kind = 2 ∨ m.Kind = 3 ∨ m.Kind = 4 ∨ m.Kind = 6 then m.X.AsOf else 0, 0, []⟩,
    if m.Kind = 2 ∨ m.Kind = 6 then m.Found else false⟩
theorem only_eq (m : api_Msg) : butteryref23_only m = some (onlyM m) := by
  obtain ⟨k, f, t, e, i, ⟨key, ver, asf, ends, val⟩, fd⟩ := m
  unfold butteryref23_only onlyM
  simp only [lt_eq, lease_eq, hkey_eq, asof_eq, hfound_eq, Option.bind_some]
  by_cases h2 : k = 2
  · subst h2; cases fd <;> rfl
  by_cases h3 : k = 3
  · subst h3; cases fd <;> rfl
  by_cases h4 : k = 4
  · subst h4; cases fd <;> rfl
  by_cases h5 : k = 5
  · subst h5; cases fd <;> rfl
  by_cases h6 : k = 6
  · subst h6; cases fd <;> rfl
  simp [h2, h3, h4, h5, h6, z_api_Entry]
theorem ckK_range (k : List (BitVec 8)) : 0 ≤ ckK k := by
  unfold ckK
  repeat' split
  all_goals omega
theorem rcheck_eq {m : api_Msg} (hv : m.X.Value.length < 9223372036854775807) : butteryref23_Check m = some (ckM m) := by
  unfold butteryref23_Check ckM
  simp only [lt_eq, or_bool, Option.bind_some, fields_eq, only_eq, rsame_eq _ _ hv]
  by_cases h1 : m.Kind < 1 ∨ m.Kind > 6
  · simp only [h1, decide_true, if_true]
  · simp only [decide_eq_false h1, if_neg h1, Bool.false_eq_true, if_false]
    have hd : (if (m.Kind == 2) = true then some true else if (m.Kind == 3) = true then some true else some (m.Kind == 6) : Option Bool) = some (decide (m.Kind = 2 ∨ m.Kind = 3 ∨ m.Kind = 6)) := by
      by_cases a : m.Kind = 2
      · simp [a]
      · by_cases b : m.Kind = 3
        · simp [b]
        · by_cases c : m.Kind = 6
          · simp [c]
          · simp [a, b, c]
    have hf : (if decide (m.Kind = 2 ∨ m.Kind = 3 ∨ m.Kind = 6) = true then some (m.To, m.From) else some (m.From, m.To) : Option (Int × Int)) = some (ckF m) := by
      unfold ckF
      by_cases h : m.Kind = 2 ∨ m.Kind = 3 ∨ m.Kind = 6
      · rw [if_pos h, if_pos (decide_eq_true h)]
      · rw [if_neg h, if_neg (by rw [decide_eq_false h]; simp)]
    simp only [hd, hf, Option.bind_some]
    have h3 : ∀ (f : Int × Int), (if decide (f.1 < 1) = true then some true else if decide (f.1 > 16) = true then some true else if (f.2 != 0) = true then some true else some (decide (m.Epoch < 1 ∨ m.Epoch > 1099511627776)) : Option Bool) = some (decide (f.1 < 1 ∨ f.1 > 16 ∨ f.2 ≠ 0 ∨ m.Epoch < 1 ∨ m.Epoch > 1099511627776)) := fun f => by
      by_cases a : f.1 < 1
      · simp [a]
      · by_cases b : f.1 > 16
        · simp [a, b]
        · by_cases c : f.2 = 0
          · simp [a, b, c]
          · simp [a, b, c]
    simp only [h3, Option.bind_some]
    by_cases h2 : (ckF m).1 < 1 ∨ (ckF m).1 > 16 ∨ (ckF m).2 ≠ 0 ∨ m.Epoch < 1 ∨ m.Epoch > 1099511627776
    · rw [if_pos (decide_eq_true h2), if_pos h2]
    · rw [if_neg (by rw [decide_eq_false h2]; simp), if_neg h2]
      clear h2 h3 hd hf
      obtain ⟨k, f, t, e, i, ⟨key, ver, asf, ends, val⟩, fd⟩ := m
      have h0 : k = 1 ∨ k = 2 ∨ k = 3 ∨ k = 4 ∨ k = 5 ∨ k = 6 := by simp only at h1; omega
      clear h1 hv
      generalize hK : ckK key = K
      rcases h0 with rfl | rfl | rfl | rfl | rfl | rfl
      · simp [ptsA, ckL, onlyM, zeroE]
        by_cases a : i = 0 <;> by_cases b : fd = true <;> by_cases c : key = [] <;> by_cases d : ver = 0 <;> by_cases g : asf = 0 <;> by_cases h : ends = 0 <;> by_cases l : val = [] <;> simp [a, b, c, d, g, h, l]
      · by_cases g : asf < 0 ∨ asf > 1099511627776
        · simp [ptsA, ckL, stC, g]
        · simp [ptsA, ckL, stC, g, onlyM, zeroE]
          by_cases a : i = 0 <;> by_cases c : key = [] <;> by_cases d : ver = 0 <;> by_cases h : ends = 0 <;> by_cases l : val = [] <;> simp [a, c, d, h, l]
      · by_cases hk : K = 0
        · by_cases g : asf < 0 ∨ asf > 1099511627776
          · simp [ptsA, ckL, stC, g, hK, hk]
          · simp [ptsA, ckL, stC, g, onlyM, zeroE, hK, hk]
            by_cases a : i = 0 <;> by_cases b : fd = true <;> by_cases d : ver = 0 <;> by_cases h : ends = 0 <;> by_cases l : val = [] <;> simp [a, b, d, h, l]
        · simp [ptsA, ckL, stC, hK, hk]
      · by_cases hk : K = 0
        · by_cases g : asf < 0 ∨ asf > 1099511627776
          · simp [ptsA, ckL, stC, g, hK, hk]
          · simp [ptsA, ckL, stC, g, onlyM, zeroE, hK, hk]
            by_cases a : i = 0 <;> by_cases b : fd = true <;> by_cases d : ver = 0 <;> by_cases h : ends = 0 <;> by_cases l : val = [] <;> simp [a, b, d, h, l]
        · simp [ptsA, ckL, stC, hK, hk]
      · by_cases hi : i < 1 ∨ i > 1099511627776
        · simp [ptsA, ckL, stC, hi]
        · by_cases hk : K = 0
          · simp [ptsA, ckL, stC, hi, hK, hk, onlyM, zeroE]
            by_cases b : fd = true <;> by_cases d : ver = 0 <;> by_cases g : asf = 0 <;> by_cases h : ends = 0 <;> by_cases l : val = [] <;> simp [b, d, g, h, l]
          · simp [ptsA, ckL, stC, hi, hK, hk]
      · by_cases hi : i < 1 ∨ i > 1099511627776
        · simp [ptsA, ckL, stC, hi]
        · by_cases hk : K = 0
          · by_cases g : asf < 0 ∨ asf > 1099511627776
            · simp [ptsA, ckL, stC, hi, hK, hk, g]
            · by_cases b : fd = true
              · by_cases hx : ckE ⟨key, ver, asf, ends, val⟩ = 0
                · simp [ptsA, ckL, stC, hi, hK, hk, g, b, hx, onlyM, zeroE]
                · simp [ptsA, ckL, stC, hi, hK, hk, g, b, hx]
              · simp [ptsA, ckL, stC, hi, hK, hk, g, b, onlyM, zeroE]
                by_cases d : ver = 0 <;> by_cases h : ends = 0 <;> by_cases l : val = [] <;> simp [d, h, l]
          · simp [ptsA, ckL, stC, hi, hK, hk]
end Go.Proofs.YthkfilchighbhaaDoor
namespace Go.Proofs.YthkfilchighbhaaDoor
open Go Go.Va
set_option linter.unusedVariables false
set_option linter.unusedSimpArgs false
/-- The bytes of one part. -/
def stP (m : api_Msg) (c : BitVec 8) : List (BitVec 8) :=
  if c = 73#8 then num7 m.Id.toNat
  else if c = 75#8 then num7 m.X.Key.length ++ m.X.Key
  else if c = 65#8 then num7 m.X.AsOf.toNat
  else if c = 70#8 then num7 (if m.Found = true then 1 else 0)
  else if m.Found = true then num7 m.X.Version.toNat ++ (num7 m.X.Ends.toNat ++ (num7 m.X.Value.length ++ m.X.Value)) else []
def encM (m : api_Msg) : List (BitVec 8) := num7 m.Kind.toNat ++ (num7 m.From.toNat ++ (num7 m.To.toNat ++ (num7 m.Epoch.toNat ++ (ptsA m.Kind).flatMap (stP m))))
/-- What a message is with which nothing is wrong. -/
structure okM (m : api_Msg) : Prop where
  k1 : 1 ≤ m.Kind
  k6 : m.Kind ≤ 6
  f0 : 0 ≤ m.From
  f1 : m.From ≤ 16
  t0 : 0 ≤ m.To
  t1 : m.To ≤ 16
  e1 : 1 ≤ m.Epoch
  e2 : m.Epoch ≤ 1099511627776
  i : m.Kind = 5 ∨ m.Kind = 6 → 1 ≤ m.Id ∧ m.Id ≤ 1099511627776
  i0 : ¬ (m.Kind = 5 ∨ m.Kind = 6) → m.Id = 0
  key : m.Kind = 3 ∨ m.Kind = 4 ∨ m.Kind = 5 ∨ m.Kind = 6 → 1 ≤ m.X.Key.length ∧ m.X.Key.length ≤ 40
  key0 : ¬ (m.Kind = 3 ∨ m.Kind = 4 ∨ m.Kind = 5 ∨ m.Kind = 6) → m.X.Key = []
  a : m.Kind = 2 ∨ m.Kind = 3 ∨ m.Kind = 4 ∨ m.Kind = 6 → 0 ≤ m.X.AsOf ∧ m.X.AsOf ≤ 1099511627776
  a0 : ¬ (m.Kind = 2 ∨ m.Kind = 3 ∨ m.Kind = 4 ∨ m.Kind = 6) → m.X.AsOf = 0
  f : ¬ (m.Kind = 2 ∨ m.Kind = 6) → m.Found = false
  v : m.Kind = 6 → m.Found = true → ckE m.X = 0
  v0 : ¬ (m.Kind = 6 ∧ m.Found = true) → m.X.Version = 0 ∧ m.X.Ends = 0 ∧ m.X.Value = []
theorem ckK_ok {k : List (BitVec 8)} (h : ckK k = 0) : 1 ≤ k.length ∧ k.length ≤ 40 := by
  unfold ckK at h
  split at h
  · cases h
  · split at h
    · cases h
    · omega
theorem ckM_ok {m : api_Msg} (h : ckM m = 0) : okM m := by
  unfold ckM at h
  split at h
  · cases h
  rename_i h1
  split at h
  · cases h
  rename_i h2
  split at h
  · rename_i h3; exact absurd h h3
  rename_i h3
  split at h
  · cases h
  rename_i h4
  have h3' := Classical.not_not.1 h3
  clear h h3
  obtain ⟨k, f, t, e, i, ⟨key, ver, asf, ends, val⟩, fd⟩ := m
  unfold ckF at h2
  simp only at h1 h2 h3' h4
  have h0 : k = 1 ∨ k = 2 ∨ k = 3 ∨ k = 4 ∨ k = 5 ∨ k = 6 := by omega
  have hft : 0 ≤ f ∧ f ≤ 16 ∧ 0 ≤ t ∧ t ≤ 16 ∧ 1 ≤ e ∧ e ≤ 1099511627776 := by
    split at h2 <;> simp only at h2 <;> omega
  clear h2 h1
  have fin : ∀ {b : Bool}, ¬ b = true → b = false := fun {b} h => by simpa using h
  rcases h0 with rfl | rfl | rfl | rfl | rfl | rfl
  · simp [ptsA, ckL, zeroE] at h4
    obtain ⟨rfl, rfl, rfl, rfl, rfl, rfl, rfl⟩ := h4
    exact ⟨by simp, by simp, by simp only; omega, by simp only; omega, by simp only; omega, by simp only; omega, by simp only; omega, by simp only; omega, by simp, by simp, by simp, by simp, by simp, by simp, by simp, by simp, by simp⟩
  · by_cases g : asf < 0 ∨ asf > 1099511627776
    · simp [ptsA, ckL, stC, g] at h3'
    · simp [ptsA, ckL, stC, g, zeroE] at h4
      obtain ⟨rfl, rfl, rfl, rfl, rfl⟩ := h4
      exact ⟨by simp, by simp, by simp only; omega, by simp only; omega, by simp only; omega, by simp only; omega, by simp only; omega, by simp only; omega, by simp, by simp, by simp, by simp, fun _ => by simp only; omega, by simp, by simp, by simp, by simp⟩
  · by_cases hk : ckK key = 0
    · by_cases g : asf < 0 ∨ asf > 1099511627776
      · simp [ptsA, ckL, stC, g, hk] at h3'
      · simp [ptsA, ckL, stC, g, hk, zeroE] at h4
        obtain ⟨rfl, rfl, rfl, rfl, rfl⟩ := h4
        exact ⟨by simp, by simp, by simp only; omega, by simp only; omega, by simp only; omega, by simp only; omega, by simp only; omega, by simp only; omega, by simp, by simp, fun _ => ckK_ok hk, by simp, fun _ => by simp only; omega, by simp, by simp, by simp, by simp⟩
    · simp [ptsA, ckL, stC, hk] at h3'
  · by_cases hk : ckK key = 0
    · by_cases g : asf < 0 ∨ asf > 1099511627776
      · simp [ptsA, ckL, stC, g, hk] at h3'
      · simp [ptsA, ckL, stC, g, hk, zeroE] at h4
        obtain ⟨rfl, rfl, rfl, rfl, rfl⟩ := h4
        exact ⟨by simp, by simp, by simp only; omega, by simp only; omega, by simp only; omega, by simp only; omega, by simp only; omega, by simp only; omega, by simp, by simp, fun _ => ckK_ok hk, by simp, fun _ => by simp only; omega, by simp, by simp, by simp, by simp⟩
    · simp [ptsA, ckL, stC, hk] at h3'
  · by_cases hi : i < 1 ∨ i > 1099511627776
    · simp [ptsA, ckL, stC, hi] at h3'
    · by_cases hk : ckK key = 0
      · simp [ptsA, ckL, stC, hi, hk, zeroE] at h4
        obtain ⟨rfl, rfl, rfl, rfl, rfl⟩ := h4
        exact ⟨by simp, by simp, by simp only; omega, by simp only; omega, by simp only; omega, by simp only; omega, by simp only; omega, by simp only; omega, fun _ => by simp only; omega, by simp, fun _ => ckK_ok hk, by simp, by simp, by simp, by simp, by simp, by simp⟩
      · simp [ptsA, ckL, stC, hi, hk] at h3'
  · by_cases hi : i < 1 ∨ i > 1099511627776
    · simp [ptsA, ckL, stC, hi] at h3'
    · by_cases hk : ckK key = 0
      · by_cases g : asf < 0 ∨ asf > 1099511627776
        · simp [ptsA, ckL, stC, hi, hk, g] at h3'
        · by_cases b : fd = true
          · by_cases hx : ckE ⟨key, ver, asf, ends, val⟩ = 0
            · exact ⟨by simp, by simp, by simp only; omega, by simp only; omega, by simp only; omega, by simp only; omega, by simp only; omega, by simp only; omega, fun _ => by simp only; omega, by simp, fun _ => ckK_ok hk, by simp, fun _ => by simp only; omega, by simp, by simp, fun _ _ => hx, by simp [b]⟩
            · simp [ptsA, ckL, stC, hi, hk, g, b, hx] at h3'
          · simp [ptsA, ckL, stC, hi, hk, g, b, zeroE] at h4
            obtain ⟨rfl, rfl, rfl⟩ := h4
            exact ⟨by simp, by simp, by simp only; omega, by simp only; omega, by simp only; omega, by simp only; omega, by simp only; omega, by simp only; omega, fun _ => by simp only; omega, by simp, fun _ => ckK_ok hk, by simp, fun _ => by simp only; omega, by simp, by simp, by simp [b], by simp⟩
      · simp [ptsA, ckL, stC, hi, hk] at h3'
/-- One part is right to be put. -/
def okP (m : api_Msg) (c : BitVec 8) : Prop :=
  (c = 73#8 ∧ 0 ≤ m.Id ∧ m.Id ≤ 1099511627776) ∨ (c = 75#8 ∧ m.X.Key.length ≤ 40) ∨ (c = 65#8 ∧ 0 ≤ m.X.AsOf ∧ m.X.AsOf ≤ 1099511627776) ∨ c = 70#8 ∨ (c = 86#8 ∧ (m.Found = true → ckE m.X = 0))
theorem okM.pts {m : api_Msg} (h : okM m) : ∀ c ∈ ptsA m.Kind, okP m c := by
  intro c hc
  unfold ptsA at hc
  unfold okP
  have h1 := h.i
  have h2 := h.key
  have h3 := h.a
  have h4 := h.v
  split at hc
  · rename_i hk
    simp at hc
    have := h3 (by omega)
    rcases hc with rfl | rfl
    · simp; omega
    · simp
  · split at hc
    · rename_i hk
      simp at hc
      have := h3 (by omega)
      have := h2 (by omega)
      rcases hc with rfl | rfl
      · simp; omega
      · simp; omega
    · split at hc
      · rename_i hk
        simp at hc
        have := h1 (by omega)
        have := h2 (by omega)
        rcases hc with rfl | rfl
        · simp; omega
        · simp; omega
      · split at hc
        · rename_i hk
          simp at hc
          have := h1 (by omega)
          have := h2 (by omega)
          have := h3 (by omega)
          rcases hc with rfl | rfl | rfl | rfl | rfl
          · simp; omega
          · simp; omega
          · simp; omega
          · simp
          · simp; exact h4 hk
        · cases hc
theorem okP_is {m : api_Msg} {c : BitVec 8} (h : okP m c) : isP c := by
  unfold isP
  rcases h with ⟨h, _⟩ | ⟨h, _⟩ | ⟨h, _⟩ | h | ⟨h, _⟩ <;> simp [h]
theorem stP_len {m : api_Msg} {c : BitVec 8} (h : okP m c) : (stP m c).length ≤ 4200 := by
  unfold stP
  rcases h with ⟨rfl, h⟩ | ⟨rfl, h⟩ | ⟨rfl, h⟩ | rfl | ⟨rfl, h⟩
  · have := num7_len (n := m.Id.toNat) (by omega); simp; omega
  · have := num7_len (n := m.X.Key.length) (by omega); simp; omega
  · have := num7_len (n := m.X.AsOf.toNat) (by omega); simp; omega
  · have := num7_len (n := if m.Found = true then 1 else 0) (by split <;> omega); simp; omega
  · by_cases hf : m.Found = true
    · obtain ⟨h1, h2, h3, h4, h5, h6, h7, h8, h9⟩ := ck_ok (h hf)
      have i1 := num7_len (n := m.X.Version.toNat) (by omega)
      have i2 := num7_len (n := m.X.Ends.toNat) (by omega)
      have i3 := num7_len (n := m.X.Value.length) (by omega)
      simp [hf]; omega
    · simp [hf]
theorem toBytes_eq {x : List (BitVec 8)} (h : x.length ≤ 140737488355328) : toBytes x = some x := by unfold toBytes; rw [if_pos h]
theorem nums_1 (n : Int) : nums [n] = num7 n.toNat := by simp [nums]
theorem okN_1 {n : Int} (h : 0 ≤ n) (h1 : n ≤ 9223372036854775807) : okN [n] := ⟨by simp, fun m hm => by simp at hm; omega⟩
theorem put_l (m : api_Msg) : ∀ (l s : List (BitVec 8)) (p : Nat) (b : List (BitVec 8)), (∀ c ∈ l, okP m c) → s.drop p = l → b.length + 4200 * l.length ≤ 100000 →
    ∃ q, wire_Put_l0 m (b, (s, p)) = some (b ++ l.flatMap (stP m), q)
  | [], s, p, b, _, h, _ => ⟨(s, p), by
    refine loopO_out (body := fun s => wire_Put_b0 m s.1 s.2) ?_
    simp [wire_Put_b0, nxS_end h]⟩
  | c :: l, s, p, b, hl, h, hb => by
    have hc := hl c (List.mem_cons_self ..)
    obtain ⟨h1, h2⟩ := nxS_at (c := c) h (by rcases okP_is hc with rfl | rfl | rfl | rfl | rfl <;> decide)
    have hlen := stP_len hc
    simp only [List.length_cons] at hb
    have key : wire_Put_b0 m b (s, p) = some (.inl (b ++ stP m c, (s, p + 1))) := by
      simp only [wire_Put_b0, h1, Option.bind_some, Option.elim_some, lt_eq]
      unfold stP
      rcases hc with ⟨rfl, g0⟩ | ⟨rfl, g0⟩ | ⟨rfl, g0⟩ | rfl | ⟨rfl, g0⟩
      · simp only [show ((((73#8 : BitVec 8).toNat : Int)) == 73) = true from rfl, if_true]
        rw [octPut_eq _ (by omega) (okN_1 (by omega) (by omega)), nums_1]
        rfl
      · simp only [show ((((75#8 : BitVec 8).toNat : Int)) == 73) = false from rfl, show ((((75#8 : BitVec 8).toNat : Int)) == 75) = true from rfl, Bool.false_eq_true, if_false, if_true, show ¬ (75#8 : BitVec 8) = 73#8 by decide]
        rw [toBytes_eq (by omega)]
        simp only [Option.bind_some]
        rw [octBytes_eq _ _ (by omega) (by omega)]
        simp
      · simp only [show ((((65#8 : BitVec 8).toNat : Int)) == 73) = false from rfl, show ((((65#8 : BitVec 8).toNat : Int)) == 75) = false from rfl, show ((((65#8 : BitVec 8).toNat : Int)) == 65) = true from rfl, Bool.false_eq_true, if_false, if_true, show ¬ (65#8 : BitVec 8) = 73#8 by decide, show ¬ (65#8 : BitVec 8) = 75#8 by decide]
        rw [octPut_eq _ (by omega) (okN_1 (by omega) (by omega)), nums_1]
        rfl
      · simp only [show ((((70#8 : BitVec 8).toNat : Int)) == 73) = false from rfl, show ((((70#8 : BitVec 8).toNat : Int)) == 75) = false from rfl, show ((((70#8 : BitVec 8).toNat : Int)) == 65) = false from rfl, show ((((70#8 : BitVec 8).toNat : Int)) == 70) = true from rfl, Bool.false_eq_true, if_false, if_true, show ¬ (70#8 : BitVec 8) = 73#8 by decide, show ¬ (70#8 : BitVec 8) = 75#8 by decide, show ¬ (70#8 : BitVec 8) = 65#8 by decide]
        by_cases hf : m.Found = true
        · simp only [hf, if_true, Option.bind_some]
          rw [octPut_eq _ (by omega) (okN_1 (by omega) (by omega)), nums_1]
          rfl
        · simp only [hf, if_false, Option.bind_some, Bool.false_eq_true]
          rw [octPut_eq _ (by omega) (okN_1 (by omega) (by omega)), nums_1]
          rfl
      · simp only [show ((((86#8 : BitVec 8).toNat : Int)) == 73) = false from rfl, show ((((86#8 : BitVec 8).toNat : Int)) == 75) = false from rfl, show ((((86#8 : BitVec 8).toNat : Int)) == 65) = false from rfl, show ((((86#8 : BitVec 8).toNat : Int)) == 70) = false from rfl, show ((((86#8 : BitVec 8).toNat : Int)) == 86) = true from rfl, Bool.false_eq_true, if_false, if_true, show ¬ (86#8 : BitVec 8) = 73#8 by decide, show ¬ (86#8 : BitVec 8) = 75#8 by decide, show ¬ (86#8 : BitVec 8) = 65#8 by decide, show ¬ (86#8 : BitVec 8) = 70#8 by decide]
        by_cases hf : m.Found = true
        · obtain ⟨g1, g2, g3, g4, g5, g6, g7, g8, g9⟩ := ck_ok (g0 hf)
          simp only [hf, if_true]
          have hn : okN [m.X.Version, m.X.Ends] := ⟨by simp, fun n hn => by simp at hn; omega⟩
          rw [octPut_eq _ (by omega) hn]
          simp only [Option.bind_some]
          have := nums_len hn.2
          simp only [List.length_cons, List.length_nil] at this
          rw [octBytes_eq _ _ (by rw [List.length_append]; omega) (by omega)]
          simp [nums]
        · simp [hf]
    obtain ⟨q, hq⟩ := put_l m l s (p + 1) (b ++ stP m c) (fun d hd => hl d (List.mem_cons_of_mem _ hd)) h2 (by rw [List.length_append]; omega)
    refine ⟨q, ?_⟩
    rw [List.flatMap_cons, ← List.append_assoc, ← hq]
    exact loopO_in (body := fun s => wire_Put_b0 m s.1 s.2) key
theorem okM.head {m : api_Msg} (h : okM m) : okN [m.Kind, m.From, m.To, m.Epoch] := ⟨by simp, fun n hn => by
  have := h.k1; have := h.k6; have := h.f0; have := h.f1; have := h.t0; have := h.t1; have := h.e1; have := h.e2
  simp at hn; omega⟩
theorem okM.hlen {m : api_Msg} (h : okM m) : (nums [m.Kind, m.From, m.To, m.Epoch]).length ≤ 36 := by
  have := nums_len h.head.2
  simpa using this
theorem ptsA_len (k : Int) : (ptsA k).length ≤ 5 := by
  unfold ptsA
  repeat' split
  all_goals simp
theorem encM_eq (m : api_Msg) : encM m = nums [m.Kind, m.From, m.To, m.Epoch] ++ (ptsA m.Kind).flatMap (stP m) := by simp [encM, nums]
theorem flat_len {m : api_Msg} : ∀ {l : List (BitVec 8)}, (∀ c ∈ l, okP m c) → (l.flatMap (stP m)).length ≤ 4200 * l.length
  | [], _ => by simp
  | c :: l, h => by
    have h1 := stP_len (h c (List.mem_cons_self ..))
    have h2 := flat_len (l := l) (fun d hd => h d (List.mem_cons_of_mem _ hd))
    simp only [List.flatMap_cons, List.length_append, List.length_cons]
    omega
theorem encM_len {m : api_Msg} (h : okM m) : (encM m).length ≤ 21036 := by
  have h1 := h.hlen
  have h2 := flat_len h.pts
  have h3 := ptsA_len m.Kind
  rw [encM_eq, List.length_append]
  omega
theorem wput_eq (m : api_Msg) : (ckM m = 0 → wire_Put m = some (cseal (encM m), .nil)) ∧ (ckM m ≠ 0 → ∃ e, wire_Put m = some ([], e) ∧ codeOf e = ckM m ∧ e.isNil = false) := by
  obtain ⟨e, e1, e2, e3⟩ := wcheck_eq m
  unfold wire_Put
  simp only [lt_eq, e1, Option.bind_some, e3]
  constructor
  · intro h
    have ho := ckM_ok h
    rw [if_neg (by simp [h]), octPut_eq _ (by simp) ho.head]
    simp only [Option.bind_some, parts_eq, List.nil_append]
    have h1 := ho.hlen
    have h3 := ptsA_len m.Kind
    obtain ⟨q, hq⟩ := put_l m (ptsA m.Kind) (ptsA m.Kind) 0 (nums [m.Kind, m.From, m.To, m.Epoch]) ho.pts rfl (by omega)
    rw [hq]
    simp only [Option.bind_some]
    rw [← encM_eq, seal_eq (by have := encM_len ho; omega)]
    rfl
  · intro h
    have h5 : e.isNil = false := by rw [e3]; simp [h]
    rw [if_pos (by simp [h]), wrap_eq _ _ e h5]
    exact ⟨_, rfl, by simp [codeOf, e2], rfl⟩
theorem rput_eq {m : api_Msg} (hv : m.X.Value.length < 9223372036854775807) : butteryref23_Put m = some (if ckM m = 0 then (cseal (encM m), 0) else ([], ckM m)) := by
  unfold butteryref23_Put
  simp only [lt_eq, rcheck_eq hv, Option.bind_some]
  by_cases h : ckM m = 0
  · have ho := ckM_ok h
    rw [if_neg (by simp [h]), if_pos h, refPut_eq _ (by simp) ho.head]
    simp only [Option.bind_some, lease_eq, hkey_eq, asof_eq, hfound_eq, List.nil_append]
    have h1 := ho.hlen
    have hE := encM_len ho
    rw [encM_eq] at hE ⊢
    generalize nums [m.Kind, m.From, m.To, m.Epoch] = H at *
    have hi := ho.i; have hk := ho.key; have ha := ho.a; have hv := ho.v
    have hk1 := ho.k1; have hk6 := ho.k6
    clear ho h
    obtain ⟨k, f, t, e, i, x, fd⟩ := m
    simp only at *
    have h0 : k = 1 ∨ k = 2 ∨ k = 3 ∨ k = 4 ∨ k = 5 ∨ k = 6 := by omega
    have pN : ∀ (b : List (BitVec 8)) (n : Int), b.length ≤ 100000 → 0 ≤ n → n ≤ 1099511627776 → butteryref02_Put b [n] = some (b ++ num7 n.toNat) := fun b n hb hn hn2 => by rw [refPut_eq b (by omega) (okN_1 hn (by omega)), nums_1]
    have pB : ∀ (b t : List (BitVec 8)), b.length ≤ 100000 → t.length ≤ 5000 → butteryref02_Bytes b t = some (b ++ (num7 t.length ++ t)) := fun b t hb ht => by rw [refBytes_eq b t (by omega) (by omega), List.append_assoc]
    have pS : ∀ (b : List (BitVec 8)), b.length ≤ 100000 → butteryref03_Seal b = some (cseal b) := fun b hb => rcSeal_eq (by omega)
    have n9 : ∀ n : Int, 0 ≤ n → n ≤ 1099511627776 → (num7 n.toNat).length ≤ 9 := fun n h1 h2 => num7_len (by omega)
    rcases h0 with rfl | rfl | rfl | rfl | rfl | rfl
    · simp [ptsA, pS H (by omega)]
    · have g1 := ha (by omega)
      have l1 := n9 _ g1.1 g1.2
      have q1 := pN H _ (by omega) g1.1 g1.2
      cases fd
      · have q2 := pN (H ++ num7 x.AsOf.toNat) 0 (by simp only [List.length_append]; omega) (by decide) (by decide)
        have l2 := n9 0 (by decide) (by decide)
        have q3 := pS (H ++ num7 x.AsOf.toNat ++ num7 (0 : Int).toNat) (by simp only [List.length_append]; omega)
        simp only [Int.reduceEq, Int.reduceBEq, or_true, true_or, or_self, or_false, false_or, decide_true, decide_false, if_true, Bool.false_eq_true, if_false, Option.bind_some, q1, q2, q3, Bool.not_false]
        simp [ptsA, stP]
      · have q2 := pN (H ++ num7 x.AsOf.toNat) 1 (by simp only [List.length_append]; omega) (by decide) (by decide)
        have l2 := n9 1 (by decide) (by decide)
        have q3 := pS (H ++ num7 x.AsOf.toNat ++ num7 (1 : Int).toNat) (by simp only [List.length_append]; omega)
        simp only [Int.reduceEq, Int.reduceBEq, or_true, true_or, or_self, or_false, false_or, decide_true, decide_false, if_true, Bool.false_eq_true, if_false, Option.bind_some, q1, q2, q3, Bool.not_true]
        simp [ptsA, stP]
    · have g1 := ha (by omega)
      have g2 := hk (by omega)
      have l1 := n9 _ g1.1 g1.2
      have l2 := num7_len (n := x.Key.length) (by omega)
      simp [toBytes_eq (x := x.Key) (by omega), ptsA, pB H x.Key (by omega) (by omega), pN (H ++ (num7 x.Key.length ++ x.Key)) x.AsOf (by simp only [List.length_append]; omega) g1.1 g1.2]
      rw [pS _ (by simp only [List.length_append]; omega)]
      simp [stP]
    · have g1 := ha (by omega)
      have g2 := hk (by omega)
      have l1 := n9 _ g1.1 g1.2
      have l2 := num7_len (n := x.Key.length) (by omega)
      simp [toBytes_eq (x := x.Key) (by omega), ptsA, pB H x.Key (by omega) (by omega), pN (H ++ (num7 x.Key.length ++ x.Key)) x.AsOf (by simp only [List.length_append]; omega) g1.1 g1.2]
      rw [pS _ (by simp only [List.length_append]; omega)]
      simp [stP]
    · have g1 := hi (by omega)
      have g2 := hk (by omega)
      have l1 := n9 i (by omega) g1.2
      have l2 := num7_len (n := x.Key.length) (by omega)
      simp [toBytes_eq (x := x.Key) (by omega), ptsA, pN H i (by omega) (by omega) g1.2, pB (H ++ num7 i.toNat) x.Key (by simp only [List.length_append]; omega) (by omega)]
      rw [pS _ (by simp only [List.length_append]; omega)]
      simp [stP]
    · have g1 := hi (by omega)
      have g2 := hk (by omega)
      have g3 := ha (by omega)
      have l1 := n9 i (by omega) g1.2
      have l2 := num7_len (n := x.Key.length) (by omega)
      have l3 := n9 _ g3.1 g3.2
      have q1 := pN H i (by omega) (by omega) g1.2
      have q2 := pB (H ++ num7 i.toNat) x.Key (by simp only [List.length_append]; omega) (by omega)
      have q3 := pN (H ++ num7 i.toNat ++ (num7 x.Key.length ++ x.Key)) x.AsOf (by simp only [List.length_append]; omega) g3.1 g3.2
      cases fd
      · have q4 := pN (H ++ num7 i.toNat ++ (num7 x.Key.length ++ x.Key) ++ num7 x.AsOf.toNat) 0 (by simp only [List.length_append]; omega) (by decide) (by decide)
        have l4 := n9 0 (by decide) (by decide)
        have q5 := pS (H ++ num7 i.toNat ++ (num7 x.Key.length ++ x.Key) ++ num7 x.AsOf.toNat ++ num7 (0 : Int).toNat) (by simp only [List.length_append]; omega)
        simp only [toBytes_eq (x := x.Key) (by omega), Int.reduceEq, Int.reduceBEq, or_true, true_or, or_self, or_false, false_or, decide_true, decide_false, if_true, Bool.false_eq_true, if_false, Option.bind_some, q1, q2, q3, q4, q5, Bool.not_false]
        simp [ptsA, stP]
      · have g4 := hv rfl rfl
        obtain ⟨a1, a2, a3, a4, a5, a6, a7, a8, a9⟩ := ck_ok g4
        have q4 := pN (H ++ num7 i.toNat ++ (num7 x.Key.length ++ x.Key) ++ num7 x.AsOf.toNat) 1 (by simp only [List.length_append]; omega) (by decide) (by decide)
        have l4 := n9 1 (by decide) (by decide)
        have hn : okN [x.Version, x.Ends] := ⟨by simp, fun n hn => by simp at hn; omega⟩
        have l5 := nums_len hn.2
        simp only [List.length_cons, List.length_nil] at l5
        have q5 := refPut_eq (H ++ num7 i.toNat ++ (num7 x.Key.length ++ x.Key) ++ num7 x.AsOf.toNat ++ num7 (1 : Int).toNat) (l := [x.Version, x.Ends]) (by simp only [List.length_append]; omega) hn
        have l6 := num7_len (n := x.Value.length) (by omega)
        have q6 := pB (H ++ num7 i.toNat ++ (num7 x.Key.length ++ x.Key) ++ num7 x.AsOf.toNat ++ num7 (1 : Int).toNat ++ nums [x.Version, x.Ends]) x.Value (by simp only [List.length_append]; omega) (by omega)
        have q7 := pS (H ++ num7 i.toNat ++ (num7 x.Key.length ++ x.Key) ++ num7 x.AsOf.toNat ++ num7 (1 : Int).toNat ++ nums [x.Version, x.Ends] ++ (num7 x.Value.length ++ x.Value)) (by simp only [List.length_append]; omega)
        simp only [toBytes_eq (x := x.Key) (by omega), Int.reduceEq, Int.reduceBEq, or_true, true_or, or_self, or_false, false_or, decide_true, decide_false, if_true, Bool.false_eq_true, if_false, Option.bind_some, q1, q2, q3, q4, q5, q6, q7, Bool.not_true]
        simp [ptsA, stP, nums]
  · rw [if_pos (by simpa using h), if_neg h]
end Go.Proofs.YthkfilchighbhaaDoor
namespace Go.Proofs.YthkfilchighbhaaDoor
open Go Go.Va
set_option linter.unusedVariables false
set_option linter.unusedSimpArgs false
set_option maxRecDepth 20000
noncomputable def butteryref23_read (x0 : butteryref02_Reader) (x1 : api_Msg) : Option (butteryref02_Reader × api_Msg) :=
  lt ((x1 : api_Msg)) fun c8 =>
  (butteryref23_lease x1.Kind).bind fun v14 =>
  (
    if v14 = true then
      (butteryref02_Number (x0 : butteryref02_Reader) (1099511627776 : Int)).bind fun v21 =>
      lt (((v21.1 : butteryref02_Reader) : butteryref02_Reader)) fun c26 =>
      lt (({ c8 with Id := v21.2 } : api_Msg)) fun c29 =>
      some (c26, c29)
    else
      some ((x0 : butteryref02_Reader), c8)
   : Option (butteryref02_Reader × api_Msg)).bind fun s15 =>
    (butteryref23_key x1.Kind).bind fun v33 =>
    (
      if v33 = true then
        (butteryref02_Text s15.1 (40 : Int)).bind fun v40 =>
        lt (((v40.1 : butteryref02_Reader) : butteryref02_Reader)) fun c45 =>
        lt (({ s15.2 with X := { s15.2.X with Key := v40.2 } } : api_Msg)) fun c48 =>
        some (c45, c48)
      else
        some (s15.1, s15.2)
     : Option (butteryref02_Reader × api_Msg)).bind fun s34 =>
      (butteryref23_asof x1.Kind).bind fun v52 =>
      (
        if v52 = true then
          (butteryref02_Number s34.1 (1099511627776 : Int)).bind fun v59 =>
          lt (((v59.1 : butteryref02_Reader) : butteryref02_Reader)) fun c64 =>
          lt (({ s34.2 with X := { s34.2.X with AsOf := v59.2 } } : api_Msg)) fun c67 =>
          some (c64, c67)
        else
          some (s34.1, s34.2)
       : Option (butteryref02_Reader × api_Msg)).bind fun s53 =>
        (butteryref23_found x1.Kind).bind fun v71 =>
        (
          if v71 = true then
            (butteryref02_Number s53.1 (1 : Int)).bind fun v78 =>
            lt (((v78.1 : butteryref02_Reader) : butteryref02_Reader)) fun c83 =>
            lt (v78.2 == (1 : Int)) fun v86 =>
            lt (({ s53.2 with Found := v86 } : api_Msg)) fun c88 =>
            some (c83, c88)
          else
            some (s53.1, s53.2)
         : Option (butteryref02_Reader × api_Msg)).bind fun s72 =>
          (
            lt (x1.Kind == (6 : Int)) fun v96 =>
            if v96 = true then
              some s72.2.Found
            else
              some false
           : Option (Bool)).bind fun s91 =>
            if s91 = true then
              (butteryref02_Number s72.1 (1099511627776 : Int)).bind fun v101 =>
              (butteryref02_Number (v101.1 : butteryref02_Reader) (1099511627776 : Int)).bind fun v106 =>
              (butteryref02_Text (v106.1 : butteryref02_Reader) (4096 : Int)).bind fun v111 =>
              lt (((v111.1 : butteryref02_Reader) : butteryref02_Reader)) fun c116 =>
              lt (({ s72.2 with X := { s72.2.X with Version := v101.2 } } : api_Msg)) fun c119 =>
              lt (({ c119 with X := { c119.X with Ends := v106.2 } } : api_Msg)) fun c122 =>
              lt (({ c122 with X := { c122.X with Value := v111.2 } } : api_Msg)) fun c125 =>
              lt ((c125 : api_Msg)) fun c129 =>
              some ((c116 : butteryref02_Reader), c129)
            else
              lt ((s72.2 : api_Msg)) fun c133 =>
              some ((s72.1 : butteryref02_Reader), c133)
end Go.Proofs.YthkfilchighbhaaDoor
namespace Go.Proofs.YthkfilchighbhaaDoor
open Go Go.Va
set_option linter.unusedVariables false
set_option linter.unusedSimpArgs false
set_option maxRecDepth 20000
noncomputable def butteryref23_Get (x0 : List (BitVec 8)) : Option (api_Msg × Int) :=
  lt (((x0).length : Int)) fun v4 =>
  lt (decide (v4 < (4 : Int))) fun v6 =>
  if v6 = true then
    lt ((⟨(0 : Int), (0 : Int), (0 : Int), (0 : Int), (0 : Int), z_api_Entry, false⟩ : api_Msg)) fun v9 =>
    lt ((v9 : api_Msg)) fun c11 =>
    some (c11, (6 : Int))
  else
    (butteryref03_Fits x0).bind fun v14 =>
    lt (!v14) fun v16 =>
    if v16 = true then
      lt ((⟨(0 : Int), (0 : Int), (0 : Int), (0 : Int), (0 : Int), z_api_Entry, false⟩ : api_Msg)) fun v19 =>
      lt ((v19 : api_Msg)) fun c21 =>
      some (c21, (7 : Int))
    else
      lt (((x0).length : Int)) fun v24 =>
      lt (w64 (v24 - (4 : Int))) fun v26 =>
      (cutTo x0 v26).bind fun v28 =>
      lt ((⟨v28, (0 : Int), (0 : Int)⟩ : butteryref02_Reader)) fun v30 =>
      (butteryref02_Number v30 (6 : Int)).bind fun v32 =>
      (butteryref02_Number (v32.1 : butteryref02_Reader) (16 : Int)).bind fun v37 =>
      (butteryref02_Number (v37.1 : butteryref02_Reader) (16 : Int)).bind fun v42 =>
      (butteryref02_Number (v42.1 : butteryref02_Reader) (1099511627776 : Int)).bind fun v47 =>
      lt ((⟨v32.2, v37.2, v42.2, v47.2, (0 : Int), z_api_Entry, false⟩ : api_Msg)) fun v52 =>
      (butteryref23_read (v47.1 : butteryref02_Reader) v52).bind fun v54 =>
      lt ((v54.2 : api_Msg)) fun c61 =>
      (butteryref02_End (v54.1 : butteryref02_Reader)).bind fun v64 =>
      lt (v64 != (0 : Int)) fun v66 =>
      if v66 = true then
        lt ((⟨(0 : Int), (0 : Int), (0 : Int), (0 : Int), (0 : Int), z_api_Entry, false⟩ : api_Msg)) fun v69 =>
        lt ((v69 : api_Msg)) fun c71 =>
        some (c71, v64)
      else
        (butteryref23_Check c61).bind fun v74 =>
        lt (v74 != (0 : Int)) fun v76 =>
        if v76 = true then
          lt ((⟨(0 : Int), (0 : Int), (0 : Int), (0 : Int), (0 : Int), z_api_Entry, false⟩ : api_Msg)) fun v79 =>
          lt ((v79 : api_Msg)) fun c81 =>
          some (c81, v74)
        else
          lt ((c61 : api_Msg)) fun c84 =>
          some (c84, (0 : Int))
end Go.Proofs.YthkfilchighbhaaDoor
namespace Go.Proofs.YthkfilchighbhaaDoor
open Go Go.Va
set_option linter.unusedVariables false
set_option linter.unusedSimpArgs false
/-- One part, read. -/
def gS (b : List (BitVec 8)) (c : BitVec 8) (m : api_Msg) (r : rdr) : api_Msg × rdr :=
  if c = 73#8 then ({ m with Id := (rN b r 1099511627776).1 }, (rN b r 1099511627776).2)
  else if c = 75#8 then ({ m with X := { m.X with Key := (rB b r 40).1 } }, (rB b r 40).2)
  else if c = 65#8 then ({ m with X := { m.X with AsOf := (rN b r 1099511627776).1 } }, (rN b r 1099511627776).2)
  else if c = 70#8 then ({ m with Found := ((rN b r 1).1 : Int) == 1 }, (rN b r 1).2)
  else if m.Found = true then
    ({ m with X := { m.X with Version := (rN b r 1099511627776).1, Ends := (rN b (rN b r 1099511627776).2 1099511627776).1, Value := (rB b (rN b (rN b r 1099511627776).2 1099511627776).2 4096).1 } }, (rB b (rN b (rN b r 1099511627776).2 1099511627776).2 4096).2)
  else (m, r)
def gL (b : List (BitVec 8)) : List (BitVec 8) → api_Msg → rdr → api_Msg × rdr
  | [], m, r => (m, r)
  | c :: l, m, r => gL b l (gS b c m r).1 (gS b c m r).2
/-- The same, up to the first thing that is wrong. -/
def gW (b : List (BitVec 8)) : List (BitVec 8) → api_Msg → rdr → api_Msg × rdr
  | [], m, r => (m, r)
  | c :: l, m, r => if r.e ≠ 0 then (m, r) else gW b l (gS b c m r).1 (gS b c m r).2
theorem rN_bad {b : List (BitVec 8)} {r : rdr} {m : Nat} (h : r.e ≠ 0) : rN b r m = (0, r) := by unfold rN; rw [if_neg h]
theorem rB_bad {b : List (BitVec 8)} {r : rdr} {m : Nat} (h : r.e ≠ 0) : rB b r m = ([], r) := by unfold rB; rw [if_neg h]
theorem gS_bad {b : List (BitVec 8)} {c : BitVec 8} {m : api_Msg} {r : rdr} (h : r.e ≠ 0) : (gS b c m r).2 = r := by
  unfold gS
  simp only [rN_bad h, rB_bad h]
  repeat' split
  all_goals rfl
theorem gL_bad {b : List (BitVec 8)} {r : rdr} (h : r.e ≠ 0) : ∀ (l : List (BitVec 8)) (m : api_Msg), (gL b l m r).2 = r
  | [], m => rfl
  | c :: l, m => by
    simp only [gL]
    rw [gS_bad h]
    exact gL_bad h l _
theorem gW_eq {b : List (BitVec 8)} : ∀ (l : List (BitVec 8)) (m : api_Msg) (r : rdr), (gW b l m r).2 = (gL b l m r).2 ∧ ((gL b l m r).2.e = 0 → gW b l m r = gL b l m r)
  | [], m, r => ⟨rfl, fun _ => rfl⟩
  | c :: l, m, r => by
    by_cases h : r.e = 0
    · simp only [gW, gL]
      rw [if_neg (by simp [h])]
      exact gW_eq l _ _
    · have hb : (gL b (c :: l) m r).2 = r := gL_bad h _ _
      simp only [gW]
      rw [if_pos h, hb]
      exact ⟨rfl, fun h2 => absurd h2 h⟩
theorem gS_le {b : List (BitVec 8)} {c : BitVec 8} {m : api_Msg} {r : rdr} (hr : r.a ≤ b.length) : (gS b c m r).2.a ≤ b.length := by
  unfold gS
  have h1 := rN_le hr 1099511627776
  have h2 := rN_le h1.1 1099511627776
  have h3 := rB_le h2.1 4096
  have h4 := rB_le hr 40
  have h5 := rN_le hr 1
  repeat' split
  · exact h1.1
  · exact h4.1
  · exact h1.1
  · exact h5.1
  · exact h3.1
  · exact hr
theorem gL_le {b : List (BitVec 8)} : ∀ (l : List (BitVec 8)) (m : api_Msg) {r : rdr}, r.a ≤ b.length → (gL b l m r).2.a ≤ b.length
  | [], m, r, h => h
  | c :: l, m, r, h => gL_le l _ (gS_le h)
theorem get_l {b : List (BitVec 8)} (hb : b.length ≤ 1000000) (x : List (BitVec 8)) : ∀ (l s : List (BitVec 8)) (p : Nat) (m : api_Msg) (r : rdr), (∀ c ∈ l, isP c) → s.drop p = l → r.a ≤ b.length →
    ∃ q, wire_Get_l0 x ((s, p), m, r.o b) = some (q, (gW b l m r).1, (gW b l m r).2.o b)
  | [], s, p, m, r, _, h, _ => ⟨(s, p), by
    refine loopO_out (body := fun s => wire_Get_b0 x s.1 s.2.1 s.2.2) ?_
    simp only [wire_Get_b0, nxS_end h, Option.bind_some, Option.elim_none, gW]⟩
  | c :: l, s, p, m, r, hl, h, hr => by
    have hc := hl c (List.mem_cons_self ..)
    obtain ⟨h1, h2⟩ := nxS_at (c := c) h (by rcases hc with rfl | rfl | rfl | rfl | rfl <;> decide)
    have hcode : octets_Reader_Code (r.o b) = some r.e := rfl
    by_cases he : r.e = 0
    · have key : wire_Get_b0 x (s, p) m (r.o b) = some (.inl ((s, p + 1), (gS b c m r).1, (gS b c m r).2.o b)) := by
        simp only [wire_Get_b0, h1, Option.bind_some, Option.elim_some, lt_eq, hcode, he, bne_self_eq_false, Bool.false_eq_true, if_false]
        unfold gS
        have l1 := rN_le hr 1099511627776
        have l2 := rN_le l1.1 1099511627776
        rcases hc with rfl | rfl | rfl | rfl | rfl
        · simp only [show ((((73#8 : BitVec 8).toNat : Int)) == 73) = true from rfl, if_true]
          rw [show (1099511627776 : Int) = ((1099511627776 : Nat) : Int) from rfl, octN_r hb hr (by omega)]
          rfl
        · simp only [show ((((75#8 : BitVec 8).toNat : Int)) == 73) = false from rfl, show ((((75#8 : BitVec 8).toNat : Int)) == 75) = true from rfl, Bool.false_eq_true, if_false, if_true, show ¬ (75#8 : BitVec 8) = 73#8 by decide]
          rw [show (40 : Int) = ((40 : Nat) : Int) from rfl, octB_r hb hr (by omega)]
          rfl
        · simp only [show ((((65#8 : BitVec 8).toNat : Int)) == 73) = false from rfl, show ((((65#8 : BitVec 8).toNat : Int)) == 75) = false from rfl, show ((((65#8 : BitVec 8).toNat : Int)) == 65) = true from rfl, Bool.false_eq_true, if_false, if_true, show ¬ (65#8 : BitVec 8) = 73#8 by decide, show ¬ (65#8 : BitVec 8) = 75#8 by decide]
          rw [show (1099511627776 : Int) = ((1099511627776 : Nat) : Int) from rfl, octN_r hb hr (by omega)]
          rfl
        · simp only [show ((((70#8 : BitVec 8).toNat : Int)) == 73) = false from rfl, show ((((70#8 : BitVec 8).toNat : Int)) == 75) = false from rfl, show ((((70#8 : BitVec 8).toNat : Int)) == 65) = false from rfl, show ((((70#8 : BitVec 8).toNat : Int)) == 70) = true from rfl, Bool.false_eq_true, if_false, if_true, show ¬ (70#8 : BitVec 8) = 73#8 by decide, show ¬ (70#8 : BitVec 8) = 75#8 by decide, show ¬ (70#8 : BitVec 8) = 65#8 by decide]
          have h5 := octN_r hb hr (m := 1) (by omega)
          rw [show ((1 : Nat) : Int) = 1 from rfl] at h5
          rw [h5]
          rfl
        · simp only [show ((((86#8 : BitVec 8).toNat : Int)) == 73) = false from rfl, show ((((86#8 : BitVec 8).toNat : Int)) == 75) = false from rfl, show ((((86#8 : BitVec 8).toNat : Int)) == 65) = false from rfl, show ((((86#8 : BitVec 8).toNat : Int)) == 70) = false from rfl, show ((((86#8 : BitVec 8).toNat : Int)) == 86) = true from rfl, Bool.false_eq_true, if_false, if_true, show ¬ (86#8 : BitVec 8) = 73#8 by decide, show ¬ (86#8 : BitVec 8) = 75#8 by decide, show ¬ (86#8 : BitVec 8) = 65#8 by decide, show ¬ (86#8 : BitVec 8) = 70#8 by decide]
          by_cases hf : m.Found = true
          · rw [if_pos hf, if_pos hf, show (1099511627776 : Int) = ((1099511627776 : Nat) : Int) from rfl, octN_r hb hr (by omega)]
            simp only [Option.bind_some]
            rw [octN_r hb l1.1 (by omega)]
            simp only [Option.bind_some]
            rw [show (4096 : Int) = ((4096 : Nat) : Int) from rfl, octB_r hb l2.1 (by omega)]
            rfl
          · rw [if_neg hf, if_neg hf]
      obtain ⟨q, hq⟩ := get_l hb x l s (p + 1) (gS b c m r).1 (gS b c m r).2 (fun d hd => hl d (List.mem_cons_of_mem _ hd)) h2 (gS_le hr)
      refine ⟨q, ?_⟩
      simp only [gW]
      rw [if_neg (by simp [he]), ← hq]
      exact loopO_in (body := fun s => wire_Get_b0 x s.1 s.2.1 s.2.2) key
    · refine ⟨(s, p + 1), loopO_out (body := fun s => wire_Get_b0 x s.1 s.2.1 s.2.2) ?_⟩
      simp only [wire_Get_b0, h1, Option.bind_some, Option.elim_some, lt_eq, hcode, gW]
      rw [if_pos (by simpa using he), if_pos he]
def zeroM : api_Msg := ⟨0, 0, 0, 0, 0, zeroE, false⟩
/-- The message's head. -/
def hdM (b : List (BitVec 8)) : api_Msg × rdr :=
  (⟨(rN b ⟨0, 0⟩ 6).1, (rN b (rN b ⟨0, 0⟩ 6).2 16).1, (rN b (rN b (rN b ⟨0, 0⟩ 6).2 16).2 16).1, (rN b (rN b (rN b (rN b ⟨0, 0⟩ 6).2 16).2 16).2 1099511627776).1, 0, zeroE, false⟩, (rN b (rN b (rN b (rN b ⟨0, 0⟩ 6).2 16).2 16).2 1099511627776).2)
def bdM (b : List (BitVec 8)) : api_Msg × rdr := gL b (ptsA (hdM b).1.Kind) (hdM b).1 (hdM b).2
def endC (b : List (BitVec 8)) (r : rdr) : Int := if r.e = 0 ∧ r.a < b.length then 5 else r.e
/-- Which message bytes are. -/
def decM (b : List (BitVec 8)) : api_Msg × Int :=
  if b.length < 4 then (zeroM, 6) else if cfits b = false then (zeroM, 7) else
  if endC (b.take (b.length - 4)) (bdM (b.take (b.length - 4))).2 ≠ 0 then (zeroM, endC (b.take (b.length - 4)) (bdM (b.take (b.length - 4))).2) else
  if ckM (bdM (b.take (b.length - 4))).1 ≠ 0 then (zeroM, ckM (bdM (b.take (b.length - 4))).1) else ((bdM (b.take (b.length - 4))).1, 0)
theorem hdM_le (b : List (BitVec 8)) : (hdM b).2.a ≤ b.length := by
  have h1 := rN_le (b := b) (r := ⟨0, 0⟩) (by simp) 6
  have h2 := rN_le h1.1 16
  have h3 := rN_le h2.1 16
  exact (rN_le h3.1 1099511627776).1
theorem wget_eq {b : List (BitVec 8)} (hb : b.length ≤ 900000) : ∃ e, wire_Get b = some ((decM b).1, e) ∧ codeOf e = (decM b).2 ∧ e.isNil = decide ((decM b).2 = 0) := by
  unfold wire_Get decM
  simp only [lt_eq]
  by_cases h4 : b.length < 4
  · rw [if_pos (decide_eq_true (by omega)), if_pos h4, new_eq _ _ (6 : Int) (by decide)]
    exact ⟨_, rfl, rfl, rfl⟩
  · rw [if_neg (by rw [decide_eq_false (by omega)]; simp), if_neg h4, fits_eq (by omega)]
    simp only [Option.bind_some]
    cases hfit : cfits b with
    | false =>
      rw [if_pos rfl, new_eq _ _ (7 : Int) (by decide)]
      exact ⟨_, rfl, rfl, rfl⟩
    | true =>
      rw [if_neg (by simp), w64_eq (by omega) (by omega), show (b.length : Int) - 4 = ((b.length - 4 : Nat) : Int) by omega, cutTo_eq (by omega)]
      simp only [Option.bind_some]
      have hc : (b.take (b.length - 4)).length ≤ 900000 := by rw [List.length_take]; omega
      generalize b.take (b.length - 4) = c at *
      rw [read_eq (by omega)]
      simp only [Option.bind_some]
      have h1 := rN_le (b := c) (r := ⟨0, 0⟩) (by simp) 6
      have h2 := rN_le h1.1 16
      have h3 := rN_le h2.1 16
      have hle := hdM_le c
      have k1 := octN_r (b := c) (r := ⟨0, 0⟩) (by omega) (by simp) (m := 6) (by omega)
      have k2 := octN_r (b := c) (by omega) h1.1 (m := 16) (by omega)
      have k3 := octN_r (b := c) (by omega) h2.1 (m := 16) (by omega)
      have k4 := octN_r (b := c) (by omega) h3.1 (m := 1099511627776) (by omega)
      have e0 : (⟨c, 0, 0⟩ : octets_Reader) = rdr.o ⟨0, 0⟩ c := rfl
      rw [e0, show (6 : Int) = ((6 : Nat) : Int) from rfl, k1]
      simp only [Option.bind_some]
      rw [show (16 : Int) = ((16 : Nat) : Int) from rfl, k2]
      simp only [Option.bind_some]
      rw [k3]
      simp only [Option.bind_some]
      rw [show (1099511627776 : Int) = ((1099511627776 : Nat) : Int) from rfl, k4]
      simp only [Option.bind_some]
      rw [parts_eq]
      simp only [Option.bind_some]
      obtain ⟨q, hq⟩ := get_l (b := c) (by omega) b (ptsA (hdM c).1.Kind) (ptsA (hdM c).1.Kind) 0 (hdM c).1 (hdM c).2 (ptsA_is _) rfl hle
      have hq' := hq
      unfold hdM at hq
      simp only at hq
      have ez : z_api_Entry = zeroE := rfl
      simp only [z_api_Msg, ez, hq, Option.bind_some]
      have hg := gW_eq (b := c) (ptsA (hdM c).1.Kind) (hdM c).1 (hdM c).2
      have hgl := gL_le (b := c) (ptsA (hdM c).1.Kind) (hdM c).1 hle
      have ew : gW c (ptsA ((rN c ⟨0, 0⟩ 6).1 : Int)) ⟨((rN c ⟨0, 0⟩ 6).1 : Int), ((rN c (rN c ⟨0, 0⟩ 6).2 16).1 : Int), ((rN c (rN c (rN c ⟨0, 0⟩ 6).2 16).2 16).1 : Int), ((rN c (rN c (rN c (rN c ⟨0, 0⟩ 6).2 16).2 16).2 1099511627776).1 : Int), 0, zeroE, false⟩ (rN c (rN c (rN c (rN c ⟨0, 0⟩ 6).2 16).2 16).2 1099511627776).2 = gW c (ptsA (hdM c).1.Kind) (hdM c).1 (hdM c).2 := rfl
      rw [ew]
      unfold bdM
      generalize gW c (ptsA (hdM c).1.Kind) (hdM c).1 (hdM c).2 = W at *
      generalize gL c (ptsA (hdM c).1.Kind) (hdM c).1 (hdM c).2 = L at *
      obtain ⟨g1, g2⟩ := hg
      rw [g1]
      have he := end_eq (b := c) (a := L.2.a) (e := L.2.e) (by omega) hgl
      have he' : octets_Reader_End (L.2.o c) = some (endC c L.2, ⟨c, L.2.a, endC c L.2⟩) := he
      rw [he']
      simp only [Option.bind_some]
      by_cases h5 : endC c L.2 = 0
      · have b5 : (endC c L.2 != 0) = false := by simp [h5]
        simp only [b5, h5, Bool.false_eq_true, if_false, ne_eq, not_true_eq_false]
        have h6 : L.2.e = 0 := by
          unfold endC at h5
          split at h5
          · cases h5
          · exact h5
        rw [g2 h6]
        obtain ⟨e, e1, e2, e3⟩ := wcheck_eq L.1
        simp only [e1, Option.bind_some, e3]
        by_cases h7 : ckM L.1 = 0
        · simp only [h7, decide_true, Bool.not_true, Bool.false_eq_true, if_false, not_true_eq_false]
          exact ⟨_, rfl, rfl, rfl⟩
        · have h8 : e.isNil = false := by rw [e3]; simp [h7]
          simp only [h7, decide_false, Bool.not_false, if_true, not_false_eq_true, wrap_eq _ _ e h8, Option.bind_some]
          exact ⟨_, rfl, by simp [codeOf, e2], by simp [Err.isNil, h7]⟩
      · have b5 : (endC c L.2 != 0) = true := by simpa using h5
        have ha : octets_Reader_At ⟨c, L.2.a, endC c L.2⟩ = some (L.2.a : Int) := rfl
        simp only [b5, h5, if_true, ne_eq, not_false_eq_true, ha, Option.bind_some, new_eq _ _ _ h5]
        exact ⟨_, rfl, by simp [codeOf, h5], by simp [Err.isNil, h5]⟩
end Go.Proofs.YthkfilchighbhaaDoor
namespace Go.Proofs.YthkfilchighbhaaDoor
open Go Go.Va
set_option linter.unusedVariables false
set_option linter.unusedSimpArgs false
theorem ptsA_cases (k : Int) : (k = 2 ∧ ptsA k = [65#8, 70#8]) ∨ ((k = 3 ∨ k = 4) ∧ ptsA k = [75#8, 65#8]) ∨ (k = 5 ∧ ptsA k = [73#8, 75#8]) ∨ (k = 6 ∧ ptsA k = [73#8, 75#8, 65#8, 70#8, 86#8]) ∨ (k ≠ 2 ∧ k ≠ 3 ∧ k ≠ 4 ∧ k ≠ 5 ∧ k ≠ 6 ∧ ptsA k = []) := by
  by_cases h2 : k = 2
  · exact .inl ⟨h2, by rw [h2]; rfl⟩
  by_cases h3 : k = 3
  · exact .inr (.inl ⟨.inl h3, by rw [h3]; rfl⟩)
  by_cases h4 : k = 4
  · exact .inr (.inl ⟨.inr h4, by rw [h4]; rfl⟩)
  by_cases h5 : k = 5
  · exact .inr (.inr (.inl ⟨h5, by rw [h5]; rfl⟩))
  by_cases h6 : k = 6
  · exact .inr (.inr (.inr (.inl ⟨h6, by rw [h6]; rfl⟩)))
  exact .inr (.inr (.inr (.inr ⟨h2, h3, h4, h5, h6, by simp [ptsA, h2, h3, h4, h5, h6]⟩)))
theorem read_eq23 {b : List (BitVec 8)} (hb : b.length ≤ 900000) (m : api_Msg) {r : rdr} (hr : r.a ≤ b.length) : butteryref23_read (r.x b) m = some ((gL b (ptsA m.Kind) m r).2.x b, (gL b (ptsA m.Kind) m r).1) := by
  have N1 : ∀ {r : rdr}, r.a ≤ b.length → butteryref02_Number (r.x b) 1099511627776 = some ((rN b r 1099511627776).2.x b, ((rN b r 1099511627776).1 : Int)) := fun h => refN_r (by omega) h (m := 1099511627776) (by omega)
  have N2 : ∀ {r : rdr}, r.a ≤ b.length → butteryref02_Number (r.x b) 1 = some ((rN b r 1).2.x b, ((rN b r 1).1 : Int)) := fun h => refN_r (by omega) h (m := 1) (by omega)
  have B1 : ∀ {r : rdr}, r.a ≤ b.length → butteryref02_Text (r.x b) 40 = some ((rB b r 40).2.x b, (rB b r 40).1) := fun h => refB_r (by omega) h (m := 40) (by omega)
  have B2 : ∀ {r : rdr}, r.a ≤ b.length → butteryref02_Text (r.x b) 4096 = some ((rB b r 4096).2.x b, (rB b r 4096).1) := fun h => refB_r (by omega) h (m := 4096) (by omega)
  unfold butteryref23_read
  obtain ⟨k, f, t, e, i, x, fd⟩ := m
  simp only [lt_eq, lease_eq, hkey_eq, asof_eq, hfound_eq, Option.bind_some]
  rcases ptsA_cases k with ⟨rfl, hp⟩ | ⟨hk, hp⟩ | ⟨rfl, hp⟩ | ⟨rfl, hp⟩ | ⟨h2, h3, h4, h5, h6, hp⟩
  · have l1 := (rN_le hr 1099511627776).1
    rw [hp]
    simp only [Int.reduceEq, Int.reduceBEq, or_true, true_or, or_self, or_false, false_or, decide_true, decide_false, if_true, Bool.false_eq_true, if_false, Option.bind_some, N1 hr, N2 l1]
    simp [gL, gS]
  · have l1 := (rB_le hr 40).1
    have l2 := (rN_le l1 1099511627776).1
    rw [hp]
    rcases hk with rfl | rfl <;> simp only [Int.reduceEq, Int.reduceBEq, or_true, true_or, or_self, or_false, false_or, decide_true, decide_false, if_true, Bool.false_eq_true, if_false, Option.bind_some, B1 hr, N1 l1] <;> simp [gL, gS]
  · have l1 := (rN_le hr 1099511627776).1
    rw [hp]
    simp only [Int.reduceEq, Int.reduceBEq, or_true, true_or, or_self, or_false, false_or, decide_true, decide_false, if_true, Bool.false_eq_true, if_false, Option.bind_some, N1 hr, B1 l1]
    simp [gL, gS]
  · have l1 := (rN_le hr 1099511627776).1
    have l2 := (rB_le l1 40).1
    have l3 := (rN_le l2 1099511627776).1
    have l4 := (rN_le l3 1).1
    have l5 := (rN_le l4 1099511627776).1
    have l6 := (rN_le l5 1099511627776).1
    rw [hp]
    simp only [Int.reduceEq, Int.reduceBEq, or_true, true_or, or_self, or_false, false_or, decide_true, decide_false, if_true, Bool.false_eq_true, if_false, Option.bind_some, N1 hr, B1 l1, N1 l2, N2 l3]
    simp only [gL, gS, if_true, show ¬ (75#8 : BitVec 8) = 73#8 by decide, show ¬ (65#8 : BitVec 8) = 73#8 by decide, show ¬ (65#8 : BitVec 8) = 75#8 by decide, show ¬ (70#8 : BitVec 8) = 73#8 by decide, show ¬ (70#8 : BitVec 8) = 75#8 by decide, show ¬ (70#8 : BitVec 8) = 65#8 by decide, show ¬ (86#8 : BitVec 8) = 73#8 by decide, show ¬ (86#8 : BitVec 8) = 75#8 by decide, show ¬ (86#8 : BitVec 8) = 65#8 by decide, show ¬ (86#8 : BitVec 8) = 70#8 by decide, if_false]
    cases hf : (((rN b (rN b (rB b (rN b r 1099511627776).2 40).2 1099511627776).2 1).1 : Int) == 1) with
    | true => simp only [if_true, N1 l4, N1 l5, B2 l6, Option.bind_some]
    | false => simp only [Bool.false_eq_true, if_false, Option.bind_some]
  · have hb : (k == 6) = false := by simpa using h6
    rw [hp]
    simp only [h2, h3, h4, h5, h6, or_self, decide_false, Bool.false_eq_true, if_false, Option.bind_some, hb]
    simp [gL]
theorem rN_Kind (b : List (BitVec 8)) : 0 ≤ (hdM b).1.Kind := by simp only [hdM]; omega
theorem gS_val {b : List (BitVec 8)} {c : BitVec 8} {m : api_Msg} {r : rdr} (hr : r.a ≤ b.length) (hm : m.X.Value.length ≤ b.length) : (gS b c m r).1.X.Value.length ≤ b.length := by
  unfold gS
  have h1 := rN_le hr 1099511627776
  have h2 := rN_le h1.1 1099511627776
  have h3 := rB_le h2.1 4096
  repeat' split
  all_goals first | exact hm | exact h3.2.2
theorem gL_val {b : List (BitVec 8)} : ∀ (l : List (BitVec 8)) (m : api_Msg) {r : rdr}, r.a ≤ b.length → m.X.Value.length ≤ b.length → (gL b l m r).1.X.Value.length ≤ b.length
  | [], m, r, h, hm => hm
  | c :: l, m, r, h, hm => gL_val l _ (gS_le h) (gS_val h hm)
theorem rget_eq {b : List (BitVec 8)} (hb : b.length ≤ 900000) : butteryref23_Get b = some (decM b) := by
  unfold butteryref23_Get decM
  simp only [lt_eq]
  by_cases h4 : b.length < 4
  · rw [if_pos (decide_eq_true (by omega)), if_pos h4]; rfl
  · rw [if_neg (by rw [decide_eq_false (by omega)]; simp), if_neg h4, rcFits_eq (by omega)]
    simp only [Option.bind_some]
    cases hfit : cfits b with
    | false =>
      rw [if_pos rfl]; rfl
    | true =>
      rw [if_neg (by simp), w64_eq (by omega) (by omega), show (b.length : Int) - 4 = ((b.length - 4 : Nat) : Int) by omega, cutTo_eq (by omega)]
      simp only [Option.bind_some]
      have hc : (b.take (b.length - 4)).length ≤ 900000 := by rw [List.length_take]; omega
      generalize b.take (b.length - 4) = c at *
      have h1 := rN_le (b := c) (r := ⟨0, 0⟩) (by simp) 6
      have h2 := rN_le h1.1 16
      have h3 := rN_le h2.1 16
      have hle := hdM_le c
      have k1 := refN_r (b := c) (r := ⟨0, 0⟩) (by omega) (by simp) (m := 6) (by omega)
      have k2 := refN_r (b := c) (by omega) h1.1 (m := 16) (by omega)
      have k3 := refN_r (b := c) (by omega) h2.1 (m := 16) (by omega)
      have k4 := refN_r (b := c) (by omega) h3.1 (m := 1099511627776) (by omega)
      have e0 : (⟨c, 0, 0⟩ : butteryref02_Reader) = rdr.x ⟨0, 0⟩ c := rfl
      rw [e0, show (6 : Int) = ((6 : Nat) : Int) from rfl, k1]
      simp only [Option.bind_some]
      rw [show (16 : Int) = ((16 : Nat) : Int) from rfl, k2]
      simp only [Option.bind_some]
      rw [k3]
      simp only [Option.bind_some]
      rw [show (1099511627776 : Int) = ((1099511627776 : Nat) : Int) from rfl, k4]
      simp only [Option.bind_some]
      have hr := read_eq23 (b := c) (by omega) (hdM c).1 hle
      have ez : z_api_Entry = zeroE := rfl
      have hr' : butteryref23_read ((rN c (rN c (rN c (rN c ⟨0, 0⟩ 6).2 16).2 16).2 1099511627776).2.x c) ⟨((rN c ⟨0, 0⟩ 6).1 : Int), ((rN c (rN c ⟨0, 0⟩ 6).2 16).1 : Int), ((rN c (rN c (rN c ⟨0, 0⟩ 6).2 16).2 16).1 : Int), ((rN c (rN c (rN c (rN c ⟨0, 0⟩ 6).2 16).2 16).2 1099511627776).1 : Int), 0, zeroE, false⟩ = some ((bdM c).2.x c, (bdM c).1) := hr
      have hv := gL_val (b := c) (ptsA (hdM c).1.Kind) (hdM c).1 hle (by simp [hdM, zeroE])
      simp only [ez, hr', Option.bind_some]
      have hv' : (bdM c).1.X.Value.length ≤ c.length := hv
      generalize bdM c = L at *
      have he : butteryref02_End (L.2.x c) = some (endC c L.2) := rend_eq
      simp only [he, Option.bind_some]
      by_cases h5 : endC c L.2 = 0
      · have b5 : (endC c L.2 != 0) = false := by simp [h5]
        simp only [b5, h5, Bool.false_eq_true, if_false, ne_eq, not_true_eq_false]
        rw [rcheck_eq (by omega)]
        simp only [Option.bind_some]
        by_cases h7 : ckM L.1 = 0
        · simp [h7]
        · simp [h7, zeroM]
      · have b5 : (endC c L.2 != 0) = true := by simpa using h5
        simp only [b5, h5, if_true, ne_eq, not_false_eq_true]
        rfl
/-- A part that is there is read. -/
def upP (m : api_Msg) (c : BitVec 8) (z : api_Msg) : api_Msg :=
  if c = 73#8 then { z with Id := m.Id }
  else if c = 75#8 then { z with X := { z.X with Key := m.X.Key } }
  else if c = 65#8 then { z with X := { z.X with AsOf := m.X.AsOf } }
  else if c = 70#8 then { z with Found := m.Found }
  else if m.Found = true then { z with X := { z.X with Version := m.X.Version, Ends := m.X.Ends, Value := m.X.Value } } else z
theorem gS_is {m z : api_Msg} {b l : List (BitVec 8)} {c : BitVec 8} {r : rdr} (hc : okP m c) (he : r.e = 0) (hr : r.a ≤ b.length) (h : b.drop r.a = stP m c ++ l) (hf : c = 86#8 → z.Found = m.Found) : gS b c z r = (upP m c z, ⟨r.a + (stP m c).length, 0⟩) := by
  unfold gS upP
  unfold stP at h ⊢
  rcases hc with ⟨rfl, g1, g2⟩ | ⟨rfl, g⟩ | ⟨rfl, g1, g2⟩ | rfl | ⟨rfl, g⟩
  · simp only [if_true] at h ⊢
    have k := rN_is he h (m := 1099511627776) (by omega) (by omega)
    have e2 : (m.Id.toNat : Int) = m.Id := by omega
    rw [k]
    simp only [e2]
  · simp only [show ¬ (75#8 : BitVec 8) = 73#8 by decide, if_true, if_false] at h ⊢
    rw [List.append_assoc] at h
    have k := rB_is he hr h (m := 40) (by omega) (by omega)
    rw [k, List.length_append, Nat.add_assoc]
  · simp only [show ¬ (65#8 : BitVec 8) = 73#8 by decide, show ¬ (65#8 : BitVec 8) = 75#8 by decide, if_true, if_false] at h ⊢
    have k := rN_is he h (m := 1099511627776) (by omega) (by omega)
    have e2 : (m.X.AsOf.toNat : Int) = m.X.AsOf := by omega
    rw [k]
    simp only [e2]
  · simp only [show ¬ (70#8 : BitVec 8) = 73#8 by decide, show ¬ (70#8 : BitVec 8) = 75#8 by decide, show ¬ (70#8 : BitVec 8) = 65#8 by decide, if_true, if_false] at h ⊢
    have k := rN_is he h (m := 1) (by split <;> omega) (by split <;> omega)
    rw [k]
    cases hF : m.Found <;> simp
  · simp only [show ¬ (86#8 : BitVec 8) = 73#8 by decide, show ¬ (86#8 : BitVec 8) = 75#8 by decide, show ¬ (86#8 : BitVec 8) = 65#8 by decide, show ¬ (86#8 : BitVec 8) = 70#8 by decide, if_false, hf rfl] at h ⊢
    by_cases hF : m.Found = true
    · simp only [hF, if_true, List.append_assoc] at h ⊢
      obtain ⟨a1, a2, a3, a4, a5, a6, a7, a8, a9⟩ := ck_ok (g hF)
      have k1 := rN_is he h (m := 1099511627776) (by omega) (by omega)
      have d1 := drop_app h
      have l1 := (rN_le hr 1099511627776).1
      rw [k1] at l1
      have k2 := rN_is (r := ⟨r.a + (num7 m.X.Version.toNat).length, 0⟩) rfl d1 (m := 1099511627776) (by omega) (by omega)
      have d2 := drop_app d1
      have l2 := (rN_le l1 1099511627776).1
      rw [k2] at l2
      have k3 := rB_is (r := ⟨r.a + (num7 m.X.Version.toNat).length + (num7 m.X.Ends.toNat).length, 0⟩) rfl l2 d2 (m := 4096) (by omega) (by omega)
      have e2 : (m.X.Version.toNat : Int) = m.X.Version := by omega
      have e3 : (m.X.Ends.toNat : Int) = m.X.Ends := by omega
      simp only [k1, k2, k3, e2, e3]
      refine Prod.ext rfl ?_
      simp only [List.length_append, rdr.mk.injEq, and_true]
      omega
    · simp only [hF, Bool.false_eq_true, if_false, List.length_nil, Nat.add_zero]
      refine Prod.ext rfl ?_
      obtain ⟨a, e⟩ := r
      simp only at he
      subst he
      rfl
end Go.Proofs.YthkfilchighbhaaDoor
namespace Go.Proofs.YthkfilchighbhaaDoor
open Go Go.Va
set_option linter.unusedVariables false
set_option linter.unusedSimpArgs false
theorem gL_is {m : api_Msg} {b rest : List (BitVec 8)} : ∀ (l : List (BitVec 8)) (z : api_Msg) (r : rdr), (∀ c ∈ l, okP m c) → r.e = 0 → r.a ≤ b.length → b.drop r.a = l.flatMap (stP m) ++ rest →
    (86#8 ∉ l ∨ z.Found = m.Found ∨ ∃ l1 l2, l = l1 ++ 70#8 :: l2 ∧ 86#8 ∉ l1) → gL b l z r = (l.foldl (fun z c => upP m c z) z, ⟨r.a + (l.flatMap (stP m)).length, 0⟩)
  | [], z, r, _, he, _, h, _ => by
    obtain ⟨a, e⟩ := r
    simp only at he
    subst he
    rfl
  | c :: l, z, r, hl, he, hr, h, hf => by
    have hc := hl c (List.mem_cons_self ..)
    simp only [List.flatMap_cons, List.append_assoc] at h
    have k := gS_is (z := z) hc he hr h (fun e => by
      subst e
      rcases hf with hf | hf | ⟨l1, l2, h1, h2⟩
      · exact absurd (List.mem_cons_self ..) hf
      · exact hf
      · cases l1 with
        | nil => simp at h1
        | cons x l1 => simp at h1; obtain ⟨rfl, _⟩ := h1; exact absurd (List.mem_cons_self ..) h2)
    have hle := gS_le (b := b) (c := c) (m := z) hr
    rw [k] at hle
    simp only [gL, k, List.foldl_cons]
    rw [gL_is l (upP m c z) ⟨r.a + (stP m c).length, 0⟩ (fun d hd => hl d (List.mem_cons_of_mem _ hd)) rfl hle (drop_app h) ?_]
    · simp only [List.flatMap_cons, List.length_append, Nat.add_assoc]
    · rcases hf with hf | hf | ⟨l1, l2, h1, h2⟩
      · exact .inl (fun h => hf (List.mem_cons_of_mem _ h))
      · refine .inr (.inl ?_)
        unfold upP
        repeat' split
        all_goals first | exact hf | rfl
      · cases l1 with
        | nil =>
          simp at h1
          obtain ⟨rfl, rfl⟩ := h1
          exact .inr (.inl rfl)
        | cons x l1 =>
          simp at h1
          obtain ⟨rfl, rfl⟩ := h1
          exact .inr (.inr ⟨l1, l2, rfl, fun h => h2 (List.mem_cons_of_mem _ h)⟩)
theorem ptsA_F (k : Int) (z m : api_Msg) : 86#8 ∉ ptsA k ∨ z.Found = m.Found ∨ ∃ l1 l2, ptsA k = l1 ++ 70#8 :: l2 ∧ 86#8 ∉ l1 := by
  rcases ptsA_cases k with ⟨_, hp⟩ | ⟨_, hp⟩ | ⟨_, hp⟩ | ⟨_, hp⟩ | ⟨_, _, _, _, _, hp⟩ <;> rw [hp]
  · exact .inl (by decide)
  · exact .inl (by decide)
  · exact .inl (by decide)
  · exact .inr (.inr ⟨[73#8, 75#8, 65#8], [86#8], rfl, by decide⟩)
  · exact .inl (by simp)
theorem fold_up {m : api_Msg} (h : okM m) : (ptsA m.Kind).foldl (fun z c => upP m c z) ⟨m.Kind, m.From, m.To, m.Epoch, 0, zeroE, false⟩ = m := by
  have h1 := h.k1; have h2 := h.k6; have i0 := h.i0; have key0 := h.key0; have a0 := h.a0; have f := h.f; have v0 := h.v0
  clear h
  obtain ⟨k, fr, t, e, i, ⟨key, ver, asf, ends, val⟩, fd⟩ := m
  simp only at *
  have h0 : k = 1 ∨ k = 2 ∨ k = 3 ∨ k = 4 ∨ k = 5 ∨ k = 6 := by omega
  rcases h0 with rfl | rfl | rfl | rfl | rfl | rfl
  · simp at *; simp [ptsA, zeroE, *]
  · simp at *; simp [ptsA, zeroE, upP, *]
  · simp at *; simp [ptsA, zeroE, upP, *]
  · simp at *; simp [ptsA, zeroE, upP, *]
  · simp at *; simp [ptsA, zeroE, upP, *]
  · cases fd
    · simp at *; simp [ptsA, zeroE, upP, *]
    · simp [ptsA, zeroE, upP]
theorem dec_enc {m : api_Msg} (h : ckM m = 0) : decM (cseal (encM m)) = (m, 0) := by
  have ho := ckM_ok h
  have hl := cseal_len (encM m)
  have htk : (cseal (encM m)).take ((cseal (encM m)).length - 4) = encM m := by
    rw [hl, Nat.add_sub_cancel]
    exact List.take_left' rfl
  unfold decM
  rw [if_neg (by omega), cseal_fits, if_neg (by simp), htk]
  have g1 := ho.k1; have g2 := ho.k6; have g3 := ho.f0; have g4 := ho.f1; have g5 := ho.t0; have g6 := ho.t1; have g7 := ho.e1; have g8 := ho.e2
  have hb : bdM (encM m) = (m, ⟨(encM m).length, 0⟩) := by
    have d0 : (encM m).drop 0 = num7 m.Kind.toNat ++ (num7 m.From.toNat ++ (num7 m.To.toNat ++ (num7 m.Epoch.toNat ++ ((ptsA m.Kind).flatMap (stP m) ++ [])))) := by simp [encM]
    generalize hb : encM m = b at *
    have k1 := rN_is (b := b) (r := ⟨0, 0⟩) rfl d0 (m := 6) (by omega) (by omega)
    have d1 := drop_app d0
    have l1 := (rN_le (b := b) (r := ⟨0, 0⟩) (by simp) 6).1
    rw [k1] at l1
    have k2 := rN_is (r := ⟨0 + (num7 m.Kind.toNat).length, 0⟩) rfl d1 (m := 16) (by omega) (by omega)
    have d2 := drop_app d1
    have l2 := (rN_le l1 16).1
    rw [k2] at l2
    have k3 := rN_is (r := ⟨0 + (num7 m.Kind.toNat).length + (num7 m.From.toNat).length, 0⟩) rfl d2 (m := 16) (by omega) (by omega)
    have d3 := drop_app d2
    have l3 := (rN_le l2 16).1
    rw [k3] at l3
    have k4 := rN_is (r := ⟨0 + (num7 m.Kind.toNat).length + (num7 m.From.toNat).length + (num7 m.To.toNat).length, 0⟩) rfl d3 (m := 1099511627776) (by omega) (by omega)
    have d4 := drop_app d3
    have l4 := (rN_le l3 1099511627776).1
    rw [k4] at l4
    have hh : hdM b = (⟨m.Kind, m.From, m.To, m.Epoch, 0, zeroE, false⟩, ⟨0 + (num7 m.Kind.toNat).length + (num7 m.From.toNat).length + (num7 m.To.toNat).length + (num7 m.Epoch.toNat).length, 0⟩) := by
      unfold hdM
      simp only [k1, k2, k3, k4]
      rw [show (m.Kind.toNat : Int) = m.Kind by omega, show (m.From.toNat : Int) = m.From by omega, show (m.To.toNat : Int) = m.To by omega, show (m.Epoch.toNat : Int) = m.Epoch by omega]
    unfold bdM
    rw [hh]
    simp only
    rw [gL_is (m := m) (rest := []) (ptsA m.Kind) _ _ ho.pts rfl l4 d4 (ptsA_F _ _ _), fold_up ho]
    refine Prod.ext rfl ?_
    simp only [rdr.mk.injEq, and_true]
    rw [← hb]
    simp only [encM, List.length_append]
    omega
  rw [hb]
  have he : endC (encM m) ⟨(encM m).length, 0⟩ = 0 := by simp [endC]
  simp [he, h]
theorem gS_one {b : List (BitVec 8)} {c : BitVec 8} {m : api_Msg} {r : rdr} (hc : isP c) (hr : r.a ≤ b.length) (h : (gS b c m r).2.e = 0) : r.e = 0 ∧ b.drop r.a = stP (gS b c m r).1 c ++ b.drop (gS b c m r).2.a := by
  have he : r.e = 0 := Classical.byContradiction fun h2 => by rw [gS_bad h2] at h; exact h2 h
  refine ⟨he, ?_⟩
  unfold gS at h ⊢
  unfold stP
  rcases hc with rfl | rfl | rfl | rfl | rfl
  · simp only [if_true] at h ⊢
    have k := (rN_one (b := b) (r := r) (m := 1099511627776) (by omega) h).1
    rw [Int.toNat_natCast]; exact k
  · simp only [show ¬ (75#8 : BitVec 8) = 73#8 by decide, if_true, if_false] at h ⊢
    have k := (rB_one (b := b) hr (m := 40) (by omega) h).1
    rw [List.append_assoc]; exact k
  · simp only [show ¬ (65#8 : BitVec 8) = 73#8 by decide, show ¬ (65#8 : BitVec 8) = 75#8 by decide, if_true, if_false] at h ⊢
    have k := (rN_one (b := b) (r := r) (m := 1099511627776) (by omega) h).1
    rw [Int.toNat_natCast]; exact k
  · simp only [show ¬ (70#8 : BitVec 8) = 73#8 by decide, show ¬ (70#8 : BitVec 8) = 75#8 by decide, show ¬ (70#8 : BitVec 8) = 65#8 by decide, if_true, if_false] at h ⊢
    have k := (rN_one (b := b) (r := r) (m := 1) (by omega) h).1
    have hn := (rN_le hr 1).2.2
    have e : (if (((rN b r 1).1 : Int) == 1) = true then 1 else 0) = (rN b r 1).1 := by
      by_cases h1 : (rN b r 1).1 = 1
      · simp [h1]
      · have : (rN b r 1).1 = 0 := by omega
        simp [this]
    rw [e]; exact k
  · simp only [show ¬ (86#8 : BitVec 8) = 73#8 by decide, show ¬ (86#8 : BitVec 8) = 75#8 by decide, show ¬ (86#8 : BitVec 8) = 65#8 by decide, show ¬ (86#8 : BitVec 8) = 70#8 by decide, if_false] at h ⊢
    by_cases hf : m.Found = true
    · simp only [hf, if_true] at h ⊢
      have l1 := rN_le hr 1099511627776
      have l2 := rN_le l1.1 1099511627776
      have o3 := rB_one (b := b) l2.1 (m := 4096) (by omega) h
      have e2 := rB_off h
      have o2 := rN_one (b := b) (m := 1099511627776) (by omega) e2
      have e1 := rN_off e2
      have o1 := rN_one (b := b) (m := 1099511627776) (by omega) e1
      simp only [Int.toNat_natCast, List.append_assoc]
      rw [o1.1, o2.1, o3.1]
    · simp [hf]
theorem gS_Id {b : List (BitVec 8)} {c : BitVec 8} {m : api_Msg} {r : rdr} (h : c ≠ 73#8) : (gS b c m r).1.Id = m.Id := by
  unfold gS
  rw [if_neg h]
  repeat' split
  all_goals rfl
theorem gS_Key {b : List (BitVec 8)} {c : BitVec 8} {m : api_Msg} {r : rdr} (h : c ≠ 75#8) : (gS b c m r).1.X.Key = m.X.Key := by
  unfold gS
  rw [if_neg (c := c = 75#8) h]
  repeat' split
  all_goals rfl
theorem gS_AsOf {b : List (BitVec 8)} {c : BitVec 8} {m : api_Msg} {r : rdr} (h : c ≠ 65#8) : (gS b c m r).1.X.AsOf = m.X.AsOf := by
  unfold gS
  rw [if_neg (c := c = 65#8) h]
  repeat' split
  all_goals rfl
theorem gS_Found {b : List (BitVec 8)} {c : BitVec 8} {m : api_Msg} {r : rdr} (h : c ≠ 70#8) : (gS b c m r).1.Found = m.Found := by
  unfold gS
  rw [if_neg (c := c = 70#8) h]
  repeat' split
  all_goals rfl
theorem gS_head {b : List (BitVec 8)} {c : BitVec 8} {m : api_Msg} {r : rdr} : (gS b c m r).1.Kind = m.Kind ∧ (gS b c m r).1.From = m.From ∧ (gS b c m r).1.To = m.To ∧ (gS b c m r).1.Epoch = m.Epoch := by
  unfold gS
  repeat' split
  all_goals exact ⟨rfl, rfl, rfl, rfl⟩
theorem gL_head {b : List (BitVec 8)} : ∀ (l : List (BitVec 8)) (m : api_Msg) (r : rdr), (gL b l m r).1.Kind = m.Kind ∧ (gL b l m r).1.From = m.From ∧ (gL b l m r).1.To = m.To ∧ (gL b l m r).1.Epoch = m.Epoch
  | [], m, r => ⟨rfl, rfl, rfl, rfl⟩
  | c :: l, m, r => by
    obtain ⟨h1, h2, h3, h4⟩ := gL_head l (gS b c m r).1 (gS b c m r).2
    obtain ⟨k1, k2, k3, k4⟩ := gS_head (b := b) (c := c) (m := m) (r := r)
    simp only [gL]
    exact ⟨h1.trans k1, h2.trans k2, h3.trans k3, h4.trans k4⟩
/-- What a part says is not turned by the parts behind it. -/
theorem gL_part {b : List (BitVec 8)} : ∀ (l : List (BitVec 8)) (m : api_Msg) (r : rdr) (c : BitVec 8), isP c → c ∉ l → (∀ d ∈ l, isP d) → (c = 86#8 → 70#8 ∉ l) → stP (gL b l m r).1 c = stP m c
  | [], m, r, c, _, _, _, _ => rfl
  | d :: l, m, r, c, hc, hn, hv, hf => by
    simp only [gL]
    have h1 : c ≠ d := fun h => hn (h ▸ List.mem_cons_self ..)
    rw [gL_part l (gS b d m r).1 (gS b d m r).2 c hc (fun h => hn (List.mem_cons_of_mem _ h)) (fun d hd => hv d (List.mem_cons_of_mem _ hd)) (fun h h2 => hf h (List.mem_cons_of_mem _ h2))]
    unfold stP
    rcases hc with rfl | rfl | rfl | rfl | rfl
    · simp only [if_true]; rw [gS_Id (Ne.symm h1)]
    · simp only [show ¬ (75#8 : BitVec 8) = 73#8 by decide, if_true, if_false]; rw [gS_Key (Ne.symm h1)]
    · simp only [show ¬ (65#8 : BitVec 8) = 73#8 by decide, show ¬ (65#8 : BitVec 8) = 75#8 by decide, if_true, if_false]; rw [gS_AsOf (Ne.symm h1)]
    · simp only [show ¬ (70#8 : BitVec 8) = 73#8 by decide, show ¬ (70#8 : BitVec 8) = 75#8 by decide, show ¬ (70#8 : BitVec 8) = 65#8 by decide, if_true, if_false]; rw [gS_Found (Ne.symm h1)]
    · simp only [show ¬ (86#8 : BitVec 8) = 73#8 by decide, show ¬ (86#8 : BitVec 8) = 75#8 by decide, show ¬ (86#8 : BitVec 8) = 65#8 by decide, show ¬ (86#8 : BitVec 8) = 70#8 by decide, if_false]
      have h70 : d ≠ 70#8 := fun h => hf rfl (h ▸ List.mem_cons_self ..)
      rw [gS_Found h70]
      have hX : (gS b d m r).1.X.Version = m.X.Version ∧ (gS b d m r).1.X.Ends = m.X.Ends ∧ (gS b d m r).1.X.Value = m.X.Value ∨ (d ≠ 73#8 ∧ d ≠ 75#8 ∧ d ≠ 65#8 ∧ d ≠ 70#8) := by
        unfold gS
        repeat' split
        all_goals first | exact .inl ⟨rfl, rfl, rfl⟩ | exact .inr ⟨by assumption, by assumption, by assumption, by assumption⟩
      rcases hX with ⟨e1, e2, e3⟩ | hd
      · rw [e1, e2, e3]
      · rcases hv d (List.mem_cons_self ..) with h | h | h | h | h
        · exact absurd h hd.1
        · exact absurd h hd.2.1
        · exact absurd h hd.2.2.1
        · exact absurd h hd.2.2.2
        · exact absurd h.symm h1
/-- What was read as parts is their bytes. -/
theorem gL_one {b : List (BitVec 8)} : ∀ (l : List (BitVec 8)) (m : api_Msg) (r : rdr), (∀ c ∈ l, isP c) → l.Nodup → (∀ l1 l2, l = l1 ++ 86#8 :: l2 → 70#8 ∉ l2) → r.a ≤ b.length → (gL b l m r).2.e = 0 → r.e = 0 ∧ b.drop r.a = l.flatMap (stP (gL b l m r).1) ++ b.drop (gL b l m r).2.a
  | [], m, r, _, _, _, _, h => ⟨h, by simp [gL]⟩
  | c :: l, m, r, hl, hn, hv, hr, h => by
    have hc := hl c (List.mem_cons_self ..)
    simp only [gL] at h ⊢
    rw [List.nodup_cons] at hn
    obtain ⟨i1, i2⟩ := gL_one l (gS b c m r).1 (gS b c m r).2 (fun d hd => hl d (List.mem_cons_of_mem _ hd)) hn.2 (fun l1 l2 e => hv (c :: l1) l2 (by rw [e]; rfl)) (gS_le hr) h
    obtain ⟨j1, j2⟩ := gS_one hc hr i1
    refine ⟨j1, ?_⟩
    rw [List.flatMap_cons, gL_part l _ _ c hc hn.1 (fun d hd => hl d (List.mem_cons_of_mem _ hd)) (fun e => hv [] l (by rw [e]; rfl)), List.append_assoc, ← i2]
    exact j2
theorem ptsA_nd (k : Int) : (ptsA k).Nodup ∧ ∀ l1 l2, ptsA k = l1 ++ 86#8 :: l2 → 70#8 ∉ l2 := by
  rcases ptsA_cases k with ⟨_, hp⟩ | ⟨_, hp⟩ | ⟨_, hp⟩ | ⟨_, hp⟩ | ⟨_, _, _, _, _, hp⟩ <;> rw [hp]
  · refine ⟨by decide, fun l1 l2 h => ?_⟩
    have : 86#8 ∈ [65#8, 70#8] := by rw [h]; simp
    simp at this
  · refine ⟨by decide, fun l1 l2 h => ?_⟩
    have : 86#8 ∈ [75#8, 65#8] := by rw [h]; simp
    simp at this
  · refine ⟨by decide, fun l1 l2 h => ?_⟩
    have : 86#8 ∈ [73#8, 75#8] := by rw [h]; simp
    simp at this
  · refine ⟨by decide, fun l1 l2 h => ?_⟩
    match l1, h with
    | [], h => simp at h
    | [_], h => simp at h
    | [_, _], h => simp at h
    | [_, _, _], h => simp at h
    | [_, _, _, _], h => simp at h; rw [h.2.2.2.2]; simp
    | _ :: _ :: _ :: _ :: _ :: l, h => simp at h
  · refine ⟨by simp, fun l1 l2 h => ?_⟩
    simp at h
/-- Bytes that are read as a message are its bytes. -/
theorem enc_dec {b : List (BitVec 8)} (h : (decM b).2 = 0) : ckM (decM b).1 = 0 ∧ cseal (encM (decM b).1) = b := by
  unfold decM at h ⊢
  split at h
  · cases h
  rename_i h4
  rw [if_neg h4]
  split at h
  · cases h
  rename_i hf
  rw [if_neg hf]
  split at h
  · rename_i h5; exact absurd h h5
  rename_i h5
  rw [if_neg h5]
  split at h
  · rename_i h6; exact absurd h h6
  rename_i h6
  rw [if_neg h6]
  have h6' := Classical.not_not.1 h6
  refine ⟨h6', ?_⟩
  have hfit : cfits b = true := by simpa using hf
  have h5' := Classical.not_not.1 h5
  clear h h5 h6 hf
  simp only
  have hb : cseal (b.take (b.length - 4)) = b := by
    unfold cfits at hfit
    rw [Bool.and_eq_true, decide_eq_true_eq, decide_eq_true_eq] at hfit
    unfold cseal
    rw [hfit.2, List.take_append_drop]
  generalize b.take (b.length - 4) = c at *
  rw [← hb]
  congr 1
  have h1 := rN_le (b := c) (r := ⟨0, 0⟩) (by simp) 6
  have h2 := rN_le h1.1 16
  have h3 := rN_le h2.1 16
  have hle := hdM_le c
  have hh := gL_head (b := c) (ptsA (hdM c).1.Kind) (hdM c).1 (hdM c).2
  have he : (bdM c).2.e = 0 := by
    unfold endC at h5'
    split at h5'
    · cases h5'
    · exact h5'
  have ha : c.length ≤ (bdM c).2.a := by
    unfold endC at h5'
    split at h5'
    · cases h5'
    · rename_i hx
      exact Nat.le_of_not_lt fun hlt => hx ⟨he, hlt⟩
  obtain ⟨i1, i2⟩ := gL_one (b := c) (ptsA (hdM c).1.Kind) (hdM c).1 (hdM c).2 (ptsA_is _) (ptsA_nd _).1 (ptsA_nd _).2 hle he
  have hd : c.drop (gL c (ptsA (hdM c).1.Kind) (hdM c).1 (hdM c).2).2.a = [] := List.drop_eq_nil_iff.2 ha
  rw [hd, List.append_nil] at i2
  have i1' : (rN c (rN c (rN c (rN c ⟨0, 0⟩ 6).2 16).2 16).2 1099511627776).2.e = 0 := i1
  have o4 := rN_one (b := c) (m := 1099511627776) (by omega) i1'
  have e3 := rN_off i1'
  have o3 := rN_one (b := c) (m := 16) (by omega) e3
  have e2 := rN_off e3
  have o2 := rN_one (b := c) (m := 16) (by omega) e2
  have e1 := rN_off e2
  have o1 := rN_one (b := c) (m := 6) (by omega) e1
  have i2' : c.drop (rN c (rN c (rN c (rN c ⟨0, 0⟩ 6).2 16).2 16).2 1099511627776).2.a = (ptsA (hdM c).1.Kind).flatMap (stP (bdM c).1) := i2
  have hh' : (bdM c).1.Kind = (hdM c).1.Kind ∧ (bdM c).1.From = (hdM c).1.From ∧ (bdM c).1.To = (hdM c).1.To ∧ (bdM c).1.Epoch = (hdM c).1.Epoch := hh
  unfold encM
  rw [hh'.1, hh'.2.1, hh'.2.2.1, hh'.2.2.2, ← i2']
  have q1 := o1.1
  rw [o2.1, o3.1, o4.1, List.drop_zero] at q1
  exact q1.symm
def exM : api_Msg := ⟨6, 0, 3, 2, 7, ⟨[107#8], 4, 5, 0, [118#8]⟩, true⟩
theorem works23 : butterylaw23_works = some true := by
  have hx : ckM exM = 0 := by decide
  have hp := (wput_eq exM).1 hx
  have he : encM exM = [6#8, 0#8, 3#8, 2#8, 7#8, 1#8, 107#8, 5#8, 1#8, 4#8, 0#8, 1#8, 118#8] := by
    simp [encM, exM, ptsA, stP, num7_small]
  have hl : (cseal (encM exM)).length = 17 := by rw [cseal_len, he]; rfl
  obtain ⟨e, g1, g2, g3⟩ := wget_eq (b := cseal (encM exM)) (by rw [hl]; omega)
  rw [dec_enc hx] at g1 g2 g3
  have hbad : ckM ⟨1, 3, 0, 1, 0, ⟨[], 0, 0, 0, []⟩, true⟩ = 5 := by decide
  obtain ⟨e2, p1, p2, p3⟩ := (wput_eq ⟨1, 3, 0, 1, 0, ⟨[], 0, 0, 0, []⟩, true⟩).2 (by rw [hbad]; decide)
  have hf : cfits [1#8, 2#8, 3#8, 4#8, 5#8] = false := by decide +kernel
  obtain ⟨e3, q1, q2, q3⟩ := wget_eq (b := [1#8, 2#8, 3#8, 4#8, 5#8]) (by simp)
  have hdec : decM [1#8, 2#8, 3#8, 4#8, 5#8] = (zeroM, 7) := by
    unfold decM
    rw [if_neg (by simp), hf, if_pos rfl]
  rw [hdec] at q1 q2 q3
  obtain ⟨e4, c1, c2, c3⟩ := wcheck_eq exM
  rw [hx] at c3
  rw [hbad] at p2
  have hz : z_api_Entry = ⟨[], 0, 0, 0, []⟩ := rfl
  have hp' : wire_Put ⟨6, 0, 3, 2, 7, ⟨[107#8], 4, 5, 0, [118#8]⟩, true⟩ = some (cseal (encM exM), .nil) := hp
  have c1' : wire_Check ⟨6, 0, 3, 2, 7, ⟨[107#8], 4, 5, 0, [118#8]⟩, true⟩ = some e4 := c1
  unfold butterylaw23_works
  simp only [lt_eq, hp', Option.bind_some, g1, hz, p1, q1, show Err.isNil Err.nil = true from rfl, if_true, g3, decide_true, wsame_eq, trouble_Of, p2, q2, hl, c1', c3, beq_self_eq_true]
  rfl
theorem light_eq23 (x : api_Msg) : butterylaw23_light x = some false ∨ (butterylaw23_light x = some true ∧ x.X.Key.length ≤ 200 ∧ x.X.Value.length ≤ 5000) := by
  unfold butterylaw23_light
  simp only [lt_eq]
  rcases light_eq [x.X] with h | ⟨h, _, h2⟩
  · left; rw [h]; rfl
  · right
    have := h2 x.X (List.mem_cons_self ..)
    rw [h]
    exact ⟨rfl, this⟩
end Go.Proofs.YthkfilchighbhaaDoor
namespace Go.Proofs.YthkfilchighbhaaDoor
open Go Go.Va
set_option linter.unusedSimpArgs false
set_option linter.unusedVariables false
def wf_runtime_boundsError (x : runtime_boundsError) : Prop := (wfI .i64) x.x ∧ (wfI .i64) x.y ∧ wfT x.signed ∧ wfT x.code
theorem opens7 : Opens Tryd.prog 7 e_runtime_boundsError wf_runtime_boundsError := by
  intro H enc w fuel cs x hx
  obtain ⟨xs, m, _, _, hl, hn, hx⟩ := DataW.trod_struct Tryd.underlying7 hx
  rw [cellsOf_sz tk sz7 (by decide)] at hl
  obtain ⟨y0, w0, r0, o0⟩ := opens_f hx hn 0 (o := 0) (s := 1) rfl (opens_i64 Tryd.underlying2) rfl (cellsOf_sz tk sz2 (by decide))
  obtain ⟨y1, w1, r1, o1⟩ := opens_f hx hn 1 (o := 1) (s := 1) rfl (opens_i64 Tryd.underlying3) rfl (cellsOf_sz tk sz3 (by decide))
  obtain ⟨y2, w2, r2, o2⟩ := opens_f hx hn 2 (o := 2) (s := 1) rfl (opens_b Tryd.underlying4) rfl (cellsOf_sz tk sz4 (by decide))
  obtain ⟨y3, w3, r3, o3⟩ := opens_f hx hn 3 (o := 3) (s := 1) rfl (opens_u rfl rfl Tryd.underlying6) rfl (cellsOf_sz tk sz6 (by decide))
  refine ⟨⟨y0, y1, y2, y3⟩, ⟨w0, w1, w2, w3⟩, ?_, ?_⟩
  · have h := (rel_piece r0 (rel_piece r1 (rel_piece r2 (rel_piece r3 (rel_end hl)))))
    rw [List.drop_zero] at h
    first | exact h | (simp only [List.append_nil, List.append_assoc] at h ⊢; exact h) | (simpa [AV.cells, e_runtime_boundsError, c_runtime_boundsError] using h)
  · have h := (one_piece o0 (one_piece o1 (one_piece o2 (one_piece o3 (one_end hl)))))
    rw [List.drop_zero] at h
    exact h
theorem opens8 : Opens Tryd.prog 8 e_runtime_boundsError wf_runtime_boundsError := by
  intro H enc w fuel cs x hx
  obtain ⟨xs, m, _, _, hl, hn, hx⟩ := DataW.trod_struct Tryd.underlying8 hx
  rw [cellsOf_sz tk sz8 (by decide)] at hl
  obtain ⟨y0, w0, r0, o0⟩ := opens_f hx hn 0 (o := 0) (s := 1) rfl (opens_i64 Tryd.underlying2) rfl (cellsOf_sz tk sz2 (by decide))
  obtain ⟨y1, w1, r1, o1⟩ := opens_f hx hn 1 (o := 1) (s := 1) rfl (opens_i64 Tryd.underlying3) rfl (cellsOf_sz tk sz3 (by decide))
  obtain ⟨y2, w2, r2, o2⟩ := opens_f hx hn 2 (o := 2) (s := 1) rfl (opens_b Tryd.underlying4) rfl (cellsOf_sz tk sz4 (by decide))
  obtain ⟨y3, w3, r3, o3⟩ := opens_f hx hn 3 (o := 3) (s := 1) rfl (opens_u rfl rfl Tryd.underlying6) rfl (cellsOf_sz tk sz6 (by decide))
  refine ⟨⟨y0, y1, y2, y3⟩, ⟨w0, w1, w2, w3⟩, ?_, ?_⟩
  · have h := (rel_piece r0 (rel_piece r1 (rel_piece r2 (rel_piece r3 (rel_end hl)))))
    rw [List.drop_zero] at h
    first | exact h | (simp only [List.append_nil, List.append_assoc] at h ⊢; exact h) | (simpa [AV.cells, e_runtime_boundsError, c_runtime_boundsError] using h)
  · have h := (one_piece o0 (one_piece o1 (one_piece o2 (one_piece o3 (one_end hl)))))
    rw [List.drop_zero] at h
    exact h
def wf_runtime_errorAddressString (x : runtime_errorAddressString) : Prop := wfS x.msg ∧ wfT x.addr
theorem opens13 : Opens Tryd.prog 13 e_runtime_errorAddressString wf_runtime_errorAddressString := by
  intro H enc w fuel cs x hx
  obtain ⟨xs, m, _, _, hl, hn, hx⟩ := DataW.trod_struct Tryd.underlying13 hx
  rw [cellsOf_sz tk sz13 (by decide)] at hl
  obtain ⟨y0, w0, r0, o0⟩ := opens_f hx hn 0 (o := 0) (s := 1) rfl (opens_s Tryd.underlying9) rfl (cellsOf_sz tk sz9 (by decide))
  obtain ⟨y1, w1, r1, o1⟩ := opens_f hx hn 1 (o := 1) (s := 1) rfl (opens_u rfl rfl Tryd.underlying12) rfl (cellsOf_sz tk sz12 (by decide))
  refine ⟨⟨y0, y1⟩, ⟨w0, w1⟩, ?_, ?_⟩
  · have h := (rel_piece r0 (rel_piece r1 (rel_end hl)))
    rw [List.drop_zero] at h
    first | exact h | (simp only [List.append_nil, List.append_assoc] at h ⊢; exact h) | (simpa [AV.cells, e_runtime_errorAddressString, c_runtime_errorAddressString] using h)
  · have h := (one_piece o0 (one_piece o1 (one_end hl)))
    rw [List.drop_zero] at h
    exact h
theorem opens14 : Opens Tryd.prog 14 e_runtime_errorAddressString wf_runtime_errorAddressString := by
  intro H enc w fuel cs x hx
  obtain ⟨xs, m, _, _, hl, hn, hx⟩ := DataW.trod_struct Tryd.underlying14 hx
  rw [cellsOf_sz tk sz14 (by decide)] at hl
  obtain ⟨y0, w0, r0, o0⟩ := opens_f hx hn 0 (o := 0) (s := 1) rfl (opens_s Tryd.underlying9) rfl (cellsOf_sz tk sz9 (by decide))
  obtain ⟨y1, w1, r1, o1⟩ := opens_f hx hn 1 (o := 1) (s := 1) rfl (opens_u rfl rfl Tryd.underlying12) rfl (cellsOf_sz tk sz12 (by decide))
  refine ⟨⟨y0, y1⟩, ⟨w0, w1⟩, ?_, ?_⟩
  · have h := (rel_piece r0 (rel_piece r1 (rel_end hl)))
    rw [List.drop_zero] at h
    first | exact h | (simp only [List.append_nil, List.append_assoc] at h ⊢; exact h) | (simpa [AV.cells, e_runtime_errorAddressString, c_runtime_errorAddressString] using h)
  · have h := (one_piece o0 (one_piece o1 (one_end hl)))
    rw [List.drop_zero] at h
    exact h
def wf_api_Entry (x : api_Entry) : Prop := wfS x.Key ∧ (wfI .i64) x.Version ∧ (wfI .i64) x.AsOf ∧ (wfI .i64) x.Ends ∧ (wfL wfT) x.Value
theorem opens23 : Opens Tryd.prog 23 e_api_Entry wf_api_Entry := by
  intro H enc w fuel cs x hx
  obtain ⟨xs, m, _, _, hl, hn, hx⟩ := DataW.trod_struct Tryd.underlying23 hx
  rw [cellsOf_sz tk sz23 (by decide)] at hl
  obtain ⟨y0, w0, r0, o0⟩ := opens_f hx hn 0 (o := 0) (s := 1) rfl (opens_s Tryd.underlying9) rfl (cellsOf_sz tk sz9 (by decide))
  obtain ⟨y1, w1, r1, o1⟩ := opens_f hx hn 1 (o := 1) (s := 1) rfl (opens_i64 Tryd.underlying3) rfl (cellsOf_sz tk sz3 (by decide))
  obtain ⟨y2, w2, r2, o2⟩ := opens_f hx hn 2 (o := 2) (s := 1) rfl (opens_i64 Tryd.underlying3) rfl (cellsOf_sz tk sz3 (by decide))
  obtain ⟨y3, w3, r3, o3⟩ := opens_f hx hn 3 (o := 3) (s := 1) rfl (opens_i64 Tryd.underlying3) rfl (cellsOf_sz tk sz3 (by decide))
  obtain ⟨y4, w4, r4, o4⟩ := opens_f hx hn 4 (o := 4) (s := 1) rfl (opens_l tk Tryd.underlying22 (enc_u td5 sz5) (opens_u rfl rfl Tryd.underlying5)) rfl (cellsOf_sz tk sz22 (by decide))
  refine ⟨⟨y0, y1, y2, y3, y4⟩, ⟨w0, w1, w2, w3, w4⟩, ?_, ?_⟩
  · have h := (rel_piece r0 (rel_piece r1 (rel_piece r2 (rel_piece r3 (rel_piece r4 (rel_end hl))))))
    rw [List.drop_zero] at h
    first | exact h | (simp only [List.append_nil, List.append_assoc] at h ⊢; exact h) | (simpa [AV.cells, e_api_Entry, c_api_Entry] using h)
  · have h := (one_piece o0 (one_piece o1 (one_piece o2 (one_piece o3 (one_piece o4 (one_end hl))))))
    rw [List.drop_zero] at h
    exact h
theorem opens24 : Opens Tryd.prog 24 e_api_Entry wf_api_Entry := by
  intro H enc w fuel cs x hx
  obtain ⟨xs, m, _, _, hl, hn, hx⟩ := DataW.trod_struct Tryd.underlying24 hx
  rw [cellsOf_sz tk sz24 (by decide)] at hl
  obtain ⟨y0, w0, r0, o0⟩ := opens_f hx hn 0 (o := 0) (s := 1) rfl (opens_s Tryd.underlying9) rfl (cellsOf_sz tk sz9 (by decide))
  obtain ⟨y1, w1, r1, o1⟩ := opens_f hx hn 1 (o := 1) (s := 1) rfl (opens_i64 Tryd.underlying3) rfl (cellsOf_sz tk sz3 (by decide))
  obtain ⟨y2, w2, r2, o2⟩ := opens_f hx hn 2 (o := 2) (s := 1) rfl (opens_i64 Tryd.underlying3) rfl (cellsOf_sz tk sz3 (by decide))
  obtain ⟨y3, w3, r3, o3⟩ := opens_f hx hn 3 (o := 3) (s := 1) rfl (opens_i64 Tryd.underlying3) rfl (cellsOf_sz tk sz3 (by decide))
  obtain ⟨y4, w4, r4, o4⟩ := opens_f hx hn 4 (o := 4) (s := 1) rfl (opens_l tk Tryd.underlying22 (enc_u td5 sz5) (opens_u rfl rfl Tryd.underlying5)) rfl (cellsOf_sz tk sz22 (by decide))
  refine ⟨⟨y0, y1, y2, y3, y4⟩, ⟨w0, w1, w2, w3, w4⟩, ?_, ?_⟩
  · have h := (rel_piece r0 (rel_piece r1 (rel_piece r2 (rel_piece r3 (rel_piece r4 (rel_end hl))))))
    rw [List.drop_zero] at h
    first | exact h | (simp only [List.append_nil, List.append_assoc] at h ⊢; exact h) | (simpa [AV.cells, e_api_Entry, c_api_Entry] using h)
  · have h := (one_piece o0 (one_piece o1 (one_piece o2 (one_piece o3 (one_piece o4 (one_end hl))))))
    rw [List.drop_zero] at h
    exact h
def wf_api_Msg (x : api_Msg) : Prop := (wfI .i64) x.Kind ∧ (wfI .i64) x.From ∧ (wfI .i64) x.To ∧ (wfI .i64) x.Epoch ∧ (wfI .i64) x.Id ∧ wf_api_Entry x.X ∧ wfT x.Found
theorem opens25 : Opens Tryd.prog 25 e_api_Msg wf_api_Msg := by
  intro H enc w fuel cs x hx
  obtain ⟨xs, m, _, _, hl, hn, hx⟩ := DataW.trod_struct Tryd.underlying25 hx
  rw [cellsOf_sz tk sz25 (by decide)] at hl
  obtain ⟨y0, w0, r0, o0⟩ := opens_f hx hn 0 (o := 0) (s := 1) rfl (opens_i64 Tryd.underlying3) rfl (cellsOf_sz tk sz3 (by decide))
  obtain ⟨y1, w1, r1, o1⟩ := opens_f hx hn 1 (o := 1) (s := 1) rfl (opens_i64 Tryd.underlying3) rfl (cellsOf_sz tk sz3 (by decide))
  obtain ⟨y2, w2, r2, o2⟩ := opens_f hx hn 2 (o := 2) (s := 1) rfl (opens_i64 Tryd.underlying3) rfl (cellsOf_sz tk sz3 (by decide))
  obtain ⟨y3, w3, r3, o3⟩ := opens_f hx hn 3 (o := 3) (s := 1) rfl (opens_i64 Tryd.underlying3) rfl (cellsOf_sz tk sz3 (by decide))
  obtain ⟨y4, w4, r4, o4⟩ := opens_f hx hn 4 (o := 4) (s := 1) rfl (opens_i64 Tryd.underlying3) rfl (cellsOf_sz tk sz3 (by decide))
  obtain ⟨y5, w5, r5, o5⟩ := opens_f hx hn 5 (o := 5) (s := 5) rfl opens24 rfl (cellsOf_sz tk sz24 (by decide))
  obtain ⟨y6, w6, r6, o6⟩ := opens_f hx hn 6 (o := 10) (s := 1) rfl (opens_b Tryd.underlying4) rfl (cellsOf_sz tk sz4 (by decide))
  refine ⟨⟨y0, y1, y2, y3, y4, y5, y6⟩, ⟨w0, w1, w2, w3, w4, w5, w6⟩, ?_, ?_⟩
  · have h := (rel_piece r0 (rel_piece r1 (rel_piece r2 (rel_piece r3 (rel_piece r4 (rel_piece r5 (rel_piece r6 (rel_end hl))))))))
    rw [List.drop_zero] at h
    first | exact h | (simp only [List.append_nil, List.append_assoc] at h ⊢; exact h) | (simpa [AV.cells, e_api_Msg, c_api_Msg] using h)
  · have h := (one_piece o0 (one_piece o1 (one_piece o2 (one_piece o3 (one_piece o4 (one_piece o5 (one_piece o6 (one_end hl))))))))
    rw [List.drop_zero] at h
    exact h
theorem opens26 : Opens Tryd.prog 26 e_api_Msg wf_api_Msg := by
  intro H enc w fuel cs x hx
  obtain ⟨xs, m, _, _, hl, hn, hx⟩ := DataW.trod_struct Tryd.underlying26 hx
  rw [cellsOf_sz tk sz26 (by decide)] at hl
  obtain ⟨y0, w0, r0, o0⟩ := opens_f hx hn 0 (o := 0) (s := 1) rfl (opens_i64 Tryd.underlying3) rfl (cellsOf_sz tk sz3 (by decide))
  obtain ⟨y1, w1, r1, o1⟩ := opens_f hx hn 1 (o := 1) (s := 1) rfl (opens_i64 Tryd.underlying3) rfl (cellsOf_sz tk sz3 (by decide))
  obtain ⟨y2, w2, r2, o2⟩ := opens_f hx hn 2 (o := 2) (s := 1) rfl (opens_i64 Tryd.underlying3) rfl (cellsOf_sz tk sz3 (by decide))
  obtain ⟨y3, w3, r3, o3⟩ := opens_f hx hn 3 (o := 3) (s := 1) rfl (opens_i64 Tryd.underlying3) rfl (cellsOf_sz tk sz3 (by decide))
  obtain ⟨y4, w4, r4, o4⟩ := opens_f hx hn 4 (o := 4) (s := 1) rfl (opens_i64 Tryd.underlying3) rfl (cellsOf_sz tk sz3 (by decide))
  obtain ⟨y5, w5, r5, o5⟩ := opens_f hx hn 5 (o := 5) (s := 5) rfl opens24 rfl (cellsOf_sz tk sz24 (by decide))
  obtain ⟨y6, w6, r6, o6⟩ := opens_f hx hn 6 (o := 10) (s := 1) rfl (opens_b Tryd.underlying4) rfl (cellsOf_sz tk sz4 (by decide))
  refine ⟨⟨y0, y1, y2, y3, y4, y5, y6⟩, ⟨w0, w1, w2, w3, w4, w5, w6⟩, ?_, ?_⟩
  · have h := (rel_piece r0 (rel_piece r1 (rel_piece r2 (rel_piece r3 (rel_piece r4 (rel_piece r5 (rel_piece r6 (rel_end hl))))))))
    rw [List.drop_zero] at h
    first | exact h | (simp only [List.append_nil, List.append_assoc] at h ⊢; exact h) | (simpa [AV.cells, e_api_Msg, c_api_Msg] using h)
  · have h := (one_piece o0 (one_piece o1 (one_piece o2 (one_piece o3 (one_piece o4 (one_piece o5 (one_piece o6 (one_end hl))))))))
    rw [List.drop_zero] at h
    exact h
def wf_butteryref02_Reader (x : butteryref02_Reader) : Prop := (wfL wfT) x.B ∧ (wfI .i64) x.At ∧ (wfI .i64) x.Code
theorem opens78 : Opens Tryd.prog 78 e_butteryref02_Reader wf_butteryref02_Reader := by
  intro H enc w fuel cs x hx
  obtain ⟨xs, m, _, _, hl, hn, hx⟩ := DataW.trod_struct Tryd.underlying78 hx
  rw [cellsOf_sz tk sz78 (by decide)] at hl
  obtain ⟨y0, w0, r0, o0⟩ := opens_f hx hn 0 (o := 0) (s := 1) rfl (opens_l tk Tryd.underlying22 (enc_u td5 sz5) (opens_u rfl rfl Tryd.underlying5)) rfl (cellsOf_sz tk sz22 (by decide))
  obtain ⟨y1, w1, r1, o1⟩ := opens_f hx hn 1 (o := 1) (s := 1) rfl (opens_i64 Tryd.underlying3) rfl (cellsOf_sz tk sz3 (by decide))
  obtain ⟨y2, w2, r2, o2⟩ := opens_f hx hn 2 (o := 2) (s := 1) rfl (opens_i64 Tryd.underlying33) rfl (cellsOf_sz tk sz33 (by decide))
  refine ⟨⟨y0, y1, y2⟩, ⟨w0, w1, w2⟩, ?_, ?_⟩
  · have h := (rel_piece r0 (rel_piece r1 (rel_piece r2 (rel_end hl))))
    rw [List.drop_zero] at h
    first | exact h | (simp only [List.append_nil, List.append_assoc] at h ⊢; exact h) | (simpa [AV.cells, e_butteryref02_Reader, c_butteryref02_Reader] using h)
  · have h := (one_piece o0 (one_piece o1 (one_piece o2 (one_end hl))))
    rw [List.drop_zero] at h
    exact h
theorem opens79 : Opens Tryd.prog 79 e_butteryref02_Reader wf_butteryref02_Reader := by
  intro H enc w fuel cs x hx
  obtain ⟨xs, m, _, _, hl, hn, hx⟩ := DataW.trod_struct Tryd.underlying79 hx
  rw [cellsOf_sz tk sz79 (by decide)] at hl
  obtain ⟨y0, w0, r0, o0⟩ := opens_f hx hn 0 (o := 0) (s := 1) rfl (opens_l tk Tryd.underlying22 (enc_u td5 sz5) (opens_u rfl rfl Tryd.underlying5)) rfl (cellsOf_sz tk sz22 (by decide))
  obtain ⟨y1, w1, r1, o1⟩ := opens_f hx hn 1 (o := 1) (s := 1) rfl (opens_i64 Tryd.underlying3) rfl (cellsOf_sz tk sz3 (by decide))
  obtain ⟨y2, w2, r2, o2⟩ := opens_f hx hn 2 (o := 2) (s := 1) rfl (opens_i64 Tryd.underlying33) rfl (cellsOf_sz tk sz33 (by decide))
  refine ⟨⟨y0, y1, y2⟩, ⟨w0, w1, w2⟩, ?_, ?_⟩
  · have h := (rel_piece r0 (rel_piece r1 (rel_piece r2 (rel_end hl))))
    rw [List.drop_zero] at h
    first | exact h | (simp only [List.append_nil, List.append_assoc] at h ⊢; exact h) | (simpa [AV.cells, e_butteryref02_Reader, c_butteryref02_Reader] using h)
  · have h := (one_piece o0 (one_piece o1 (one_piece o2 (one_end hl))))
    rw [List.drop_zero] at h
    exact h
def wf_octets_Reader (x : octets_Reader) : Prop := (wfL wfT) x.b ∧ (wfI .i64) x.at_ ∧ (wfI .i64) x.code
theorem opens101 : Opens Tryd.prog 101 e_octets_Reader wf_octets_Reader := by
  intro H enc w fuel cs x hx
  obtain ⟨xs, m, _, _, hl, hn, hx⟩ := DataW.trod_struct Tryd.underlying101 hx
  rw [cellsOf_sz tk sz101 (by decide)] at hl
  obtain ⟨y0, w0, r0, o0⟩ := opens_f hx hn 0 (o := 0) (s := 1) rfl (opens_l tk Tryd.underlying22 (enc_u td5 sz5) (opens_u rfl rfl Tryd.underlying5)) rfl (cellsOf_sz tk sz22 (by decide))
  obtain ⟨y1, w1, r1, o1⟩ := opens_f hx hn 1 (o := 1) (s := 1) rfl (opens_i64 Tryd.underlying3) rfl (cellsOf_sz tk sz3 (by decide))
  obtain ⟨y2, w2, r2, o2⟩ := opens_f hx hn 2 (o := 2) (s := 1) rfl (opens_i64 Tryd.underlying33) rfl (cellsOf_sz tk sz33 (by decide))
  refine ⟨⟨y0, y1, y2⟩, ⟨w0, w1, w2⟩, ?_, ?_⟩
  · have h := (rel_piece r0 (rel_piece r1 (rel_piece r2 (rel_end hl))))
    rw [List.drop_zero] at h
    first | exact h | (simp only [List.append_nil, List.append_assoc] at h ⊢; exact h) | (simpa [AV.cells, e_octets_Reader, c_octets_Reader] using h)
  · have h := (one_piece o0 (one_piece o1 (one_piece o2 (one_end hl))))
    rw [List.drop_zero] at h
    exact h
theorem opens102 : Opens Tryd.prog 102 e_octets_Reader wf_octets_Reader := by
  intro H enc w fuel cs x hx
  obtain ⟨xs, m, _, _, hl, hn, hx⟩ := DataW.trod_struct Tryd.underlying102 hx
  rw [cellsOf_sz tk sz102 (by decide)] at hl
  obtain ⟨y0, w0, r0, o0⟩ := opens_f hx hn 0 (o := 0) (s := 1) rfl (opens_l tk Tryd.underlying22 (enc_u td5 sz5) (opens_u rfl rfl Tryd.underlying5)) rfl (cellsOf_sz tk sz22 (by decide))
  obtain ⟨y1, w1, r1, o1⟩ := opens_f hx hn 1 (o := 1) (s := 1) rfl (opens_i64 Tryd.underlying3) rfl (cellsOf_sz tk sz3 (by decide))
  obtain ⟨y2, w2, r2, o2⟩ := opens_f hx hn 2 (o := 2) (s := 1) rfl (opens_i64 Tryd.underlying33) rfl (cellsOf_sz tk sz33 (by decide))
  refine ⟨⟨y0, y1, y2⟩, ⟨w0, w1, w2⟩, ?_, ?_⟩
  · have h := (rel_piece r0 (rel_piece r1 (rel_piece r2 (rel_end hl))))
    rw [List.drop_zero] at h
    first | exact h | (simp only [List.append_nil, List.append_assoc] at h ⊢; exact h) | (simpa [AV.cells, e_octets_Reader, c_octets_Reader] using h)
  · have h := (one_piece o0 (one_piece o1 (one_piece o2 (one_end hl))))
    rw [List.drop_zero] at h
    exact h
def wf_reflectlite_ValueError (x : reflectlite_ValueError) : Prop := wfS x.Method ∧ wfT x.Kind
theorem opens140 : Opens Tryd.prog 140 e_reflectlite_ValueError wf_reflectlite_ValueError := by
  intro H enc w fuel cs x hx
  obtain ⟨xs, m, _, _, hl, hn, hx⟩ := DataW.trod_struct Tryd.underlying140 hx
  rw [cellsOf_sz tk sz140 (by decide)] at hl
  obtain ⟨y0, w0, r0, o0⟩ := opens_f hx hn 0 (o := 0) (s := 1) rfl (opens_s Tryd.underlying9) rfl (cellsOf_sz tk sz9 (by decide))
  obtain ⟨y1, w1, r1, o1⟩ := opens_f hx hn 1 (o := 1) (s := 1) rfl (opens_u rfl rfl Tryd.underlying95) rfl (cellsOf_sz tk sz95 (by decide))
  refine ⟨⟨y0, y1⟩, ⟨w0, w1⟩, ?_, ?_⟩
  · have h := (rel_piece r0 (rel_piece r1 (rel_end hl)))
    rw [List.drop_zero] at h
    first | exact h | (simp only [List.append_nil, List.append_assoc] at h ⊢; exact h) | (simpa [AV.cells, e_reflectlite_ValueError, c_reflectlite_ValueError] using h)
  · have h := (one_piece o0 (one_piece o1 (one_end hl)))
    rw [List.drop_zero] at h
    exact h
theorem opens141 : Opens Tryd.prog 141 e_reflectlite_ValueError wf_reflectlite_ValueError := by
  intro H enc w fuel cs x hx
  obtain ⟨xs, m, _, _, hl, hn, hx⟩ := DataW.trod_struct Tryd.underlying141 hx
  rw [cellsOf_sz tk sz141 (by decide)] at hl
  obtain ⟨y0, w0, r0, o0⟩ := opens_f hx hn 0 (o := 0) (s := 1) rfl (opens_s Tryd.underlying9) rfl (cellsOf_sz tk sz9 (by decide))
  obtain ⟨y1, w1, r1, o1⟩ := opens_f hx hn 1 (o := 1) (s := 1) rfl (opens_u rfl rfl Tryd.underlying95) rfl (cellsOf_sz tk sz95 (by decide))
  refine ⟨⟨y0, y1⟩, ⟨w0, w1⟩, ?_, ?_⟩
  · have h := (rel_piece r0 (rel_piece r1 (rel_end hl)))
    rw [List.drop_zero] at h
    first | exact h | (simp only [List.append_nil, List.append_assoc] at h ⊢; exact h) | (simpa [AV.cells, e_reflectlite_ValueError, c_reflectlite_ValueError] using h)
  · have h := (one_piece o0 (one_piece o1 (one_end hl)))
    rw [List.drop_zero] at h
    exact h
def wf_abi_Method (x : abi_Method) : Prop := (wfI .i32) x.Name ∧ (wfI .i32) x.Mtyp ∧ (wfI .i32) x.Ifn ∧ (wfI .i32) x.Tfn
theorem opens148 : Opens Tryd.prog 148 e_abi_Method wf_abi_Method := by
  intro H enc w fuel cs x hx
  obtain ⟨xs, m, _, _, hl, hn, hx⟩ := DataW.trod_struct Tryd.underlying148 hx
  rw [cellsOf_sz tk sz148 (by decide)] at hl
  obtain ⟨y0, w0, r0, o0⟩ := opens_f hx hn 0 (o := 0) (s := 1) rfl (opens_i Tryd.underlying134) rfl (cellsOf_sz tk sz134 (by decide))
  obtain ⟨y1, w1, r1, o1⟩ := opens_f hx hn 1 (o := 1) (s := 1) rfl (opens_i Tryd.underlying135) rfl (cellsOf_sz tk sz135 (by decide))
  obtain ⟨y2, w2, r2, o2⟩ := opens_f hx hn 2 (o := 2) (s := 1) rfl (opens_i Tryd.underlying147) rfl (cellsOf_sz tk sz147 (by decide))
  obtain ⟨y3, w3, r3, o3⟩ := opens_f hx hn 3 (o := 3) (s := 1) rfl (opens_i Tryd.underlying147) rfl (cellsOf_sz tk sz147 (by decide))
  refine ⟨⟨y0, y1, y2, y3⟩, ⟨w0, w1, w2, w3⟩, ?_, ?_⟩
  · have h := (rel_piece r0 (rel_piece r1 (rel_piece r2 (rel_piece r3 (rel_end hl)))))
    rw [List.drop_zero] at h
    first | exact h | (simp only [List.append_nil, List.append_assoc] at h ⊢; exact h) | (simpa [AV.cells, e_abi_Method, c_abi_Method] using h)
  · have h := (one_piece o0 (one_piece o1 (one_piece o2 (one_piece o3 (one_end hl)))))
    rw [List.drop_zero] at h
    exact h
theorem opens149 : Opens Tryd.prog 149 e_abi_Method wf_abi_Method := by
  intro H enc w fuel cs x hx
  obtain ⟨xs, m, _, _, hl, hn, hx⟩ := DataW.trod_struct Tryd.underlying149 hx
  rw [cellsOf_sz tk sz149 (by decide)] at hl
  obtain ⟨y0, w0, r0, o0⟩ := opens_f hx hn 0 (o := 0) (s := 1) rfl (opens_i Tryd.underlying134) rfl (cellsOf_sz tk sz134 (by decide))
  obtain ⟨y1, w1, r1, o1⟩ := opens_f hx hn 1 (o := 1) (s := 1) rfl (opens_i Tryd.underlying135) rfl (cellsOf_sz tk sz135 (by decide))
  obtain ⟨y2, w2, r2, o2⟩ := opens_f hx hn 2 (o := 2) (s := 1) rfl (opens_i Tryd.underlying147) rfl (cellsOf_sz tk sz147 (by decide))
  obtain ⟨y3, w3, r3, o3⟩ := opens_f hx hn 3 (o := 3) (s := 1) rfl (opens_i Tryd.underlying147) rfl (cellsOf_sz tk sz147 (by decide))
  refine ⟨⟨y0, y1, y2, y3⟩, ⟨w0, w1, w2, w3⟩, ?_, ?_⟩
  · have h := (rel_piece r0 (rel_piece r1 (rel_piece r2 (rel_piece r3 (rel_end hl)))))
    rw [List.drop_zero] at h
    first | exact h | (simp only [List.append_nil, List.append_assoc] at h ⊢; exact h) | (simpa [AV.cells, e_abi_Method, c_abi_Method] using h)
  · have h := (one_piece o0 (one_piece o1 (one_piece o2 (one_piece o3 (one_end hl)))))
    rw [List.drop_zero] at h
    exact h
end Go.Proofs.YthkfilchighbhaaDoor
namespace Go.Proofs.YthkfilchighbhaaDoor
open Go Go.Va
set_option linter.unusedVariables false
set_option linter.unusedSimpArgs false
/-- One bit, turned. -/
def flipAt (s : List (BitVec 8)) (p : Nat) : List (BitVec 8) := s.set (p / 8) (s.getD (p / 8) 0#8 ^^^ 1#8 <<< (p % 8))
/-- Bits, turned where a word has ones. -/
def flips (k : Nat) (w : BitVec 32) (s : List (BitVec 8)) : Nat → List (BitVec 8)
  | 0 => s
  | i + 1 => if w.getLsbD i = true then flipAt (flips k w s i) (k + i) else flips k w s i
theorem flips_len (k : Nat) (w : BitVec 32) (s : List (BitVec 8)) : ∀ i, (flips k w s i).length = s.length
  | 0 => rfl
  | i + 1 => by
    unfold flips
    split
    · unfold flipAt; rw [List.length_set, flips_len]
    · exact flips_len k w s i
theorem flipAt_bit {s : List (BitVec 8)} {q : Nat} (hq : q < 8 * s.length) (p : Nat) : bitAt (flipAt s q) p = (bitAt s p ^^ decide (p = q)) := by
  unfold bitAt flipAt
  have hq8 : q / 8 < s.length := by omega
  by_cases h : p / 8 = q / 8
  · rw [h, List.getD_eq_getElem?_getD, List.getElem?_set_self hq8]
    simp only [Option.getD_some, BitVec.getLsbD_xor]
    congr 1
    rw [BitVec.getLsbD_shiftLeft, BitVec.getLsbD_one]
    have h1 : p % 8 < 8 := Nat.mod_lt _ (by omega)
    by_cases h2 : p = q
    · subst h2; simp [h1]
    · rw [decide_eq_false h2]
      have h3 : p % 8 ≠ q % 8 := by omega
      by_cases h4 : p % 8 < q % 8
      · simp [h4]
      · simp [h4, h1]; omega
  · rw [List.getD_eq_getElem?_getD, List.getElem?_set_ne (Ne.symm h), ← List.getD_eq_getElem?_getD, decide_eq_false (by rintro rfl; exact h rfl)]
    simp
theorem flips_bit {k : Nat} {w : BitVec 32} {s : List (BitVec 8)} (hk : k + 32 ≤ 8 * s.length) (p : Nat) : ∀ i, i ≤ 32 → bitAt (flips k w s i) p = (bitAt s p ^^ (decide (k ≤ p ∧ p < k + i) && w.getLsbD (p - k)))
  | 0, _ => by
    rw [decide_eq_false (by omega)]
    simp [flips]
  | i + 1, hi => by
    have ih := flips_bit (w := w) hk p i (by omega)
    unfold flips
    by_cases hw : w.getLsbD i = true
    · rw [if_pos hw, flipAt_bit (by rw [flips_len]; omega), ih]
      by_cases hp : p = k + i
      · subst hp
        rw [decide_eq_false (show ¬ (k ≤ k + i ∧ k + i < k + i) by omega), decide_eq_true (show k ≤ k + i ∧ k + i < k + (i + 1) by omega), show k + i - k = i by omega, hw]
        simp
      · rw [decide_eq_false hp, show decide (k ≤ p ∧ p < k + (i + 1)) = decide (k ≤ p ∧ p < k + i) from decide_eq_decide.2 (by omega)]
        simp
    · rw [if_neg hw, ih]
      by_cases hp : p = k + i
      · subst hp
        rw [show k + i - k = i by omega, show w.getLsbD i = false by simpa using hw]
        simp
      · rw [show decide (k ≤ p ∧ p < k + (i + 1)) = decide (k ≤ p ∧ p < k + i) from decide_eq_decide.2 (by omega)]
theorem loop_eq (w : BitVec 32) {k : Nat} {s : List (BitVec 8)} (hs : s.length ≤ 1000000) (hk : k + 32 ≤ 8 * s.length) : butterylaw23_WireTurned_l0 w (k : Int) (s, 0) = some (flips k w s 32) := by
  have h := loopO_up (body := fun s => butterylaw23_WireTurned_b0 w (k : Int) s.1 s.2) (fun i : Nat => (flips k w s i, (i : Int))) 32 (x := flips k w s 32) (fun i hi => by
    simp only [butterylaw23_WireTurned_b0, lt_eq, sc_nat, Option.map_some, Option.bind_some]
    rw [if_pos (decide_eq_true (by omega))]
    have hc : (w >>> i &&& 1#32 == 1#32) = w.getLsbD i := by
      have := crc_and_one (w >>> i)
      rw [BitVec.getLsbD_ushiftRight, Nat.add_zero] at this
      rw [Bool.eq_iff_iff, beq_iff_eq]; exact this
    rw [hc]
    conv => rhs; rw [flips]
    by_cases hw : w.getLsbD i = true
    · have hl := flips_len k w s i
      have hq : (k + i) / 8 < (flips k w s i).length := by omega
      have e1 : quo64 (w64 ((k : Int) + (i : Int))) 8 = (((k + i) / 8 : Nat) : Int) := by
        rw [w64_eq (by omega) (by omega), quo64, Int.tdiv_eq_ediv_of_nonneg (by omega), w64_eq (by omega) (by omega)]
        omega
      have e2 : Int.tmod (w64 ((k : Int) + (i : Int))) 8 = (((k + i) % 8 : Nat) : Int) := by
        rw [w64_eq (by omega) (by omega), Int.tmod_eq_emod_of_nonneg (by omega)]
        omega
      rw [if_pos hw, if_pos hw, e1, e2]
      have e3 : chk (flips k w s i).length (((k + i) / 8 : Nat) : Int) = some () := by
        unfold chk; rw [if_pos (by omega)]
      have e4 : ixA (flips k w s i).length (flips k w s i) (((k + i) / 8 : Nat) : Int) = some (flips k w s i)[(k + i) / 8] := ixA_nat hq hq
      simp only [e3, e4, updA, sc_nat, Option.map_some, Option.bind_some]
      rw [w64_nat (by omega)]
      unfold flipAt
      rw [List.getD_eq_getElem?_getD, List.getElem?_eq_getElem hq]
      rfl
    · rw [if_neg hw, if_neg hw, w64_nat (by omega)]) (by
    simp only [butterylaw23_WireTurned_b0, lt_eq]
    rw [if_neg (by simp)])
  exact h
theorem putV_eq (x : api_Msg) : wire_PutV x = wire_Put x := rfl
theorem WireTurned_pure (x : api_Msg) (at_ : BitVec 16) (w : BitVec 32) (_ : wf_api_Msg x) (_ : wfT at_) (_ : wfT w) : butterylaw23_WireTurned x at_ w = some true := by
  unfold butterylaw23_WireTurned
  simp only [lt_eq]
  rcases light_eq23 x with h | ⟨h, h1, h2⟩
  · simp [h, works23]
  · simp only [h, Option.bind_some, Bool.not_true, Bool.false_eq_true, if_false]
    rw [rcheck_eq (by omega)]
    simp only [Option.bind_some]
    by_cases hc : ckM x = 0
    · by_cases hw : w = 0#32
      · subst hw; simp [hc, works23]
      · rw [show (w == 0#32) = false by simpa using hw]
        simp only [hc, bne_self_eq_false, Bool.false_eq_true, if_false, Option.bind_some]
        have hp := (wput_eq x).1 hc
        have hE := encM_len (ckM_ok hc)
        rw [putV_eq, hp]
        have hl := cseal_len (encM x)
        simp only [Option.bind_some, Err.isNil, Bool.not_true, Bool.false_eq_true, if_false]
        rw [decide_eq_false (by omega)]
        simp only [Option.bind_some, Bool.false_eq_true, if_false]
        rw [w64_eq (n := (8 : Int) * _) (by omega) (by omega), w64_eq (by omega) (by omega), dv_eq (by omega)]
        simp only [Option.map_some, Option.bind_some]
        have hm : Int.tmod (at_.toNat : Int) (8 * ((cseal (encM x)).length : Int) - 31) = ((at_.toNat % (8 * (cseal (encM x)).length - 31) : Nat) : Int) := by
          rw [show 8 * ((cseal (encM x)).length : Int) - 31 = ((8 * (cseal (encM x)).length - 31 : Nat) : Int) by omega]
          exact (Int.ofNat_tmod _ _).symm
        have hk := Nat.mod_lt at_.toNat (show 8 * (cseal (encM x)).length - 31 > 0 by omega)
        rw [hm]
        generalize at_.toNat % (8 * (cseal (encM x)).length - 31) = k at *
        rw [loop_eq w (by omega) (by omega)]
        simp only [Option.bind_some]
        have hfl := flips_len k w (cseal (encM x)) 32
        have ht := tells (s := cseal (encM x)) (t := flips k w (cseal (encM x)) 32) (k := k) hw (flips_len ..) (by omega) (cseal_fits _) (fun p hp => flips_bit (by omega) p 32 (by omega))
        obtain ⟨e, e1, e2, e3⟩ := wget_eq (b := flips k w (cseal (encM x)) 32) (by omega)
        have hd : decM (flips k w (cseal (encM x)) 32) = (zeroM, 7) := by
          unfold decM
          rw [if_neg (by omega), if_pos ht]
        rw [hd] at e1 e2
        have hz : z_api_Entry = zeroE := rfl
        simp only [e1, Option.bind_some, trouble_Of, e2, beq_self_eq_true, if_true, hz]
        rw [rsame_eq _ _ (by simp [zeroM, zeroE])]
        simp [zeroM, works23]
    · simp [hc, works23]
end Go.Proofs.YthkfilchighbhaaDoor
namespace Go.Proofs.YthkfilchighbhaaDoor
open Go.ChangeShapes Go.WideShapes Go.RowKit
theorem own : ownKnob Tryd.prog.godebug = none := by kernel_rfl
theorem laidEt : Tryd.prog.globalNamed "errors.errorType" = some 0 := by kernel_rfl
theorem laidRt : (Tryd.prog.cutTypes.find? (·.1 == "internal/reflectlite.rtype")).map (·.2) = some 110 := by kernel_rfl
theorem laidRow : ((List.range 151).filter fun t => Tryd.prog.rowNamed t [101, 114, 114, 111, 114]) = [30] := by kernel_rfl
theorem laidSize : Tryd.prog.types.size = 151 := by kernel_rfl
def laidL {H : Type} : List (String × DataW H) := [("errors.errorType", Rows.laid_errors_errorType)]
theorem handle_of_laid {W : World} (h : laidMetH Tryd.prog laidL W) : W.cell? ⟨0, 0, none⟩ = some (.iface 110 (.agg #[.pointer (some ⟨1, 30, none⟩)])) := by
  have h' : laidMet Tryd.prog [] W ∧ handlesMet Tryd.prog laidL W := h
  obtain ⟨name, u, ty, e1, e2, e3, e4, e5⟩ := h'.2 _ (List.mem_singleton.2 rfl)
  have en : name = [101, 114, 114, 111, 114] := (Option.some.inj e1).symm
  subst en
  obtain rfl := Option.some.inj (laidRt.symm.trans e2)
  have hm : ty ∈ (List.range 151).filter fun t => Tryd.prog.rowNamed t [101, 114, 114, 111, 114] := List.mem_filter.2 ⟨List.mem_range.2 (by rw [← laidSize]; exact e3), e4⟩
  rw [laidRow] at hm
  obtain rfl := List.mem_singleton.1 hm
  have hh : typeHandle Tryd.prog 30 = .pointer (some ⟨1, 30, none⟩) := by kernel_rfl
  rw [hh] at e5
  simpa using World.var?_cell laidEt e5 0
/-- A world that meets the condition. -/
noncomputable def laidWorld (os : Os) : World :=
  let w0 := World.holding Tryd.prog os ⟨#[], #[], []⟩
  { w0 with heap := w0.heap.modify 0 fun
      | .cells _ t frozen => .cells #[.iface 110 (.agg #[.pointer (some ⟨1, 30, none⟩)])] t frozen
      | o => o }
theorem laidWorld_met (os : Os) (args : Array Value) : laidMetH Tryd.prog laidL ((laidWorld os).forCall (fun _ _ => 0) ⟨#[], args, []⟩).memory :=
  laidMetH_of_parts (laidMet_nil _ _) (by kernel_rfl)
theorem gls_met {W : World} (h : laidMetH Tryd.prog laidL W) : ∀ p ∈ gls, W.cell? p.1 = some p.2 := by
  intro p hp
  obtain rfl := List.mem_singleton.1 hp
  exact handle_of_laid h
theorem laidOut : laidOutB Tryd.prog = true := by kernel_rfl
end Go.Proofs.YthkfilchighbhaaDoor
