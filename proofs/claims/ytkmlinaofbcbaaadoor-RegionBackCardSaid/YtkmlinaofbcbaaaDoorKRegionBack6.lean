/- THERE AND BACK: a foot that may be is read as it was; bytes that are read are those of the foot. (part 6 of 7) -/
import Derived.Test.YtkmlinaofbcbaaaDoorKRegionBack5
import Derived.ChangeSame
import Derived.ChangeVars
import Derived.JoinedOf
import Derived.LaidHandle
import Derived.LaidLaws
import Derived.RowKit
import Derived.RowKitTokens
import Derived.Stop.Joined
import Derived.Test.YtkmlinaofbcbaaaDoorRows
namespace Go.Proofs.YtkmlinaofbcbaaaDoor
open Go Go.Va
set_option linter.unusedVariables false
set_option linter.unusedSimpArgs false
theorem drop_cons {b l : List (BitVec 8)} {c : BitVec 8} {pos : Nat} (h : b.drop pos = c :: l) : ∃ hp : pos < b.length, b[pos] = c ∧ b.drop (pos + 1) = l := by
  have hp : pos < b.length := by
    rcases Nat.lt_or_ge pos b.length with h1 | h1
    · exact h1
    · rw [List.drop_of_length_le h1] at h; cases h
  rw [List.drop_eq_getElem_cons hp] at h
  simp only [List.cons.injEq] at h
  exact ⟨hp, h.1, h.2⟩
theorem fail_eq (b : List (BitVec 8)) (a e : Int) : octets_Reader_Fail ⟨b, a, 0⟩ e = some ⟨b, a, e⟩ := rfl
theorem rfail_eq (b : List (BitVec 8)) (a e : Int) : butteryref02_fail ⟨b, a, 0⟩ e = some ⟨b, a, e⟩ := rfl
def oOut (b : List (BitVec 8)) (a pos : Nat) : Int ⊕ (Nat × Nat) → octets_Reader ⊕ (Int × octets_Reader)
  | .inl e => .inl ⟨b, a, e⟩
  | .inr (m, k) => .inr ((m : Int), ⟨b, ((pos + k : Nat) : Int), 0⟩)
theorem oOut_go (b : List (BitVec 8)) (a pos : Nat) (r : Int ⊕ (Nat × Nat)) : oOut b a pos (up7 r) = oOut b a (pos + 1) r := by
  cases r with
  | inl e => rfl
  | inr p => simp only [up7, oOut]; rw [show pos + (p.2 + 1) = pos + 1 + p.2 by omega]
theorem rd7_err {most : Nat} : ∀ {l : List (BitVec 8)} {f : Bool} {n : Nat} {e : Int}, rd7 most l f n = .inl e → e = 2 ∨ e = 5 ∨ e = 6
  | [], f, n, e, h => by simp [rd7] at h; omega
  | c :: l, f, n, e, h => by
    simp only [rd7] at h
    split at h
    · cases h; simp
    · split at h
      · cases h; simp
      · split at h
        · cases hr : rd7 most l false (n * 128 + c.toNat % 128) with
          | inl e' => rw [hr] at h; cases h; exact rd7_err hr
          | inr p => rw [hr] at h; cases h
        · split at h
          · cases h; simp
          · cases h
theorem octNum_stop (most : Int) (b : List (BitVec 8)) (n pos a e : Int) (he : e ≠ 0) : octets_Reader_Number_l0 most (n, pos, ⟨b, a, e⟩) = some (.inl ⟨b, a, e⟩) :=
  loopO_out (by simp [octets_Reader_Number_b0, lt_eq, he])
theorem le_byte (c : BitVec 8) : (128#8 ≤ c) ↔ 128 ≤ c.toNat := by rw [BitVec.le_def]; rfl
theorem octNum_l {b : List (BitVec 8)} {most a : Nat} (hb : b.length ≤ 1000000) (hm : most < 9223372036854775808) : ∀ (l : List (BitVec 8)) (pos n : Nat) (f : Bool), b.drop pos = l → pos ≤ b.length → (f = true → n = 0 ∧ pos = a) → (f = false → a < pos) → n < 9223372036854775808 →
    octets_Reader_Number_l0 (most : Int) ((n : Int), (pos : Int), ⟨b, (a : Int), 0⟩) = some (oOut b a pos (rd7 most l f n))
  | [], pos, n, f, hl, hp, _, _, _ => by
    have hlen : pos = b.length := by
      have := congrArg List.length hl
      simp at this; omega
    refine loopO_out ?_
    simp only [octets_Reader_Number_b0, lt_eq]
    rw [if_pos (by rfl), if_pos (decide_eq_true (by omega)), fail_eq]
    rfl
  | c :: l, pos, n, f, hl, hp, hf, hg, hn => by
    obtain ⟨hlt, hc, hd⟩ := drop_cons hl
    have e0 : w64 ((pos : Int) + 1) = ((pos + 1 : Nat) : Int) := w64_nat (by omega)
    have e1 : w64 ((a : Int) + 1) = ((a + 1 : Nat) : Int) := by
      have : a ≤ pos := by cases f with | true => have := (hf rfl).2; omega | false => have := hg rfl; omega
      exact w64_nat (by omega)
    have e2 : shr64 (most : Int) 7 = ((most / 128 : Nat) : Int) := by rw [shr64_nat (by omega)]
    have hcl := c.isLt
    have hcond : (if (c == 128#8) = true then (if ((n : Int) == 0) = true then some (((pos + 1 : Nat) : Int) == ((a + 1 : Nat) : Int)) else some false) else some false) = some (decide (c = 128#8 ∧ f = true)) := by
      by_cases h1 : c = 128#8
      · rw [if_pos (by simp [h1])]
        cases f with
        | true =>
          obtain ⟨rfl, rfl⟩ := hf rfl
          simp [h1]
        | false =>
          have := hg rfl
          split
          · have : (((pos + 1 : Nat) : Int) == ((a + 1 : Nat) : Int)) = false := by simp; omega
            rw [this]; simp
          · simp
      · rw [if_neg (by simpa using h1)]; simp [h1]
    have hb0 : octets_Reader_Number_b0 (most : Int) (n : Int) (pos : Int) ⟨b, (a : Int), 0⟩ =
        if c = 128#8 ∧ f = true then some (.inl ((n : Int), ((pos + 1 : Nat) : Int), ⟨b, (a : Int), 5⟩)) else if most / 128 < n then some (.inl ((n : Int), ((pos + 1 : Nat) : Int), ⟨b, (a : Int), 2⟩)) else
        if 128 ≤ c.toNat then some (.inl (((n * 128 + c.toNat % 128 : Nat) : Int), ((pos + 1 : Nat) : Int), ⟨b, (a : Int), 0⟩)) else
        if most < n * 128 + c.toNat then some (.inl (((n * 128 + c.toNat : Nat) : Int), ((pos + 1 : Nat) : Int), ⟨b, (a : Int), 2⟩)) else some (.inr (.inr (((n * 128 + c.toNat : Nat) : Int), ⟨b, ((pos + 1 : Nat) : Int), 0⟩))) := by
      simp only [octets_Reader_Number_b0, lt_eq]
      rw [if_pos (by rfl), if_neg (by rw [decide_eq_false (by omega)]; simp), ix_nat hlt, hc]
      simp only [Option.bind_some, e0, e1, e2]
      rw [hcond]
      simp only [Option.bind_some, decide_eq_true_eq]
      by_cases h1 : c = 128#8 ∧ f = true
      · rw [if_pos h1, if_pos h1, fail_eq]; rfl
      · rw [if_neg h1, if_neg h1]
        by_cases h2 : most / 128 < n
        · rw [if_pos (by omega), if_pos h2, fail_eq]; rfl
        · rw [if_neg (by omega), if_neg h2]
          by_cases h3 : 128 ≤ c.toNat
          · rw [if_pos ((le_byte c).2 h3), if_pos h3, byte_and, or64_7 (by omega) (by omega)]
          · rw [if_neg (fun h => h3 ((le_byte c).1 h)), if_neg h3, or64_7 (by omega) (by omega)]
            by_cases h4 : most < n * 128 + c.toNat
            · rw [if_pos (by omega), if_pos h4, fail_eq]; rfl
            · rw [if_neg (by omega), if_neg h4]
    have step : ∀ (s' : Int × Int × octets_Reader), octets_Reader_Number_b0 (most : Int) (n : Int) (pos : Int) ⟨b, (a : Int), 0⟩ = some (.inl s') → octets_Reader_Number_l0 (most : Int) ((n : Int), (pos : Int), ⟨b, (a : Int), 0⟩) = octets_Reader_Number_l0 (most : Int) s' := fun s' h => loopO_in (body := fun s => octets_Reader_Number_b0 (most : Int) s.1 s.2.1 s.2.2) h
    simp only [rd7]
    by_cases h1 : c = 128#8 ∧ f = true
    · rw [if_pos h1] at hb0 ⊢
      rw [step _ hb0, octNum_stop _ _ _ _ _ _ (by decide)]; rfl
    · rw [if_neg h1] at hb0 ⊢
      by_cases h2 : most / 128 < n
      · rw [if_pos h2] at hb0 ⊢
        rw [step _ hb0, octNum_stop _ _ _ _ _ _ (by decide)]; rfl
      · rw [if_neg h2] at hb0 ⊢
        by_cases h3 : 128 ≤ c.toNat
        · rw [if_pos h3] at hb0 ⊢
          rw [step _ hb0, octNum_l hb hm l (pos + 1) (n * 128 + c.toNat % 128) false hd (by omega) (by simp) (fun _ => by cases f with | true => have := (hf rfl).2; omega | false => have := hg rfl; omega) (by omega), oOut_go]
        · rw [if_neg h3] at hb0 ⊢
          by_cases h4 : most < n * 128 + c.toNat
          · rw [if_pos h4] at hb0 ⊢
            rw [step _ hb0, octNum_stop _ _ _ _ _ _ (by decide)]; rfl
          · rw [if_neg h4] at hb0 ⊢
            exact loopO_out (body := fun s => octets_Reader_Number_b0 (most : Int) s.1 s.2.1 s.2.2) hb0
def rOut (b : List (BitVec 8)) (a pos : Nat) : Int ⊕ (Nat × Nat) → Unit ⊕ (butteryref02_Reader × Int)
  | .inl e => if e = 6 then .inl () else .inr (⟨b, a, e⟩, 0)
  | .inr (m, k) => .inr (⟨b, ((pos + k : Nat) : Int), 0⟩, (m : Int))
theorem rOut_go (b : List (BitVec 8)) (a pos : Nat) (r : Int ⊕ (Nat × Nat)) : rOut b a pos (up7 r) = rOut b a (pos + 1) r := by
  cases r with
  | inl e => rfl
  | inr p => simp only [up7, rOut]; rw [show pos + (p.2 + 1) = pos + 1 + p.2 by omega]
theorem refNum_l {b : List (BitVec 8)} {most a : Nat} (hb : b.length ≤ 1000000) (hm : most < 9223372036854775808) : ∀ (l : List (BitVec 8)) (pos n : Nat) (f : Bool), b.drop pos = l → pos ≤ b.length → (f = true → n = 0 ∧ pos = a) → (f = false → a < pos) → n < 9223372036854775808 →
    butteryref02_Number_l0 ⟨b, (a : Int), 0⟩ (most : Int) ((n : Int), (pos : Int)) = some (rOut b a pos (rd7 most l f n))
  | [], pos, n, f, hl, hp, _, _, _ => by
    have hlen : pos = b.length := by
      have := congrArg List.length hl
      simp at this; omega
    refine loopO_out ?_
    simp only [butteryref02_Number_b0, lt_eq]
    rw [if_neg (by rw [decide_eq_false (by omega)]; simp)]
    rfl
  | c :: l, pos, n, f, hl, hp, hf, hg, hn => by
    obtain ⟨hlt, hc, hd⟩ := drop_cons hl
    have e0 : w64 ((pos : Int) + 1) = ((pos + 1 : Nat) : Int) := w64_nat (by omega)
    have e2 : quo64 (most : Int) 128 = ((most / 128 : Nat) : Int) := quo64_nat hm
    have e3 : Int.tmod (c.toNat : Int) 128 = ((c.toNat % 128 : Nat) : Int) := tmod_nat _ 128
    have hcl := c.isLt
    have e4 : ((c.toNat : Int) == 128) = decide (c = 128#8) := by
      rw [Bool.eq_iff_iff]; simp only [beq_iff_eq, decide_eq_true_eq]
      constructor
      · intro h; apply BitVec.eq_of_toNat_eq; show _ = 128; omega
      · rintro rfl; rfl
    have hcond : (if decide (c = 128#8) = true then some ((pos : Int) == (a : Int)) else some false) = some (decide (c = 128#8 ∧ f = true)) := by
      by_cases h1 : c = 128#8
      · rw [if_pos (by simp [h1])]
        cases f with
        | true =>
          obtain ⟨rfl, rfl⟩ := hf rfl
          simp [h1]
        | false =>
          have := hg rfl
          have : ((pos : Int) == (a : Int)) = false := by simp; omega
          rw [this]; simp
      · rw [if_neg (by simpa using h1)]; simp [h1]
    have hb0 : butteryref02_Number_b0 ⟨b, (a : Int), 0⟩ (most : Int) (n : Int) (pos : Int) =
        if c = 128#8 ∧ f = true then some (.inr (.inr (⟨b, (a : Int), 5⟩, 0))) else if most / 128 < n then some (.inr (.inr (⟨b, (a : Int), 2⟩, 0))) else
        if 128 ≤ c.toNat then some (.inl (((n * 128 + c.toNat % 128 : Nat) : Int), ((pos + 1 : Nat) : Int))) else
        if most < n * 128 + c.toNat then some (.inr (.inr (⟨b, (a : Int), 2⟩, 0))) else some (.inr (.inr (⟨b, ((pos + 1 : Nat) : Int), 0⟩, ((n * 128 + c.toNat : Nat) : Int)))) := by
      simp only [butteryref02_Number_b0, lt_eq]
      rw [if_pos (decide_eq_true (by omega)), ix_nat hlt, hc]
      simp only [Option.bind_some, e0, e2, e3, e4]
      rw [hcond]
      simp only [Option.bind_some, decide_eq_true_eq]
      by_cases h1 : c = 128#8 ∧ f = true
      · rw [if_pos h1, if_pos h1, rfail_eq]; rfl
      · rw [if_neg h1, if_neg h1]
        by_cases h2 : most / 128 < n
        · rw [if_pos (by omega), if_pos h2, rfail_eq]; rfl
        · rw [if_neg (by omega), if_neg h2, w64_eq (n := (n : Int) * 128) (by omega) (by omega), w64_eq (by omega) (by omega)]
          by_cases h3 : 128 ≤ c.toNat
          · rw [if_pos (by omega), if_pos h3]
            rw [show ((n : Int) * 128 + ((c.toNat % 128 : Nat) : Int)) = ((n * 128 + c.toNat % 128 : Nat) : Int) by omega]
          · rw [if_neg (by omega), if_neg h3]
            rw [show ((n : Int) * 128 + ((c.toNat % 128 : Nat) : Int)) = ((n * 128 + c.toNat : Nat) : Int) by omega]
            by_cases h4 : most < n * 128 + c.toNat
            · rw [if_pos (by omega), if_pos h4, rfail_eq]; rfl
            · rw [if_neg (by omega), if_neg h4]
    have hout : ∀ x, butteryref02_Number_b0 ⟨b, (a : Int), 0⟩ (most : Int) (n : Int) (pos : Int) = some (.inr x) → butteryref02_Number_l0 ⟨b, (a : Int), 0⟩ (most : Int) ((n : Int), (pos : Int)) = some x := fun x h => loopO_out (body := fun s => butteryref02_Number_b0 ⟨b, (a : Int), 0⟩ (most : Int) s.1 s.2) h
    have step : ∀ (s' : Int × Int), butteryref02_Number_b0 ⟨b, (a : Int), 0⟩ (most : Int) (n : Int) (pos : Int) = some (.inl s') → butteryref02_Number_l0 ⟨b, (a : Int), 0⟩ (most : Int) ((n : Int), (pos : Int)) = butteryref02_Number_l0 ⟨b, (a : Int), 0⟩ (most : Int) s' := fun s' h => loopO_in (body := fun s => butteryref02_Number_b0 ⟨b, (a : Int), 0⟩ (most : Int) s.1 s.2) h
    simp only [rd7]
    by_cases h1 : c = 128#8 ∧ f = true
    · rw [if_pos h1] at hb0 ⊢
      exact hout _ hb0
    · rw [if_neg h1] at hb0 ⊢
      by_cases h2 : most / 128 < n
      · rw [if_pos h2] at hb0 ⊢
        exact hout _ hb0
      · rw [if_neg h2] at hb0 ⊢
        by_cases h3 : 128 ≤ c.toNat
        · rw [if_pos h3] at hb0 ⊢
          rw [step _ hb0, refNum_l hb hm l (pos + 1) (n * 128 + c.toNat % 128) false hd (by omega) (by simp) (fun _ => by cases f with | true => have := (hf rfl).2; omega | false => have := hg rfl; omega) (by omega), rOut_go]
        · rw [if_neg h3] at hb0 ⊢
          by_cases h4 : most < n * 128 + c.toNat
          · rw [if_pos h4] at hb0 ⊢
            exact hout _ hb0
          · rw [if_neg h4] at hb0 ⊢
            exact hout _ hb0
/-- What is read, and where the reader stands then. -/
def rdN (b : List (BitVec 8)) (a most : Nat) : Nat × Nat × Int := match rd7 most (b.drop a) true 0 with
  | .inl e => (0, a, e)
  | .inr (m, k) => (m, a + k, 0)
theorem octNum_eq {b : List (BitVec 8)} {a most : Nat} (hb : b.length ≤ 1000000) (ha : a ≤ b.length) (hm : most < 9223372036854775808) : octets_Reader_Number ⟨b, a, 0⟩ most = some (((rdN b a most).1 : Int), ⟨b, ((rdN b a most).2.1 : Int), (rdN b a most).2.2⟩) := by
  simp only [octets_Reader_Number]
  have := octNum_l hb hm (b.drop a) a 0 true rfl ha (fun _ => ⟨rfl, rfl⟩) (fun h => by cases h) (by omega)
  rw [show ((0 : Nat) : Int) = 0 from rfl] at this
  rw [this]
  unfold rdN
  cases rd7 most (b.drop a) true 0 with
  | inl e => rfl
  | inr p => rfl
theorem refNum_eq {b : List (BitVec 8)} {a most : Nat} (hb : b.length ≤ 1000000) (ha : a ≤ b.length) (hm : most < 9223372036854775808) : butteryref02_Number ⟨b, a, 0⟩ most = some (⟨b, ((rdN b a most).2.1 : Int), (rdN b a most).2.2⟩, ((rdN b a most).1 : Int)) := by
  simp only [butteryref02_Number, lt_eq]
  rw [if_neg (by simp)]
  have := refNum_l hb hm (b.drop a) a 0 true rfl ha (fun _ => ⟨rfl, rfl⟩) (fun h => by cases h) (by omega)
  rw [show ((0 : Nat) : Int) = 0 from rfl] at this
  rw [this]
  unfold rdN
  cases h : rd7 most (b.drop a) true 0 with
  | inl e =>
    rcases rd7_err h with rfl | rfl | rfl <;> rfl
  | inr p => rfl
theorem rdN_le {b : List (BitVec 8)} {a most : Nat} (ha : a ≤ b.length) : (rdN b a most).2.1 ≤ b.length ∧ a ≤ (rdN b a most).2.1 ∧ (rdN b a most).1 ≤ most ∧ ((rdN b a most).2.2 ≠ 0 → (rdN b a most).1 = 0 ∧ (rdN b a most).2.1 = a) := by
  unfold rdN
  cases h : rd7 most (b.drop a) true 0 with
  | inl e => exact ⟨ha, Nat.le_refl _, Nat.zero_le _, fun _ => ⟨rfl, rfl⟩⟩
  | inr p =>
    have := rd7_le h
    simp only [List.length_drop] at this
    exact ⟨by simp only; omega, by simp only; omega, this.1, fun h => absurd rfl h⟩
theorem rdN_off {b : List (BitVec 8)} {a : Int} {most e : Int} (he : e ≠ 0) : octets_Reader_Number ⟨b, a, e⟩ most = some (0, ⟨b, a, e⟩) := by
  simp only [octets_Reader_Number, octNum_stop _ _ _ _ _ _ he]; rfl
theorem refN_off {b : List (BitVec 8)} {a : Int} {most e : Int} (he : e ≠ 0) : butteryref02_Number ⟨b, a, e⟩ most = some (⟨b, a, e⟩, 0) := by
  simp [butteryref02_Number, lt_eq, he]
theorem left_eq {b : List (BitVec 8)} {a : Nat} {e : Int} (hb : b.length ≤ 1000000) (ha : a ≤ b.length) : octets_Reader_Left ⟨b, a, e⟩ = some ((b.length - a : Nat) : Int) := by
  simp only [octets_Reader_Left, lt_eq]
  rw [w64_eq (by omega) (by omega)]
  congr 1; omega
end Go.Proofs.YtkmlinaofbcbaaaDoor
namespace Go.Proofs.YtkmlinaofbcbaaaDoor
open Go Go.Va
set_option linter.unusedVariables false
set_option linter.unusedSimpArgs false
def stp (a : BitVec 64) (c : BitVec 8) : BitVec 64 := a <<< 8 ||| c.setWidth 64
def word (l : List (BitVec 8)) : BitVec 64 := l.foldl stp 0#64
theorem stp_add (a : BitVec 64) (c : BitVec 8) : a * 256#64 + c.setWidth 64 = stp a c := by
  have h1 : a * 256#64 = a <<< 8 := by
    apply BitVec.eq_of_toNat_eq
    simp [Nat.shiftLeft_eq]
  have h2 : a <<< 8 &&& c.setWidth 64 = 0#64 := by
    apply BitVec.eq_of_getLsbD_eq
    intro i hi
    simp only [BitVec.getLsbD_and, BitVec.getLsbD_shiftLeft, BitVec.getLsbD_setWidth, BitVec.getLsbD_zero]
    by_cases h : i < 8
    · simp [h]
    · rw [BitVec.getLsbD_of_ge c i (by omega)]; simp
  rw [h1, BitVec.add_eq_or_of_and_eq_zero _ _ h2]; rfl
theorem word_wd (n : BitVec 64) : ∀ i, i ≤ 8 → word (wd n i) = n >>> (64 - 8 * i)
  | 0, _ => by
    apply BitVec.eq_of_getLsbD_eq
    intro j hj
    rw [BitVec.getLsbD_ushiftRight, BitVec.getLsbD_of_ge n _ (by omega)]; simp [word, wd]
  | i + 1, h => by
    rw [wd_succ, word, List.foldl_append]
    have ih := word_wd n i (by omega)
    rw [word] at ih
    rw [ih]
    simp only [List.foldl_cons, List.foldl_nil, stp]
    apply BitVec.eq_of_getLsbD_eq
    intro j hj
    simp only [BitVec.getLsbD_or, BitVec.getLsbD_shiftLeft, BitVec.getLsbD_ushiftRight, BitVec.getLsbD_setWidth]
    by_cases h8 : j < 8
    · simp [h8, hj, show 64 - 8 * (i + 1) = 56 - 8 * i by omega]
    · simp only [h8, hj, decide_true, decide_false, Bool.not_false, Bool.and_true, Bool.true_and, Bool.false_and, Bool.and_false, Bool.or_false]
      congr 1; omega
theorem word_full (n : BitVec 64) : word (wd n 8) = n := by
  rw [word_wd n 8 (by omega)]; simp
/-- Eight bytes. -/
def cut8 (b : List (BitVec 8)) (a : Nat) : List (BitVec 8) := (b.take (a + 8)).drop a
theorem cut8_len {b : List (BitVec 8)} {a : Nat} (h : a + 8 ≤ b.length) : (cut8 b a).length = 8 := by simp [cut8]; omega
/-- What bytes are read: they, where the reader stands then, what is wrong. -/
def rdB (b : List (BitVec 8)) (a most : Nat) : List (BitVec 8) × Nat × Int :=
  if (rdN b a most).2.2 ≠ 0 then ([], (rdN b a most).2.1, (rdN b a most).2.2) else
  if b.length < (rdN b a most).2.1 + (rdN b a most).1 then ([], a, 6) else ((b.take ((rdN b a most).2.1 + (rdN b a most).1)).drop (rdN b a most).2.1, (rdN b a most).2.1 + (rdN b a most).1, 0)
theorem octBytesR_eq {b : List (BitVec 8)} {a most : Nat} (hb : b.length ≤ 1000000) (ha : a ≤ b.length) (hm : most < 9223372036854775808) : octets_Reader_Bytes ⟨b, a, 0⟩ most = some ((rdB b a most).1, ⟨b, ((rdB b a most).2.1 : Int), (rdB b a most).2.2⟩) := by
  simp only [octets_Reader_Bytes, octNum_eq hb ha hm, Option.bind_some, lt_eq]
  obtain ⟨h1, h2, h3, h4⟩ := rdN_le (most := most) ha
  unfold rdB
  generalize rdN b a most = z at *
  obtain ⟨n, p, e⟩ := z
  simp only at *
  by_cases he : e = 0
  · subst he
    rw [if_neg (by simp), if_neg (by simp), left_eq hb h1]
    simp only [Option.bind_some]
    by_cases hc : b.length < p + n
    · rw [if_pos hc, if_pos (decide_eq_true (by omega)), fail_eq]; rfl
    · rw [if_neg hc, if_neg (by rw [decide_eq_false (by omega)]; simp), w64_eq (by omega) (by omega), show (p : Int) + (n : Int) = ((p + n : Nat) : Int) by omega, cutO_eq (by omega) (by omega)]
      simp only [Option.bind_some]
      rw [app_eq (by simp; omega)]; rfl
  · rw [if_pos (by simpa using he), if_pos he]
theorem octBytesR_off {b : List (BitVec 8)} {a e most : Int} (he : e ≠ 0) : octets_Reader_Bytes ⟨b, a, e⟩ most = some ([], ⟨b, a, e⟩) := by
  simp [octets_Reader_Bytes, rdN_off he, lt_eq, he]
theorem text_eq {b : List (BitVec 8)} {a most : Nat} (hb : b.length ≤ 1000000) (ha : a ≤ b.length) (hm : most < 9223372036854775808) : butteryref02_Text ⟨b, a, 0⟩ most = some (⟨b, ((rdB b a most).2.1 : Int), (rdB b a most).2.2⟩, (rdB b a most).1) := by
  simp only [butteryref02_Text, refNum_eq hb ha hm, Option.bind_some, lt_eq]
  obtain ⟨h1, h2, h3, h4⟩ := rdN_le (most := most) ha
  unfold rdB
  generalize rdN b a most = z at *
  obtain ⟨n, p, e⟩ := z
  simp only at *
  by_cases he : e = 0
  · subst he
    rw [if_neg (show ¬ (((0 : Int) != 0) = true) by simp), if_neg (show ¬ ((0 : Int) ≠ 0) by simp), w64_eq (n := (b.length : Int) - (p : Int)) (by omega) (by omega)]
    by_cases hc : b.length < p + n
    · rw [if_pos hc, if_pos (decide_eq_true (by omega)), rfail_eq]; rfl
    · rw [if_neg hc, if_neg (by rw [decide_eq_false (by omega)]; simp), w64_eq (by omega) (by omega), show (p : Int) + (n : Int) = ((p + n : Nat) : Int) by omega, cutO_eq (by omega) (by omega)]
      simp only [Option.bind_some]
      rw [app_eq (by simp; omega)]; rfl
  · rw [if_pos (by simpa using he), if_pos he]
theorem text_off {b : List (BitVec 8)} {a e most : Int} (he : e ≠ 0) : butteryref02_Text ⟨b, a, e⟩ most = some (⟨b, a, e⟩, []) := by
  simp [butteryref02_Text, refN_off he, lt_eq, he]
theorem rdB_le {b : List (BitVec 8)} {a most : Nat} (ha : a ≤ b.length) : (rdB b a most).2.1 ≤ b.length ∧ a ≤ (rdB b a most).2.1 ∧ (rdB b a most).1.length ≤ b.length := by
  obtain ⟨h1, h2, h3, h4⟩ := rdN_le (most := most) ha
  unfold rdB
  generalize rdN b a most = z at *
  obtain ⟨n, p, e⟩ := z
  simp only at *
  split
  · exact ⟨h1, h2, by simp⟩
  · split
    · exact ⟨ha, Nat.le_refl _, by simp⟩
    · exact ⟨by simp only; omega, by simp only; omega, by simp; omega⟩
theorem end_eq {b : List (BitVec 8)} {a : Nat} {e : Int} (hb : b.length ≤ 1000000) (ha : a ≤ b.length) : octets_Reader_End ⟨b, a, e⟩ = some (if e = 0 ∧ a < b.length then 5 else e, ⟨b, a, if e = 0 ∧ a < b.length then 5 else e⟩) := by
  simp only [octets_Reader_End, left_eq hb ha, Option.bind_some, lt_eq]
  by_cases h : a < b.length
  · rw [if_pos (decide_eq_true (by omega))]
    by_cases he : e = 0
    · subst he; rw [fail_eq]; simp [h]
    · simp [octets_Reader_Fail, lt_eq, he]
  · rw [if_neg (by rw [decide_eq_false (by omega)]; simp)]; simp [h]
theorem rend_eq {b : List (BitVec 8)} {a : Nat} {e : Int} : butteryref02_End ⟨b, a, e⟩ = some (if e = 0 ∧ a < b.length then 5 else e) := by
  simp only [butteryref02_End, lt_eq]
  by_cases he : e = 0
  · subst he
    rw [if_pos (by rfl)]
    by_cases h : a < b.length
    · simp [h]
    · simp [h]
  · simp [he]
theorem read_eq {b : List (BitVec 8)} (hb : b.length ≤ 1000000) : octets_Read b = some ⟨b, 0, 0⟩ := by
  simp only [octets_Read, lt_eq]
  rw [app_eq (by simp; omega)]; rfl
end Go.Proofs.YtkmlinaofbcbaaaDoor
namespace Go.Proofs.YtkmlinaofbcbaaaDoor
open Go Go.Va
set_option linter.unusedVariables false
set_option linter.unusedSimpArgs false
def upN (k : Nat) : Int ⊕ (Nat × Nat) → Int ⊕ (Nat × Nat)
  | .inl e => .inl e
  | .inr (m, j) => .inr (m, k + j)
theorem upN_up (k : Nat) (r : Int ⊕ (Nat × Nat)) : upN k (up7 r) = upN (k + 1) r := by
  cases r with
  | inl e => rfl
  | inr p => simp only [up7, upN]; rw [show k + (p.2 + 1) = k + 1 + p.2 by omega]
theorem rd7_pre {most : Nat} : ∀ (k q : Nat), q < 128 ^ k → q ≤ most / 128 → ∀ l, rd7 most (pre q ++ l) true 0 = upN (pre q).length (rd7 most l (decide (q = 0)) q)
  | 0, q, h, hq, l => by
    have : q = 0 := by simpa using h
    subst this
    rw [pre_zero]
    simp only [List.nil_append, List.length_nil, decide_true]
    cases rd7 most l true 0 with
    | inl e => rfl
    | inr p => simp [upN]
  | k + 1, q, h, hq, l => by
    by_cases h0 : q = 0
    · subst h0
      rw [pre_zero]
      simp only [List.nil_append, List.length_nil, decide_true]
      cases rd7 most l true 0 with
      | inl e => rfl
      | inr p => simp [upN]
    · rw [pre_pos (by omega), List.append_assoc, rd7_pre k (q / 128) (by rw [Nat.div_lt_iff_lt_mul (by decide)]; rw [Nat.pow_succ] at h; exact h) (by omega)]
      have hc : (BitVec.ofNat 8 (q % 128 + 128)).toNat = q % 128 + 128 := by simp; omega
      simp only [List.singleton_append, rd7]
      rw [if_neg (by
        rintro ⟨h1, h2⟩
        have h1 := congrArg BitVec.toNat h1
        rw [hc] at h1
        have h1 : q % 128 + 128 = 128 := h1
        have h2 : q / 128 = 0 := by simpa using h2
        omega), if_neg (by omega), if_pos (by omega), hc, upN_up]
      rw [show q / 128 * 128 + (q % 128 + 128) % 128 = q by omega, decide_eq_false h0]
      simp
theorem rd7_num {most m : Nat} (hm : m ≤ most) (hm2 : m < 9223372036854775808) (l : List (BitVec 8)) : rd7 most (num7 m ++ l) true 0 = .inr (m, (num7 m).length) := by
  rw [num7, List.append_assoc, rd7_pre 9 (m / 128) (by omega) (by omega)]
  have hc : (BitVec.ofNat 8 (m % 128)).toNat = m % 128 := by simp; omega
  simp only [List.singleton_append, rd7]
  rw [if_neg (by
    rintro ⟨h1, h2⟩
    have h1 := congrArg BitVec.toNat h1
    rw [hc] at h1
    have h1 : m % 128 = 128 := h1
    omega), if_neg (by omega), if_neg (by omega), if_neg (by omega), hc, show m / 128 * 128 + m % 128 = m by omega]
  simp [upN]
theorem rdN_num {b l : List (BitVec 8)} {a most m : Nat} (h : b.drop a = num7 m ++ l) (hm : m ≤ most) (hm2 : m < 9223372036854775808) : rdN b a most = (m, a + (num7 m).length, 0) := by
  rw [rdN, h, rd7_num hm hm2]
/-- Bytes that are read as a number, all but the first ones: they are its last bytes. -/
theorem rd7_one {most : Nat} (hm : most < 9223372036854775808) : ∀ {l : List (BitVec 8)} {f : Bool} {n m k : Nat}, (f = true → n = 0) → (f = false → 0 < n) → rd7 most l f n = .inr (m, k) → num7 m = pre n ++ l.take k
  | [], f, n, m, k, _, _, h => by simp [rd7] at h
  | c :: l, f, n, m, k, hf, hg, h => by
    have hc := c.isLt
    simp only [rd7] at h
    split at h
    · cases h
    · rename_i h1
      split at h
      · cases h
      · split at h
        · rename_i h3
          cases hr : rd7 most l false (n * 128 + c.toNat % 128) with
          | inl e => rw [hr] at h; cases h
          | inr p =>
            obtain ⟨m', k'⟩ := p
            rw [hr] at h
            simp only [up7, Sum.inr.injEq, Prod.mk.injEq] at h
            obtain ⟨rfl, rfl⟩ := h
            have hpos : 0 < n * 128 + c.toNat % 128 := by
              cases f with
              | true =>
                have : c ≠ 128#8 := fun e => h1 ⟨e, rfl⟩
                have : c.toNat ≠ 128 := fun e => this (BitVec.eq_of_toNat_eq e)
                omega
              | false => have := hg rfl; omega
            have ih := rd7_one hm (f := false) (fun e => by cases e) (fun _ => hpos) hr
            rw [ih, pre_pos hpos]
            rw [show (n * 128 + c.toNat % 128) / 128 = n by omega, show (n * 128 + c.toNat % 128) % 128 + 128 = c.toNat by omega]
            simp
        · rename_i h3
          split at h
          · cases h
          · simp only [Sum.inr.injEq, Prod.mk.injEq] at h
            obtain ⟨rfl, rfl⟩ := h
            rw [num7, show (n * 128 + c.toNat) / 128 = n by omega, show (n * 128 + c.toNat) % 128 = c.toNat by omega]
            simp
/-- What a reader is, and the program's reader beside it. -/
structure rdr where
  a : Nat
  e : Int
def rdr.x (r : rdr) (b : List (BitVec 8)) : butteryref02_Reader := ⟨b, r.a, r.e⟩
def rdr.o (r : rdr) (b : List (BitVec 8)) : octets_Reader := ⟨b, r.a, r.e⟩
theorem num_both {b : List (BitVec 8)} (hb : b.length ≤ 1000000) (r : rdr) (hr : r.a ≤ b.length) {m : Int} (h0 : 0 ≤ m) (h1 : m ≤ 9223372036854775807) : ∃ (s : rdr) (n : Int), s.a ≤ b.length ∧ butteryref02_Number (r.x b) m = some (s.x b, n) ∧ octets_Reader_Number (r.o b) m = some (n, s.o b) := by
  obtain ⟨m, rfl⟩ : ∃ n : Nat, m = (n : Int) := ⟨m.toNat, by omega⟩
  obtain ⟨a, e⟩ := r
  by_cases he : e = 0
  · subst he
    exact ⟨⟨(rdN b a m).2.1, (rdN b a m).2.2⟩, _, (rdN_le hr).1, refNum_eq hb hr (by omega), octNum_eq hb hr (by omega)⟩
  · exact ⟨⟨a, e⟩, 0, hr, refN_off he, rdN_off he⟩
theorem text_both {b : List (BitVec 8)} (hb : b.length ≤ 1000000) (r : rdr) (hr : r.a ≤ b.length) {m : Int} (h0 : 0 ≤ m) (h1 : m ≤ 9223372036854775807) : ∃ (s : rdr) (n : List (BitVec 8)), s.a ≤ b.length ∧ n.length ≤ b.length ∧ butteryref02_Text (r.x b) m = some (s.x b, n) ∧ octets_Reader_Bytes (r.o b) m = some (n, s.o b) := by
  obtain ⟨m, rfl⟩ : ∃ n : Nat, m = (n : Int) := ⟨m.toNat, by omega⟩
  obtain ⟨a, e⟩ := r
  by_cases he : e = 0
  · subst he
    exact ⟨⟨(rdB b a m).2.1, (rdB b a m).2.2⟩, _, (rdB_le hr).1, (rdB_le hr).2.2, text_eq hb hr (by omega), octBytesR_eq hb hr (by omega)⟩
  · exact ⟨⟨a, e⟩, [], hr, by simp, text_off he, octBytesR_off he⟩
/-- What is read as a number. -/
def rN (b : List (BitVec 8)) (r : rdr) (m : Nat) : Nat × rdr := if r.e = 0 then ((rdN b r.a m).1, ⟨(rdN b r.a m).2.1, (rdN b r.a m).2.2⟩) else (0, r)
def rB (b : List (BitVec 8)) (r : rdr) (m : Nat) : List (BitVec 8) × rdr := if r.e = 0 then ((rdB b r.a m).1, ⟨(rdB b r.a m).2.1, (rdB b r.a m).2.2⟩) else ([], r)
theorem octN_r {b : List (BitVec 8)} (hb : b.length ≤ 1000000) {r : rdr} (hr : r.a ≤ b.length) {m : Nat} (hm : m < 9223372036854775808) : octets_Reader_Number (r.o b) (m : Int) = some (((rN b r m).1 : Int), (rN b r m).2.o b) := by
  obtain ⟨a, e⟩ := r
  unfold rN
  by_cases he : e = 0
  · subst he; rw [if_pos rfl]; exact octNum_eq hb hr hm
  · rw [if_neg he]; exact rdN_off he
theorem refN_r {b : List (BitVec 8)} (hb : b.length ≤ 1000000) {r : rdr} (hr : r.a ≤ b.length) {m : Nat} (hm : m < 9223372036854775808) : butteryref02_Number (r.x b) (m : Int) = some ((rN b r m).2.x b, ((rN b r m).1 : Int)) := by
  obtain ⟨a, e⟩ := r
  unfold rN
  by_cases he : e = 0
  · subst he; rw [if_pos rfl]; exact refNum_eq hb hr hm
  · rw [if_neg he]; exact refN_off he
theorem octB_r {b : List (BitVec 8)} (hb : b.length ≤ 1000000) {r : rdr} (hr : r.a ≤ b.length) {m : Nat} (hm : m < 9223372036854775808) : octets_Reader_Bytes (r.o b) (m : Int) = some ((rB b r m).1, (rB b r m).2.o b) := by
  obtain ⟨a, e⟩ := r
  unfold rB
  by_cases he : e = 0
  · subst he; rw [if_pos rfl]; exact octBytesR_eq hb hr hm
  · rw [if_neg he]; exact octBytesR_off he
theorem refB_r {b : List (BitVec 8)} (hb : b.length ≤ 1000000) {r : rdr} (hr : r.a ≤ b.length) {m : Nat} (hm : m < 9223372036854775808) : butteryref02_Text (r.x b) (m : Int) = some ((rB b r m).2.x b, (rB b r m).1) := by
  obtain ⟨a, e⟩ := r
  unfold rB
  by_cases he : e = 0
  · subst he; rw [if_pos rfl]; exact text_eq hb hr hm
  · rw [if_neg he]; exact text_off he
theorem rN_le {b : List (BitVec 8)} {r : rdr} (hr : r.a ≤ b.length) (m : Nat) : (rN b r m).2.a ≤ b.length ∧ r.a ≤ (rN b r m).2.a ∧ (rN b r m).1 ≤ m := by
  unfold rN
  split
  · have := rdN_le (most := m) hr; exact ⟨this.1, this.2.1, this.2.2.1⟩
  · exact ⟨hr, Nat.le_refl _, Nat.zero_le _⟩
theorem rB_le {b : List (BitVec 8)} {r : rdr} (hr : r.a ≤ b.length) (m : Nat) : (rB b r m).2.a ≤ b.length ∧ r.a ≤ (rB b r m).2.a ∧ (rB b r m).1.length ≤ b.length := by
  unfold rB
  split
  · exact rdB_le hr
  · exact ⟨hr, Nat.le_refl _, by simp⟩
theorem rN_off {b : List (BitVec 8)} {r : rdr} {m : Nat} (h : (rN b r m).2.e = 0) : r.e = 0 := by
  unfold rN at h
  split at h
  · assumption
  · exact h
theorem rB_off {b : List (BitVec 8)} {r : rdr} {m : Nat} (h : (rB b r m).2.e = 0) : r.e = 0 := by
  unfold rB at h
  split at h
  · assumption
  · exact h
/-- A number that is there is read. -/
theorem rN_is {b l : List (BitVec 8)} {r : rdr} {m n : Nat} (he : r.e = 0) (h : b.drop r.a = num7 n ++ l) (hm : n ≤ m) (hn : n < 9223372036854775808) : rN b r m = (n, ⟨r.a + (num7 n).length, 0⟩) := by
  unfold rN
  rw [if_pos he, rdN_num h hm hn]
theorem drop_app {b x l : List (BitVec 8)} {a : Nat} (h : b.drop a = x ++ l) : b.drop (a + x.length) = l := by
  rw [← List.drop_drop, h, List.drop_left' rfl]
/-- Bytes that are there are read. -/
theorem rB_is {b t l : List (BitVec 8)} {r : rdr} {m : Nat} (he : r.e = 0) (hr : r.a ≤ b.length) (h : b.drop r.a = num7 t.length ++ (t ++ l)) (hm : t.length ≤ m) (hn : t.length < 9223372036854775808) : rB b r m = (t, ⟨r.a + (num7 t.length).length + t.length, 0⟩) := by
  have h2 := drop_app h
  have h3 := congrArg List.length h2
  have h4 := congrArg List.length h
  simp only [List.length_drop, List.length_append] at h3 h4
  unfold rB rdB
  rw [if_pos he, rdN_num h hm hn]
  simp only
  rw [if_neg (by simp), if_neg (by omega)]
  refine Prod.ext ?_ rfl
  simp only
  rw [List.drop_take, h2, show r.a + (num7 t.length).length + t.length - (r.a + (num7 t.length).length) = t.length by omega, List.take_left' rfl]
/-- What was read as a number is its bytes. -/
theorem rN_one {b : List (BitVec 8)} {r : rdr} {m : Nat} (hm : m < 9223372036854775808) (h : (rN b r m).2.e = 0) : b.drop r.a = num7 (rN b r m).1 ++ b.drop (rN b r m).2.a ∧ r.a < (rN b r m).2.a := by
  have he := rN_off h
  unfold rN at h ⊢
  rw [if_pos he] at h ⊢
  unfold rdN at h ⊢
  cases hr : rd7 m (b.drop r.a) true 0 with
  | inl e =>
    rw [hr] at h
    simp only at h
    rcases rd7_err hr with rfl | rfl | rfl <;> cases h
  | inr p =>
    obtain ⟨n, k⟩ := p
    have h1 := rd7_one hm (fun _ => rfl) (fun h => by cases h) hr
    rw [pre_zero, List.nil_append] at h1
    have h2 := rd7_le hr
    simp only
    rw [h1, ← List.drop_drop, List.take_append_drop]
    exact ⟨rfl, by omega⟩
/-- What was read as bytes is their number and they. -/
theorem rB_one {b : List (BitVec 8)} {r : rdr} {m : Nat} (hr : r.a ≤ b.length) (hm : m < 9223372036854775808) (h : (rB b r m).2.e = 0) : b.drop r.a = num7 (rB b r m).1.length ++ ((rB b r m).1 ++ b.drop (rB b r m).2.a) ∧ r.a < (rB b r m).2.a ∧ (rB b r m).1.length ≤ m := by
  have he := rB_off h
  have hN := rN_one (b := b) (r := r) hm
  have hle := rN_le hr m
  unfold rN at hN hle
  rw [if_pos he] at hN hle
  simp only at hN hle
  unfold rB at h ⊢
  rw [if_pos he] at h ⊢
  unfold rdB at h ⊢
  generalize rdN b r.a m = z at *
  obtain ⟨n, p, e⟩ := z
  simp only at *
  by_cases h1 : e = 0
  · subst h1
    rw [if_neg (by simp)] at h ⊢
    by_cases h2 : b.length < p + n
    · rw [if_pos h2] at h; cases h
    · rw [if_neg h2]
      obtain ⟨k1, k2⟩ := hN rfl
      have hl : ((b.take (p + n)).drop p).length = n := by simp; omega
      simp only
      rw [hl]
      refine ⟨?_, by omega, hle.2.2⟩
      rw [k1, List.drop_take, show p + n - p = n by omega, ← List.drop_drop, List.take_append_drop]
  · rw [if_pos h1] at h; exact absurd h h1
end Go.Proofs.YtkmlinaofbcbaaaDoor
namespace Go.Proofs.YtkmlinaofbcbaaaDoor
open Go Go.Va
set_option linter.unusedVariables false
set_option linter.unusedSimpArgs false
set_option maxRecDepth 20000
noncomputable def item_Copy (x0 : api_Entry) : Option (api_Entry) :=
  (app 1 ([] : List (BitVec 8)) x0.Value).bind fun v6 =>
  lt (({ x0 with Value := v6 } : api_Entry)) fun c10 =>
  some (c10 : api_Entry)
end Go.Proofs.YtkmlinaofbcbaaaDoor
namespace Go.Proofs.YtkmlinaofbcbaaaDoor
open Go Go.Va
set_option linter.unusedVariables false
set_option linter.unusedSimpArgs false
set_option maxRecDepth 20000
noncomputable def butteryref06_Check (x0 : api_Entry) : Option (Int) :=
  (butteryref02_Key x0.Key).bind fun v2 =>
  lt (v2 != (0 : Int)) fun v4 =>
  if v4 = true then
    some v2
  else
    (
      lt (decide (x0.Version < (1 : Int))) fun v11 =>
      if v11 = true then
        some true
      else
        lt (decide (x0.Version > (1099511627776 : Int))) fun v14 =>
        if v14 = true then
          some true
        else
          lt (decide (x0.AsOf < x0.Version)) fun v17 =>
          if v17 = true then
            some true
          else
            lt (decide (x0.AsOf > (1099511627776 : Int))) fun v20 =>
            if v20 = true then
              some true
            else
              lt (decide (x0.Ends < (0 : Int))) fun v23 =>
              if v23 = true then
                some true
              else
                lt (decide (x0.Ends > (1099511627776 : Int))) fun v26 =>
                some v26
     : Option (Bool)).bind fun s6 =>
      if s6 = true then
        some (2 : Int)
      else
        lt (((x0.Value).length : Int)) fun v30 =>
        lt (decide (v30 > (4096 : Int))) fun v32 =>
        if v32 = true then
          some (3 : Int)
        else
          some (0 : Int)
end Go.Proofs.YtkmlinaofbcbaaaDoor
namespace Go.Proofs.YtkmlinaofbcbaaaDoor
open Go Go.Va
set_option linter.unusedVariables false
set_option linter.unusedSimpArgs false
set_option maxRecDepth 20000
noncomputable def butteryref06_From (x0 : butteryref02_Reader) : Option (butteryref02_Reader × api_Entry) :=
  (butteryref02_Text x0 (40 : Int)).bind fun v6 =>
  (butteryref02_Number (v6.1 : butteryref02_Reader) (1099511627776 : Int)).bind fun v11 =>
  (butteryref02_Number (v11.1 : butteryref02_Reader) (1099511627776 : Int)).bind fun v16 =>
  (butteryref02_Number (v16.1 : butteryref02_Reader) (1099511627776 : Int)).bind fun v21 =>
  (butteryref02_Text (v21.1 : butteryref02_Reader) (4096 : Int)).bind fun v26 =>
  lt ((⟨v6.2, v11.2, v16.2, v21.2, v26.2⟩ : api_Entry)) fun v31 =>
  lt (((v26.1 : butteryref02_Reader).Code) == (0 : Int)) fun v36 =>
  (
    if v36 = true then
      (butteryref06_Check (v31 : api_Entry)).bind fun v43 =>
      lt (({ (v26.1 : butteryref02_Reader) with Code := v43 } : butteryref02_Reader)) fun c45 =>
      some c45
    else
      some (v26.1 : butteryref02_Reader)
   : Option (butteryref02_Reader)).bind fun s37 =>
    lt (s37.Code != (0 : Int)) fun v49 =>
    if v49 = true then
      some ((s37 : butteryref02_Reader), ((⟨([] : List (BitVec 8)), (0 : Int), (0 : Int), (0 : Int), ([] : List (BitVec 8))⟩ : api_Entry) : api_Entry))
    else
      some ((s37 : butteryref02_Reader), ((v31 : api_Entry) : api_Entry))
end Go.Proofs.YtkmlinaofbcbaaaDoor
namespace Go.Proofs.YtkmlinaofbcbaaaDoor
open Go Go.Va
set_option linter.unusedVariables false
set_option linter.unusedSimpArgs false
set_option maxRecDepth 20000
noncomputable def butteryref06_Put (x0 : List (BitVec 8)) (x1 : api_Entry) : Option ((List (BitVec 8))) :=
  (toBytes x1.Key).bind fun v2 =>
  (butteryref02_Bytes x0 v2).bind fun v4 =>
  lt (([x1.Version, x1.AsOf, x1.Ends] : List Int)) fun v6 =>
  (butteryref02_Put v4 v6).bind fun v8 =>
  (butteryref02_Bytes v8 x1.Value).bind fun v10 =>
  some v10
end Go.Proofs.YtkmlinaofbcbaaaDoor
namespace Go.Proofs.YtkmlinaofbcbaaaDoor
open Go Go.Va
set_option linter.unusedVariables false
set_option linter.unusedSimpArgs false
set_option maxRecDepth 20000
noncomputable def butteryref06_Size (x0 : api_Entry) : Option (Int) :=
  (butteryref06_Put [] x0).bind fun v2 =>
  lt (((v2).length : Int)) fun v4 =>
  some v4
end Go.Proofs.YtkmlinaofbcbaaaDoor
namespace Go.Proofs.YtkmlinaofbcbaaaDoor
open Go Go.Va
set_option linter.unusedVariables false
set_option linter.unusedSimpArgs false
set_option maxRecDepth 20000
noncomputable def butteryref06_Read_b0 (x0 : List (BitVec 8)) (c6 : List api_Entry) (c7 : butteryref02_Reader) : Option (((List api_Entry) × butteryref02_Reader) ⊕ (((List api_Entry) × butteryref02_Reader) ⊕ ((List api_Entry) × Int))) :=
  lt (((x0).length : Int)) fun v19 =>
  lt (decide (c7.At < v19)) fun v21 =>
  if v21 = true then
    (butteryref06_From c7).bind fun v24 =>
    lt (((v24.1 : butteryref02_Reader).Code) != (0 : Int)) fun v32 =>
    if v32 = true then
      some (.inr (.inr ([], (v24.1 : butteryref02_Reader).Code)))
    else
      lt (((v24.1 : butteryref02_Reader) : butteryref02_Reader)) fun c36 =>
      lt (([(v24.2 : api_Entry)] : List api_Entry)) fun v39 =>
      (app 64 c6 v39).bind fun v41 =>
      some (.inl (v41, c36))
  else
    some (.inr (.inl (c6, c7)))
noncomputable def butteryref06_Read_l0 (x0 : List (BitVec 8)) (s : (List api_Entry) × butteryref02_Reader) : Option (((List api_Entry) × butteryref02_Reader) ⊕ ((List api_Entry) × Int)) := loopO (fun s => butteryref06_Read_b0 x0 s.1 s.2) s
noncomputable def butteryref06_Read (x0 : List (BitVec 8)) : Option ((List api_Entry) × Int) :=
  lt ((⟨x0, (0 : Int), (0 : Int)⟩ : butteryref02_Reader)) fun v2 =>
  (butteryref06_Read_l0 x0 ([], (v2 : butteryref02_Reader))).bind fun o9 =>
    Sum.elim (fun s16 : (List api_Entry) × butteryref02_Reader =>
      some (s16.1, (0 : Int))
      ) (fun y => some y) o9
end Go.Proofs.YtkmlinaofbcbaaaDoor
namespace Go.Proofs.YtkmlinaofbcbaaaDoor
open Go Go.Va
set_option linter.unusedVariables false
set_option linter.unusedSimpArgs false
set_option maxRecDepth 20000
noncomputable def butteryref06_All_b0 (x0 : List api_Entry) (c1 : List (BitVec 8)) (c2 : Int) : Option (((List (BitVec 8)) × Int) ⊕ ((List (BitVec 8)))) :=
  lt (((x0).length : Int)) fun v14 =>
  lt (decide (c2 < v14)) fun v16 =>
  if v16 = true then
    (ix x0 c2).bind fun v19 =>
    (butteryref06_Put c1 v19).bind fun v21 =>
    lt (w64 (c2 + (1 : Int))) fun v24 =>
    some (.inl (v21, v24))
  else
    some (.inr c1)
noncomputable def butteryref06_All_l0 (x0 : List api_Entry) (s : (List (BitVec 8)) × Int) : Option ((List (BitVec 8))) := loopO (fun s => butteryref06_All_b0 x0 s.1 s.2) s
noncomputable def butteryref06_All (x0 : List api_Entry) : Option ((List (BitVec 8))) :=
  (butteryref06_All_l0 x0 ([], (0 : Int))).bind fun s11 =>
    some s11
end Go.Proofs.YtkmlinaofbcbaaaDoor
namespace Go.Proofs.YtkmlinaofbcbaaaDoor
open Go Go.Va
set_option linter.unusedVariables false
set_option linter.unusedSimpArgs false
set_option maxRecDepth 20000
noncomputable def butterylaw06_Light_b0 (x0 : List api_Entry) (c6 : Int) (c7 : Int) : Option ((Int × Int) ⊕ (Unit ⊕ (Int))) :=
  lt (((x0).length : Int)) fun v18 =>
  lt (decide (c7 < v18)) fun v20 =>
  if v20 = true then
    (
      (ix x0 c7).bind fun v27 =>
      lt (((v27.Key).length : Int)) fun v29 =>
      lt (decide (v29 > (200 : Int))) fun v31 =>
      if v31 = true then
        some true
      else
        (ix x0 c7).bind fun v34 =>
        lt (((v34.Value).length : Int)) fun v36 =>
        lt (decide (v36 > (5000 : Int))) fun v38 =>
        some v38
     : Option (Bool)).bind fun s22 =>
      if s22 = true then
        some (.inr (.inr (1 : Int)))
      else
        (ix x0 c7).bind fun v43 =>
        lt (((v43.Value).length : Int)) fun v45 =>
        lt (w64 (c6 + v45)) fun v47 =>
        lt (decide (v47 > (12000 : Int))) fun v49 =>
        if v49 = true then
          some (.inr (.inr (1 : Int)))
        else
          lt (w64 (c7 + (1 : Int))) fun v53 =>
          some (.inl (v47, v53))
  else
    some (.inr (.inl ()))
noncomputable def butterylaw06_Light_l0 (x0 : List api_Entry) (s : Int × Int) : Option (Unit ⊕ (Int)) := loopO (fun s => butterylaw06_Light_b0 x0 s.1 s.2) s
noncomputable def butterylaw06_Light (x0 : List api_Entry) : Option (Int) :=
  lt (((x0).length : Int)) fun v2 =>
  lt (decide (v2 > (40 : Int))) fun v4 =>
  if v4 = true then
    some (1 : Int)
  else
    (butterylaw06_Light_l0 x0 ((0 : Int), (0 : Int))).bind fun o8 =>
      Sum.elim (fun s15 : Unit =>
        some (0 : Int)
        ) (fun y => some y) o8
end Go.Proofs.YtkmlinaofbcbaaaDoor
namespace Go.Proofs.YtkmlinaofbcbaaaDoor
open Go Go.Va
set_option linter.unusedVariables false
set_option linter.unusedSimpArgs false
/-- What is wrong with an entry. -/
def ckK (k : List (BitVec 8)) : Int := if k.length = 0 then 1 else if 40 < k.length then 3 else 0
def ckE (x : api_Entry) : Int :=
  if ckK x.Key ≠ 0 then ckK x.Key else
  if (x.Version < 1 ∨ x.Version > 1099511627776) ∨ (x.AsOf < x.Version ∨ x.AsOf > 1099511627776) ∨ (x.Ends < 0 ∨ x.Ends > 1099511627776) then 2 else
  if 4096 < x.Value.length then 3 else 0
theorem octKey_eq (k : List (BitVec 8)) : octets_Key k = some (ckK k) := by
  unfold octets_Key ckK
  simp only [lt_eq]
  by_cases h0 : k.length = 0
  · rw [if_pos h0, if_pos (by simp [h0])]
  · rw [if_neg h0, if_neg (by simp; intro h; subst h; simp at h0)]
    by_cases h1 : 40 < k.length
    · rw [if_pos h1, if_pos (decide_eq_true (by omega))]
    · rw [if_neg h1, if_neg (by rw [decide_eq_false (by omega)]; simp)]
theorem refKey_eq (k : List (BitVec 8)) : butteryref02_Key k = some (ckK k) := by rw [← key_eq, octKey_eq]
theorem new_eq (op : List (BitVec 8)) (n c : Int) (hc : c ≠ 0) : trouble_New op n c = some (.fault op n c .nil) := by
  simp [trouble_New, lt_eq, hc]
theorem wrap_eq (op : List (BitVec 8)) (n : Int) (e : Err) (he : e.isNil = false) : trouble_Wrap op n e = some (.fault op n 0 e) := by
  simp [trouble_Wrap, lt_eq, he]
theorem num_ck (op : List (BitVec 8)) (n low : Int) (e : Err) : ∃ e', item_Check_1_c op n low e = some e' ∧ (e.isNil = false → e' = e) ∧ (e = .nil → (n < low ∨ n > 1099511627776) → ∃ o a, e' = .fault o a 2 .nil) ∧ (e = .nil → ¬ (n < low ∨ n > 1099511627776) → e' = .nil) := by
  unfold item_Check_1_c
  simp only [lt_eq]
  cases e with
  | fault o a c u => exact ⟨_, rfl, fun _ => rfl, (fun h => by cases h), (fun h => by cases h)⟩
  | nil =>
    simp only [Err.isNil, if_true]
    by_cases h1 : n < low
    · rw [if_pos (decide_eq_true h1)]
      exact ⟨_, rfl, (fun h => by cases h), fun _ _ => ⟨_, _, rfl⟩, fun _ h => absurd (.inl h1) h⟩
    · rw [if_neg (by rw [decide_eq_false h1]; simp)]
      by_cases h2 : n > 1099511627776
      · rw [decide_eq_true h2]
        exact ⟨_, rfl, (fun h => by cases h), fun _ _ => ⟨_, _, rfl⟩, fun _ h => absurd (.inr h2) h⟩
      · rw [decide_eq_false h2]
        exact ⟨_, rfl, (fun h => by cases h), fun _ h => absurd h (by omega), fun _ _ => rfl⟩
theorem check_eq (x : api_Entry) : ∃ e, item_Check x = some e ∧ codeOf e = ckE x ∧ e.isNil = decide (ckE x = 0) := by
  unfold item_Check ckE
  rw [octKey_eq]
  simp only [Option.bind_some, lt_eq]
  by_cases hk : ckK x.Key = 0
  · rw [if_neg (show ¬ ((ckK x.Key != 0) = true) by simpa using hk), if_neg (show ¬ (ckK x.Key ≠ 0) by simpa using hk)]
    obtain ⟨e1, a1, a2, a3, a4⟩ := num_ck [118#8, 101#8, 114#8, 115#8, 105#8, 111#8, 110#8] x.Version 1 .nil
    obtain ⟨e2, b1, b2, b3, b4⟩ := num_ck [97#8, 115#8, 111#8, 102#8] x.AsOf x.Version e1
    obtain ⟨e3, c1, c2, c3, c4⟩ := num_ck [101#8, 110#8, 100#8, 115#8] x.Ends 0 e2
    simp only [a1, b1, c1, Option.bind_some]
    by_cases h : (x.Version < 1 ∨ x.Version > 1099511627776) ∨ (x.AsOf < x.Version ∨ x.AsOf > 1099511627776) ∨ (x.Ends < 0 ∨ x.Ends > 1099511627776)
    · rw [if_pos h]
      have key : ∃ o a, e3 = .fault o a 2 .nil := by
        by_cases h1 : x.Version < 1 ∨ x.Version > 1099511627776
        · obtain ⟨o, a, rfl⟩ := a3 rfl h1
          have := b2 rfl; subst this
          have := c2 rfl; subst this
          exact ⟨o, a, rfl⟩
        · have := a4 rfl h1; subst this
          by_cases h2 : x.AsOf < x.Version ∨ x.AsOf > 1099511627776
          · obtain ⟨o, a, rfl⟩ := b3 rfl h2
            have := c2 rfl; subst this
            exact ⟨o, a, rfl⟩
          · have := b4 rfl h2; subst this
            have h3 : x.Ends < 0 ∨ x.Ends > 1099511627776 := by
              rcases h with h | h | h
              · exact absurd h h1
              · exact absurd h h2
              · exact h
            exact c3 rfl h3
      obtain ⟨o, a, rfl⟩ := key
      exact ⟨_, rfl, rfl, rfl⟩
    · rw [if_neg h]
      simp only [not_or] at h
      have := a4 rfl (by omega); subst this
      have := b4 rfl (by omega); subst this
      have := c4 rfl (by omega); subst this
      simp only [Err.isNil, if_true, Option.bind_some]
      by_cases hv : 4096 < x.Value.length
      · rw [if_pos (decide_eq_true (by omega)), if_pos hv, new_eq _ _ _ (by decide)]
        exact ⟨_, rfl, rfl, rfl⟩
      · rw [if_neg (by rw [decide_eq_false (by omega)]; simp), if_neg hv]
        exact ⟨_, rfl, rfl, rfl⟩
  · rw [if_pos (by simpa using hk), if_pos hk, new_eq _ _ _ hk]
    exact ⟨_, rfl, by simp [codeOf, hk], by simp [Err.isNil, hk]⟩
theorem refCheck_eq (x : api_Entry) : butteryref06_Check x = some (ckE x) := by
  unfold butteryref06_Check ckE
  rw [refKey_eq]
  simp only [Option.bind_some, lt_eq]
  by_cases hk : ckK x.Key = 0
  · rw [if_neg (show ¬ ((ckK x.Key != 0) = true) by simpa using hk), if_neg (show ¬ (ckK x.Key ≠ 0) by simpa using hk)]
    have hb : (if decide (x.Version < 1) = true then some true else if decide (x.Version > 1099511627776) = true then some true else if decide (x.AsOf < x.Version) = true then some true else if decide (x.AsOf > 1099511627776) = true then some true else if decide (x.Ends < 0) = true then some true else some (decide (x.Ends > 1099511627776))) = some (decide ((x.Version < 1 ∨ x.Version > 1099511627776) ∨ (x.AsOf < x.Version ∨ x.AsOf > 1099511627776) ∨ (x.Ends < 0 ∨ x.Ends > 1099511627776))) := by
      by_cases h1 : x.Version < 1
      · simp [h1]
      by_cases h2 : x.Version > 1099511627776
      · simp [h1, h2]
      by_cases h3 : x.AsOf < x.Version
      · simp [h1, h2, h3]
      by_cases h4 : x.AsOf > 1099511627776
      · simp [h1, h2, h3, h4]
      by_cases h5 : x.Ends < 0
      · simp [h1, h2, h3, h4, h5]
      · simp [h1, h2, h3, h4, h5]
    rw [hb]
    simp only [Option.bind_some, decide_eq_true_eq]
    split
    · rfl
    · by_cases hv : 4096 < x.Value.length
      · rw [if_pos (by omega), if_pos hv]
      · rw [if_neg (by omega), if_neg hv]
  · rw [if_pos (show (ckK x.Key != 0) = true by simpa using hk), if_pos (show ckK x.Key ≠ 0 from hk)]
/-- An entry that may be. -/
theorem ck_ok {x : api_Entry} (h : ckE x = 0) : 1 ≤ x.Key.length ∧ x.Key.length ≤ 40 ∧ 1 ≤ x.Version ∧ x.Version ≤ 1099511627776 ∧ x.Version ≤ x.AsOf ∧ x.AsOf ≤ 1099511627776 ∧ 0 ≤ x.Ends ∧ x.Ends ≤ 1099511627776 ∧ x.Value.length ≤ 4096 := by
  unfold ckE ckK at h
  by_cases h1 : x.Key.length = 0
  · simp [h1] at h
  by_cases h2 : 40 < x.Key.length
  · simp [h1, h2] at h
  simp only [if_neg h1, if_neg h2] at h
  rw [if_neg (by simp)] at h
  by_cases h3 : (x.Version < 1 ∨ x.Version > 1099511627776) ∨ (x.AsOf < x.Version ∨ x.AsOf > 1099511627776) ∨ (x.Ends < 0 ∨ x.Ends > 1099511627776)
  · rw [if_pos h3] at h; cases h
  rw [if_neg h3] at h
  by_cases h4 : 4096 < x.Value.length
  · rw [if_pos h4] at h; cases h
  omega
/-- The bytes of an entry. -/
def encE (x : api_Entry) : List (BitVec 8) := num7 x.Key.length ++ (x.Key ++ (num7 x.Version.toNat ++ (num7 x.AsOf.toNat ++ (num7 x.Ends.toNat ++ (num7 x.Value.length ++ x.Value)))))
theorem okN_ck {x : api_Entry} (h : ckE x = 0) : okN [x.Version, x.AsOf, x.Ends] := by
  obtain ⟨h1, h2, h3, h4, h5, h6, h7, h8, h9⟩ := ck_ok h
  refine ⟨by simp, fun n hn => ?_⟩
  simp only [List.mem_cons, List.not_mem_nil, or_false] at hn
  rcases hn with rfl | rfl | rfl <;> omega
theorem num7_le {n : Nat} (h : n < 9223372036854775808) : (num7 n).length ≤ 9 := num7_len h
theorem encE_len {x : api_Entry} (h : ckE x = 0) : (encE x).length ≤ 4181 ∧ 1 ≤ (encE x).length := by
  obtain ⟨h1, h2, h3, h4, h5, h6, h7, h8, h9⟩ := ck_ok h
  have a1 := num7_len (n := x.Key.length) (by omega)
  have a2 := num7_len (n := x.Version.toNat) (by omega)
  have a3 := num7_len (n := x.AsOf.toNat) (by omega)
  have a4 := num7_len (n := x.Ends.toNat) (by omega)
  have a5 := num7_len (n := x.Value.length) (by omega)
  simp only [encE, List.length_append]
  omega
theorem put_eq {b : List (BitVec 8)} {x : api_Entry} (hb : b.length ≤ 900000) (h : ckE x = 0) : item_Put b x = some (b ++ encE x) := by
  obtain ⟨h1, h2, h3, h4, h5, h6, h7, h8, h9⟩ := ck_ok h
  have a1 := num7_len (n := x.Key.length) (by omega)
  have a2 := num7_len (n := x.Version.toNat) (by omega)
  have a3 := num7_len (n := x.AsOf.toNat) (by omega)
  have a4 := num7_len (n := x.Ends.toNat) (by omega)
  unfold item_Put
  rw [show toBytes x.Key = some x.Key by unfold toBytes; rw [if_pos (by omega)]]
  simp only [Option.bind_some, lt_eq]
  rw [octBytes_eq _ _ (by omega) (by omega)]
  simp only [Option.bind_some]
  rw [octPut_eq _ (by simp only [List.length_append]; omega) (okN_ck h)]
  simp only [Option.bind_some]
  rw [octBytes_eq _ _ (by simp only [List.length_append, nums, List.flatMap_cons, List.flatMap_nil, List.length_nil]; omega) (by omega)]
  simp [encE, nums]
theorem refPutE_eq {b : List (BitVec 8)} {x : api_Entry} (hb : b.length ≤ 900000) (h : ckE x = 0) : butteryref06_Put b x = some (b ++ encE x) := by
  obtain ⟨h1, h2, h3, h4, h5, h6, h7, h8, h9⟩ := ck_ok h
  have a1 := num7_len (n := x.Key.length) (by omega)
  have a2 := num7_len (n := x.Version.toNat) (by omega)
  have a3 := num7_len (n := x.AsOf.toNat) (by omega)
  have a4 := num7_len (n := x.Ends.toNat) (by omega)
  unfold butteryref06_Put
  rw [show toBytes x.Key = some x.Key by unfold toBytes; rw [if_pos (by omega)]]
  simp only [Option.bind_some, lt_eq]
  rw [refBytes_eq _ _ (by omega) (by omega)]
  simp only [Option.bind_some]
  rw [refPut_eq _ (by simp only [List.length_append]; omega) (okN_ck h)]
  simp only [Option.bind_some]
  rw [refBytes_eq _ _ (by simp only [List.length_append, nums, List.flatMap_cons, List.flatMap_nil, List.length_nil]; omega) (by omega)]
  simp [encE, nums]
theorem nlen_num7 : ∀ (k n : Nat), n < 128 ^ k → (num7 n).length = nlen n
  | 0, n, h => by
    have : n = 0 := by simpa using h
    subst this
    rw [num7_small (by omega), nlen_lt (by omega)]; rfl
  | k + 1, n, h => by
    by_cases h1 : n < 128
    · rw [num7_small h1, nlen_lt h1]; rfl
    · rw [nlen_ge (by omega), ← nlen_num7 k (n / 128) (by rw [Nat.div_lt_iff_lt_mul (by decide)]; rw [Nat.pow_succ] at h; exact h)]
      simp only [num7, List.length_append, List.length_cons, List.length_nil]
      rw [pre_pos (m := n / 128) (by omega)]
      simp
theorem nlen_eq {n : Nat} (h : n < 9223372036854775808) : (num7 n).length = nlen n := nlen_num7 9 n (by omega)
theorem size_eq6 {x : api_Entry} (h : ckE x = 0) : item_Size x = some ((encE x).length : Int) := by
  obtain ⟨h1, h2, h3, h4, h5, h6, h7, h8, h9⟩ := ck_ok h
  have a1 := num7_len (n := x.Key.length) (by omega)
  have a2 := num7_len (n := x.Version.toNat) (by omega)
  have a3 := num7_len (n := x.AsOf.toNat) (by omega)
  have a4 := num7_len (n := x.Ends.toNat) (by omega)
  have a5 := num7_len (n := x.Value.length) (by omega)
  have e2 : x.Version = (x.Version.toNat : Int) := by omega
  have e3 : x.AsOf = (x.AsOf.toNat : Int) := by omega
  have e4 : x.Ends = (x.Ends.toNat : Int) := by omega
  have hl : (encE x).length = (num7 x.Key.length).length + (x.Key.length + ((num7 x.Version.toNat).length + ((num7 x.AsOf.toNat).length + ((num7 x.Ends.toNat).length + ((num7 x.Value.length).length + x.Value.length))))) := by simp [encE]
  rw [hl]
  rw [nlen_eq (by omega), nlen_eq (by omega), nlen_eq (by omega), nlen_eq (by omega), nlen_eq (by omega)] at *
  unfold item_Size
  rw [e2, e3, e4]
  simp only [lt_eq, octLen_eq (n := x.Key.length) (by omega), octLen_eq (n := x.Value.length) (by omega), octLen_eq (n := x.Version.toNat) (by omega), octLen_eq (n := x.AsOf.toNat) (by omega), octLen_eq (n := x.Ends.toNat) (by omega), Option.bind_some, Int.toNat_natCast]
  generalize nlen x.Key.length = n1 at *
  generalize nlen x.Value.length = n2 at *
  generalize nlen x.Version.toNat = n3 at *
  generalize nlen x.AsOf.toNat = n4 at *
  generalize nlen x.Ends.toNat = n5 at *
  rw [w64_eq (n := (n1 : Int) + (x.Key.length : Int)) (by omega) (by omega), w64_eq (n := (n1 : Int) + (x.Key.length : Int) + (n2 : Int)) (by omega) (by omega), w64_eq (n := (n1 : Int) + (x.Key.length : Int) + (n2 : Int) + (x.Value.length : Int)) (by omega) (by omega)]
  rw [w64_eq (n := (n1 : Int) + (x.Key.length : Int) + (n2 : Int) + (x.Value.length : Int) + (n3 : Int)) (by omega) (by omega), w64_eq (n := (n1 : Int) + (x.Key.length : Int) + (n2 : Int) + (x.Value.length : Int) + (n3 : Int) + (n4 : Int)) (by omega) (by omega), w64_eq (n := (n1 : Int) + (x.Key.length : Int) + (n2 : Int) + (x.Value.length : Int) + (n3 : Int) + (n4 : Int) + (n5 : Int)) (by omega) (by omega)]
  congr 1
  omega
theorem refSize_eq6 {x : api_Entry} (h : ckE x = 0) : butteryref06_Size x = some ((encE x).length : Int) := by
  unfold butteryref06_Size
  rw [refPutE_eq (b := []) (by simp) h]
  simp [lt_eq]
def zeroE : api_Entry := ⟨[], 0, 0, 0, []⟩
/-- What is read as an entry. -/
def frE (b : List (BitVec 8)) (r : rdr) : api_Entry × rdr :=
  let k := rB b r 40
  let v := rN b k.2 1099511627776
  let a := rN b v.2 1099511627776
  let n := rN b a.2 1099511627776
  let w := rB b n.2 4096
  let x : api_Entry := ⟨k.1, v.1, a.1, n.1, w.1⟩
  if w.2.e = 0 then (if ckE x = 0 then (x, w.2) else (zeroE, ⟨w.2.a, ckE x⟩)) else (zeroE, w.2)
theorem from_eq {b : List (BitVec 8)} (hb : b.length ≤ 1000000) {r : rdr} (hr : r.a ≤ b.length) : item_From (r.o b) = some ((frE b r).1, (frE b r).2.o b) := by
  unfold item_From frE
  have h1 := rB_le hr 40
  rw [show (40 : Int) = ((40 : Nat) : Int) from rfl, octB_r hb hr (by omega)]
  simp only [Option.bind_some]
  have h2 := rN_le h1.1 1099511627776
  rw [show (1099511627776 : Int) = ((1099511627776 : Nat) : Int) from rfl, octN_r hb h1.1 (by omega)]
  simp only [Option.bind_some]
  have h3 := rN_le h2.1 1099511627776
  rw [octN_r hb h2.1 (by omega)]
  simp only [Option.bind_some]
  have h4 := rN_le h3.1 1099511627776
  rw [octN_r hb h3.1 (by omega)]
  simp only [Option.bind_some]
  rw [show (4096 : Int) = ((4096 : Nat) : Int) from rfl, octB_r hb h4.1 (by omega)]
  simp only [Option.bind_some, lt_eq]
  generalize rN b (rN b (rN b (rB b r 40).2 1099511627776).2 1099511627776).2 1099511627776 = n at *
  generalize rN b (rN b (rB b r 40).2 1099511627776).2 1099511627776 = a at *
  generalize rN b (rB b r 40).2 1099511627776 = v at *
  generalize rB b r 40 = k at *
  generalize rB b n.2 4096 = w
  obtain ⟨wv, wa, we⟩ := w
  simp only [octets_Reader_Code, rdr.o, Option.bind_some]
  by_cases he : we = 0
  · subst he
    obtain ⟨e, c1, c2, c3⟩ := check_eq ⟨k.1, v.1, a.1, n.1, wv⟩
    rw [if_pos (by rfl), c1, if_pos rfl]
    simp only [Option.bind_some, c3]
    by_cases hc : ckE ⟨k.1, v.1, a.1, n.1, wv⟩ = 0
    · rw [if_pos hc]
      simp [hc]
    · rw [if_neg hc]
      simp only [hc, decide_false, Bool.not_false, if_true, trouble_Of, c2, Option.bind_some, fail_eq]
      rw [if_pos (by simpa using hc)]
      rfl
  · rw [if_neg (by simpa using he), if_neg he]
    simp only [Option.bind_some]
    rw [if_pos (by simpa using he)]
    rfl
theorem refFrom_eq {b : List (BitVec 8)} (hb : b.length ≤ 1000000) {r : rdr} (hr : r.a ≤ b.length) : butteryref06_From (r.x b) = some ((frE b r).2.x b, (frE b r).1) := by
  unfold butteryref06_From frE
  have h1 := rB_le hr 40
  rw [show (40 : Int) = ((40 : Nat) : Int) from rfl, refB_r hb hr (by omega)]
  simp only [Option.bind_some]
  have h2 := rN_le h1.1 1099511627776
  rw [show (1099511627776 : Int) = ((1099511627776 : Nat) : Int) from rfl, refN_r hb h1.1 (by omega)]
  simp only [Option.bind_some]
  have h3 := rN_le h2.1 1099511627776
  rw [refN_r hb h2.1 (by omega)]
  simp only [Option.bind_some]
  have h4 := rN_le h3.1 1099511627776
  rw [refN_r hb h3.1 (by omega)]
  simp only [Option.bind_some]
  rw [show (4096 : Int) = ((4096 : Nat) : Int) from rfl, refB_r hb h4.1 (by omega)]
  simp only [Option.bind_some, lt_eq]
  generalize rN b (rN b (rN b (rB b r 40).2 1099511627776).2 1099511627776).2 1099511627776 = n at *
  generalize rN b (rN b (rB b r 40).2 1099511627776).2 1099511627776 = a at *
  generalize rN b (rB b r 40).2 1099511627776 = v at *
  generalize rB b r 40 = k at *
  generalize rB b n.2 4096 = w
  obtain ⟨wv, wa, we⟩ := w
  simp only [rdr.x]
  by_cases he : we = 0
  · subst he
    rw [refCheck_eq]
    simp only [Option.bind_some, beq_self_eq_true, if_true]
    by_cases hc : ckE ⟨k.1, v.1, a.1, n.1, wv⟩ = 0
    · rw [if_pos hc]
      simp [hc]
    · rw [if_neg hc]
      rw [if_pos (by simpa using hc)]
      rfl
  · have hf : (we == 0) = false := by simpa using he
    simp only [hf, if_neg he, Option.bind_some, Bool.false_eq_true, if_false]
    simp [he]
    rfl
theorem frE_le {b : List (BitVec 8)} {r : rdr} (hr : r.a ≤ b.length) : (frE b r).2.a ≤ b.length := by
  unfold frE
  have h1 := rB_le hr 40
  have h2 := rN_le h1.1 1099511627776
  have h3 := rN_le h2.1 1099511627776
  have h4 := rN_le h3.1 1099511627776
  have h5 := rB_le h4.1 4096
  simp only
  split
  · split
    · exact h5.1
    · exact h5.1
  · exact h5.1
/-- An entry that is there is read. -/
theorem frE_is {b l : List (BitVec 8)} {r : rdr} {x : api_Entry} (he : r.e = 0) (hr : r.a ≤ b.length) (h : b.drop r.a = encE x ++ l) (hc : ckE x = 0) : frE b r = (x, ⟨r.a + (encE x).length, 0⟩) := by
  obtain ⟨h1, h2, h3, h4, h5, h6, h7, h8, h9⟩ := ck_ok hc
  simp only [encE, List.append_assoc] at h
  have k1 := rB_is he hr h (m := 40) (by omega) (by omega)
  have d1 : b.drop (r.a + (num7 x.Key.length).length + x.Key.length) = _ := drop_app (drop_app h)
  have l1 : r.a + (num7 x.Key.length).length + x.Key.length ≤ b.length := by have := (rB_le hr 40).1; rw [k1] at this; exact this
  have k2 := rN_is (r := ⟨r.a + (num7 x.Key.length).length + x.Key.length, 0⟩) rfl d1 (m := 1099511627776) (by omega) (by omega)
  have d2 := drop_app d1
  have l2 := (rN_le (b := b) (r := ⟨r.a + (num7 x.Key.length).length + x.Key.length, 0⟩) l1 1099511627776).1
  rw [k2] at l2
  have k3 := rN_is (r := ⟨r.a + (num7 x.Key.length).length + x.Key.length + (num7 x.Version.toNat).length, 0⟩) rfl d2 (m := 1099511627776) (by omega) (by omega)
  have d3 := drop_app d2
  have l3 := (rN_le (b := b) (r := ⟨r.a + (num7 x.Key.length).length + x.Key.length + (num7 x.Version.toNat).length, 0⟩) l2 1099511627776).1
  rw [k3] at l3
  have k4 := rN_is (r := ⟨r.a + (num7 x.Key.length).length + x.Key.length + (num7 x.Version.toNat).length + (num7 x.AsOf.toNat).length, 0⟩) rfl d3 (m := 1099511627776) (by omega) (by omega)
  have d4 := drop_app d3
  have l4 := (rN_le (b := b) (r := ⟨r.a + (num7 x.Key.length).length + x.Key.length + (num7 x.Version.toNat).length + (num7 x.AsOf.toNat).length, 0⟩) l3 1099511627776).1
  rw [k4] at l4
  have k5 := rB_is (r := ⟨r.a + (num7 x.Key.length).length + x.Key.length + (num7 x.Version.toNat).length + (num7 x.AsOf.toNat).length + (num7 x.Ends.toNat).length, 0⟩) rfl l4 d4 (m := 4096) (by omega) (by omega)
  have e2 : (x.Version.toNat : Int) = x.Version := by omega
  have e3 : (x.AsOf.toNat : Int) = x.AsOf := by omega
  have e4 : (x.Ends.toNat : Int) = x.Ends := by omega
  unfold frE
  simp only [k1, k2, k3, k4, k5, if_true, e2, e3, e4]
  rw [if_pos hc]
  refine Prod.ext rfl ?_
  simp only [encE, List.length_append, rdr.mk.injEq, and_true]
  omega
/-- What was read as an entry is its bytes. -/
theorem frE_one {b : List (BitVec 8)} {r : rdr} (hr : r.a ≤ b.length) (h : (frE b r).2.e = 0) : ckE (frE b r).1 = 0 ∧ b.drop r.a = encE (frE b r).1 ++ b.drop (frE b r).2.a ∧ r.a < (frE b r).2.a := by
  unfold frE at h ⊢
  have h1 := rB_le hr 40
  have h2 := rN_le h1.1 1099511627776
  have h3 := rN_le h2.1 1099511627776
  have h4 := rN_le h3.1 1099511627776
  have h5 := rB_le h4.1 4096
  have o5 := rB_one (b := b) h4.1 (m := 4096) (by omega)
  have f5 := rB_off (b := b) (r := (rN b (rN b (rN b (rB b r 40).2 1099511627776).2 1099511627776).2 1099511627776).2) (m := 4096)
  have o4 := rN_one (b := b) (r := (rN b (rN b (rB b r 40).2 1099511627776).2 1099511627776).2) (m := 1099511627776) (by omega)
  have f4 := rN_off (b := b) (r := (rN b (rN b (rB b r 40).2 1099511627776).2 1099511627776).2) (m := 1099511627776)
  have o3 := rN_one (b := b) (r := (rN b (rB b r 40).2 1099511627776).2) (m := 1099511627776) (by omega)
  have f3 := rN_off (b := b) (r := (rN b (rB b r 40).2 1099511627776).2) (m := 1099511627776)
  have o2 := rN_one (b := b) (r := (rB b r 40).2) (m := 1099511627776) (by omega)
  have f2 := rN_off (b := b) (r := (rB b r 40).2) (m := 1099511627776)
  have o1 := rB_one (b := b) hr (m := 40) (by omega)
  simp only at h ⊢
  generalize rB b (rN b (rN b (rN b (rB b r 40).2 1099511627776).2 1099511627776).2 1099511627776).2 4096 = w at *
  generalize rN b (rN b (rN b (rB b r 40).2 1099511627776).2 1099511627776).2 1099511627776 = n at *
  generalize rN b (rN b (rB b r 40).2 1099511627776).2 1099511627776 = a at *
  generalize rN b (rB b r 40).2 1099511627776 = v at *
  generalize rB b r 40 = k at *
  by_cases he : w.2.e = 0
  · rw [if_pos he] at h ⊢
    by_cases hc : ckE ⟨k.1, v.1, a.1, n.1, w.1⟩ = 0
    · rw [if_pos hc]
      have g4 := f5 he
      have g3 := f4 g4
      have g2 := f3 g3
      have g1 := f2 g2
      refine ⟨hc, ?_, ?_⟩
      · simp only [encE, Int.toNat_natCast, List.append_assoc]
        rw [(o1 g1).1, (o2 g2).1, (o3 g3).1, (o4 g4).1, (o5 he).1]
      · have := (o1 g1).2.1
        simp only
        omega
    · rw [if_neg hc] at h
      exact absurd h hc
  · rw [if_neg he] at h
    exact absurd h he
end Go.Proofs.YtkmlinaofbcbaaaDoor
namespace Go.Proofs.YtkmlinaofbcbaaaDoor
open Go Go.Va
set_option linter.unusedVariables false
set_option linter.unusedSimpArgs false
/-- What bytes are as entries, from a place on; or what is wrong first. -/
def rdE (b : List (BitVec 8)) : Nat → Nat → List api_Entry ⊕ Int
  | 0, _ => .inl []
  | k + 1, a => if a < b.length then (if (frE b ⟨a, 0⟩).2.e = 0 then (match rdE b k (frE b ⟨a, 0⟩).2.a with
      | .inl l => .inl ((frE b ⟨a, 0⟩).1 :: l)
      | .inr c => .inr c) else .inr (frE b ⟨a, 0⟩).2.e) else .inl []
theorem rdE_ne {b : List (BitVec 8)} : ∀ {k a : Nat} {c : Int}, rdE b k a = .inr c → c ≠ 0
  | 0, a, c, h => by simp [rdE] at h
  | k + 1, a, c, h => by
    simp only [rdE] at h
    split at h
    · split at h
      · split at h
        · cases h
        · rename_i hc; cases h; exact rdE_ne hc
      · rename_i he; cases h; exact he
    · cases h
theorem rdE_len {b : List (BitVec 8)} : ∀ {k a : Nat} {l : List api_Entry}, rdE b k a = .inl l → l.length ≤ k
  | 0, a, l, h => by simp [rdE] at h; subst h; simp
  | k + 1, a, l, h => by
    simp only [rdE] at h
    split at h
    · split at h
      · split at h
        · rename_i l' hl; cases h; have := rdE_len hl; simp; omega
        · cases h
      · cases h
    · cases h; simp
theorem frE_val {b : List (BitVec 8)} {r : rdr} (hr : r.a ≤ b.length) : (frE b r).1.Value.length ≤ b.length := by
  unfold frE
  have h1 := rB_le hr 40
  have h2 := rN_le h1.1 1099511627776
  have h3 := rN_le h2.1 1099511627776
  have h4 := rN_le h3.1 1099511627776
  have h5 := rB_le h4.1 4096
  simp only
  split
  · split
    · exact h5.2.2
    · simp [zeroE]
  · simp [zeroE]
theorem rdE_val {b : List (BitVec 8)} : ∀ {k a : Nat} {l : List api_Entry}, a ≤ b.length → rdE b k a = .inl l → ∀ x ∈ l, x.Value.length ≤ b.length
  | 0, a, l, ha, h, x, hx => by simp [rdE] at h; subst h; simp at hx
  | k + 1, a, l, ha, h, x, hx => by
    simp only [rdE] at h
    split at h
    · split at h
      · split at h
        · rename_i l' hl
          cases h
          rcases List.mem_cons.1 hx with rfl | hx
          · exact frE_val (r := ⟨a, 0⟩) ha
          · exact rdE_val (frE_le (r := ⟨a, 0⟩) ha) hl x hx
        · cases h
      · cases h
    · cases h; simp at hx
theorem o_code (r : rdr) (b : List (BitVec 8)) : (r.o b).code = r.e := rfl
theorem o_at (r : rdr) (b : List (BitVec 8)) : (r.o b).at_ = r.a := rfl
theorem x_code (r : rdr) (b : List (BitVec 8)) : (r.x b).Code = r.e := rfl
theorem x_at (r : rdr) (b : List (BitVec 8)) : (r.x b).At = r.a := rfl
theorem read_l {b : List (BitVec 8)} (hb : b.length ≤ 900000) : ∀ (k a : Nat) (acc : List api_Entry), b.length < k + a → a ≤ b.length → acc.length + k ≤ 1000000 →
    ∃ y, item_Read_l0 (acc, (⟨a, 0⟩ : rdr).o b) = some y ∧ (∀ l, rdE b k a = .inl l → ∃ r, y = .inl (acc ++ l, r)) ∧ (∀ c, rdE b k a = .inr c → ∃ e, y = .inr ([], e) ∧ codeOf e = c ∧ e.isNil = false)
  | 0, a, acc, h1, h2, h3 => absurd h1 (by omega)
  | k + 1, a, acc, h1, h2, h3 => by
    have hL : octets_Reader_Left (rdr.o ⟨a, 0⟩ b) = some ((b.length - a : Nat) : Int) := left_eq (by omega) h2
    have hf := from_eq (b := b) (r := ⟨a, 0⟩) (by omega) h2
    have hle := frE_le (b := b) (r := ⟨a, 0⟩) h2
    by_cases ha : a < b.length
    · by_cases he : (frE b ⟨a, 0⟩).2.e = 0
      · obtain ⟨c1, c2, c3⟩ := frE_one (b := b) (r := ⟨a, 0⟩) h2 he
        simp only at c3
        obtain ⟨y, i1, i2, i3⟩ := read_l hb k (frE b ⟨a, 0⟩).2.a (acc ++ [(frE b ⟨a, 0⟩).1]) (by omega) hle (by simp; omega)
        have e1 : item_Read_l0 (acc, (⟨a, 0⟩ : rdr).o b) = item_Read_l0 (acc ++ [(frE b ⟨a, 0⟩).1], (⟨(frE b ⟨a, 0⟩).2.a, 0⟩ : rdr).o b) := by
          refine loopO_in (body := fun s => item_Read_b0 s.1 s.2) ?_
          have hd : decide (((b.length - a : Nat) : Int) > 0) = true := decide_eq_true (by omega)
          simp only [item_Read_b0, hL, hf, octets_Reader_Code, octets_Reader_At, Option.bind_some, lt_eq, o_code, o_at, beq_self_eq_true, if_true, hd, he, bne_self_eq_false, Bool.false_eq_true, if_false]
          rw [app_eq (by simp; omega)]
          simp only [Option.bind_some, rdr.o, he]
        refine ⟨y, by rw [e1]; exact i1, fun l hl => ?_, fun c hc => ?_⟩
        · simp only [rdE, if_pos ha, if_pos he] at hl
          split at hl
          · rename_i l' hl'
            cases hl
            obtain ⟨r, hr⟩ := i2 _ hl'
            exact ⟨r, by rw [hr]; simp⟩
          · cases hl
        · simp only [rdE, if_pos ha, if_pos he] at hc
          split at hc
          · cases hc
          · rename_i c' hc'
            cases hc
            exact i3 _ hc'
      · refine ⟨.inr ([], .fault [101#8, 110#8, 116#8, 114#8, 105#8, 101#8, 115#8] acc.length 0 (.fault [101#8, 110#8, 116#8, 114#8, 121#8] a (frE b ⟨a, 0⟩).2.e .nil)), ?_, fun l hl => ?_, fun c hc => ?_⟩
        · refine loopO_out ?_
          have hd : decide (((b.length - a : Nat) : Int) > 0) = true := decide_eq_true (by omega)
          simp only [item_Read_b0, hL, hf, octets_Reader_Code, octets_Reader_At, Option.bind_some, lt_eq, o_code, o_at, beq_self_eq_true, if_true, hd]
          show (if ((frE b ⟨a, 0⟩).2.e != 0) = true then _ else _) = _
          rw [if_pos (by simpa using he), new_eq _ _ _ he]
          simp only [Option.bind_some]
          rw [wrap_eq _ _ _ rfl]
          rfl
        · simp only [rdE, if_pos ha, if_neg he] at hl
          cases hl
        · simp only [rdE, if_pos ha, if_neg he] at hc
          cases hc
          exact ⟨_, rfl, by simp [codeOf, he], rfl⟩
    · refine ⟨.inl (acc, (⟨a, 0⟩ : rdr).o b), ?_, fun l hl => ?_, fun c hc => ?_⟩
      · refine loopO_out ?_
        have hd : decide (((b.length - a : Nat) : Int) > 0) = false := decide_eq_false (by omega)
        simp only [item_Read_b0, hL, octets_Reader_Code, Option.bind_some, lt_eq, o_code, beq_self_eq_true, if_true, hd, Bool.false_eq_true, if_false]
      · simp only [rdE, if_neg ha] at hl
        cases hl
        exact ⟨_, by simp; rfl⟩
      · simp only [rdE, if_neg ha] at hc
        cases hc
theorem read_eq6 {b : List (BitVec 8)} (hb : b.length ≤ 900000) : (∀ l, rdE b (b.length + 1) 0 = .inl l → item_Read b = some (l, .nil)) ∧ (∀ c, rdE b (b.length + 1) 0 = .inr c → ∃ e, item_Read b = some ([], e) ∧ codeOf e = c ∧ e.isNil = false) := by
  obtain ⟨y, h1, h2, h3⟩ := read_l hb (b.length + 1) 0 [] (by omega) (by omega) (by simp; omega)
  unfold item_Read
  rw [read_eq (by omega)]
  have h1' : item_Read_l0 ([], ⟨b, 0, 0⟩) = some y := h1
  simp only [Option.bind_some, h1']
  refine ⟨fun l hl => ?_, fun c hc => ?_⟩
  · obtain ⟨r, rfl⟩ := h2 l hl
    rfl
  · obtain ⟨e, rfl, he⟩ := h3 c hc
    exact ⟨e, rfl, he⟩
theorem refRead_l {b : List (BitVec 8)} (hb : b.length ≤ 900000) : ∀ (k a : Nat) (acc : List api_Entry), b.length < k + a → a ≤ b.length → acc.length + k ≤ 1000000 →
    ∃ y, butteryref06_Read_l0 b (acc, (⟨a, 0⟩ : rdr).x b) = some y ∧ (∀ l, rdE b k a = .inl l → ∃ r, y = .inl (acc ++ l, r)) ∧ (∀ c, rdE b k a = .inr c → y = .inr ([], c))
  | 0, a, acc, h1, h2, h3 => absurd h1 (by omega)
  | k + 1, a, acc, h1, h2, h3 => by
    have hf := refFrom_eq (b := b) (r := ⟨a, 0⟩) (by omega) h2
    have hle := frE_le (b := b) (r := ⟨a, 0⟩) h2
    by_cases ha : a < b.length
    · by_cases he : (frE b ⟨a, 0⟩).2.e = 0
      · obtain ⟨c1, c2, c3⟩ := frE_one (b := b) (r := ⟨a, 0⟩) h2 he
        simp only at c3
        obtain ⟨y, i1, i2, i3⟩ := refRead_l hb k (frE b ⟨a, 0⟩).2.a (acc ++ [(frE b ⟨a, 0⟩).1]) (by omega) hle (by simp; omega)
        have e1 : butteryref06_Read_l0 b (acc, (⟨a, 0⟩ : rdr).x b) = butteryref06_Read_l0 b (acc ++ [(frE b ⟨a, 0⟩).1], (⟨(frE b ⟨a, 0⟩).2.a, 0⟩ : rdr).x b) := by
          refine loopO_in (body := fun s => butteryref06_Read_b0 b s.1 s.2) ?_
          have hd : decide ((a : Int) < (b.length : Int)) = true := decide_eq_true (by omega)
          simp only [butteryref06_Read_b0, hf, lt_eq, Option.bind_some]
          show (if decide ((a : Int) < (b.length : Int)) = true then (if ((frE b ⟨a, 0⟩).2.e != 0) = true then _ else _) else _) = _
          rw [if_pos hd, if_neg (by simp [he]), app_eq (by simp; omega)]
          simp only [Option.bind_some, rdr.x, he]
        refine ⟨y, by rw [e1]; exact i1, fun l hl => ?_, fun c hc => ?_⟩
        · simp only [rdE, if_pos ha, if_pos he] at hl
          split at hl
          · rename_i l' hl'
            cases hl
            obtain ⟨r, hr⟩ := i2 _ hl'
            exact ⟨r, by rw [hr]; simp⟩
          · cases hl
        · simp only [rdE, if_pos ha, if_pos he] at hc
          split at hc
          · cases hc
          · rename_i c' hc'
            cases hc
            exact i3 _ hc'
      · refine ⟨.inr ([], (frE b ⟨a, 0⟩).2.e), ?_, fun l hl => ?_, fun c hc => ?_⟩
        · refine loopO_out ?_
          have hd : decide ((a : Int) < (b.length : Int)) = true := decide_eq_true (by omega)
          simp only [butteryref06_Read_b0, hf, lt_eq, Option.bind_some]
          show (if decide ((a : Int) < (b.length : Int)) = true then (if ((frE b ⟨a, 0⟩).2.e != 0) = true then _ else _) else _) = _
          rw [if_pos hd, if_pos (by simpa using he)]
          rfl
        · simp only [rdE, if_pos ha, if_neg he] at hl
          cases hl
        · simp only [rdE, if_pos ha, if_neg he] at hc
          cases hc
          rfl
    · refine ⟨.inl (acc, (⟨a, 0⟩ : rdr).x b), ?_, fun l hl => ?_, fun c hc => ?_⟩
      · refine loopO_out ?_
        have hd : ¬decide ((a : Int) < (b.length : Int)) = true := by simpa using (by omega : b.length ≤ a)
        simp only [butteryref06_Read_b0, lt_eq]
        show (if decide ((a : Int) < (b.length : Int)) = true then _ else _) = _
        rw [if_neg hd]
      · simp only [rdE, if_neg ha] at hl
        cases hl
        exact ⟨_, by simp; rfl⟩
      · simp only [rdE, if_neg ha] at hc
        cases hc
theorem refRead_eq6 {b : List (BitVec 8)} (hb : b.length ≤ 900000) : (∀ l, rdE b (b.length + 1) 0 = .inl l → butteryref06_Read b = some (l, 0)) ∧ (∀ c, rdE b (b.length + 1) 0 = .inr c → butteryref06_Read b = some ([], c)) := by
  obtain ⟨y, h1, h2, h3⟩ := refRead_l hb (b.length + 1) 0 [] (by omega) (by omega) (by simp; omega)
  unfold butteryref06_Read
  have h1' : butteryref06_Read_l0 b ([], ⟨b, 0, 0⟩) = some y := h1
  simp only [lt_eq, h1', Option.bind_some]
  refine ⟨fun l hl => ?_, fun c hc => ?_⟩
  · obtain ⟨r, rfl⟩ := h2 l hl
    rfl
  · obtain rfl := h3 c hc
    rfl
/-- Entries that were read are their bytes. -/
theorem rdE_one {b : List (BitVec 8)} : ∀ {k a : Nat} {l : List api_Entry}, b.length < k + a → a ≤ b.length → rdE b k a = .inl l → b.drop a = l.flatMap encE ∧ ∀ x ∈ l, ckE x = 0
  | 0, a, l, h1, h2, h => absurd h1 (by omega)
  | k + 1, a, l, h1, h2, h => by
    simp only [rdE] at h
    split at h
    · rename_i ha
      split at h
      · rename_i he
        obtain ⟨c1, c2, c3⟩ := frE_one (b := b) (r := ⟨a, 0⟩) h2 he
        simp only at c2 c3
        split at h
        · rename_i l' hl
          cases h
          obtain ⟨i1, i2⟩ := rdE_one (by omega) (frE_le (b := b) (r := ⟨a, 0⟩) h2) hl
          refine ⟨by rw [c2, i1]; simp, fun x hx => ?_⟩
          rcases List.mem_cons.1 hx with rfl | hx
          · exact c1
          · exact i2 x hx
        · cases h
      · cases h
    · cases h
      exact ⟨by rw [List.drop_of_length_le (by omega)]; rfl, fun x hx => by cases hx⟩
/-- Entries that may be are read from their bytes. -/
theorem rdE_is {b : List (BitVec 8)} : ∀ {k a : Nat} {l : List api_Entry}, b.length < k + a → a ≤ b.length → b.drop a = l.flatMap encE → (∀ x ∈ l, ckE x = 0) → rdE b k a = .inl l
  | 0, a, l, h1, h2, _, _ => absurd h1 (by omega)
  | k + 1, a, [], h1, h2, h3, h4 => by
    have h5 := congrArg List.length h3
    simp at h5
    rw [rdE, if_neg (by omega)]
  | k + 1, a, x :: l, h1, h2, h3, h4 => by
    have hx := h4 x List.mem_cons_self
    rw [List.flatMap_cons] at h3
    have hr := frE_is (r := ⟨a, 0⟩) rfl h2 h3 hx
    have h5 := congrArg List.length h3
    have hp := (encE_len hx).2
    simp only [List.length_drop, List.length_append] at h5
    have ih := rdE_is (k := k) (a := a + (encE x).length) (l := l) (by omega) (by omega) (drop_app h3) (fun y hy => h4 y (List.mem_cons_of_mem _ hy))
    rw [rdE, if_pos (by omega), hr]
    simp only [if_true, ih]
theorem all_len {l : List api_Entry} (h : ∀ x ∈ l, ckE x = 0) : (l.flatMap encE).length ≤ 4181 * l.length := by
  induction l with
  | nil => simp
  | cons x l ih =>
    have := ih (fun y hy => h y (List.mem_cons_of_mem _ hy))
    have := (encE_len (h x List.mem_cons_self)).1
    simp only [List.flatMap_cons, List.length_append, List.length_cons]
    omega
theorem all_eq6' {l : List api_Entry} (hl : l.length ≤ 1000000) (hn : (l.flatMap encE).length ≤ 900000) (h : ∀ x ∈ l, ckE x = 0) : item_All l = some (l.flatMap encE) := by
  have k := loopO_up (body := fun s => item_All_b0 l (l.length : Int) s.1 s.2) (fun i : Nat => ((l.take i).flatMap encE, (i : Int))) l.length (x := l.flatMap encE) (fun i hi => by
    simp only [item_All_b0, lt_eq]
    have hb : ((l.take i).flatMap encE).length ≤ 900000 := by
      have e : l.flatMap encE = (l.take i).flatMap encE ++ (l.drop i).flatMap encE := by rw [← List.flatMap_append, List.take_append_drop]
      rw [e, List.length_append] at hn
      omega
    rw [if_pos (decide_eq_true (by omega)), ix_nat hi]
    simp only [Option.bind_some]
    rw [put_eq (by omega) (h _ (List.getElem_mem hi))]
    simp only [Option.bind_some]
    rw [w64_nat (by omega), List.take_add_one, List.getElem?_eq_getElem hi, List.flatMap_append]
    simp) (by
    simp only [item_All_b0, lt_eq, List.take_length]
    rw [if_neg (by rw [decide_eq_false (by omega)]; simp)])
  have k' : item_All_l0 l (l.length : Int) ([], 0) = some (l.flatMap encE) := k
  unfold item_All
  simp only [lt_eq, k', Option.bind_some]
theorem all_eq6 {l : List api_Entry} (hl : l.length ≤ 200) (h : ∀ x ∈ l, ckE x = 0) : item_All l = some (l.flatMap encE) :=
  all_eq6' (by omega) (by have := all_len h; omega) h
theorem refAll_eq6 {l : List api_Entry} (hl : l.length ≤ 200) (h : ∀ x ∈ l, ckE x = 0) : butteryref06_All l = some (l.flatMap encE) := by
  have k := loopO_up (body := fun s => butteryref06_All_b0 l s.1 s.2) (fun i : Nat => ((l.take i).flatMap encE, (i : Int))) l.length (x := l.flatMap encE) (fun i hi => by
    simp only [butteryref06_All_b0, lt_eq]
    have hb := all_len (l := l.take i) (fun x hx => h x (List.mem_of_mem_take hx))
    rw [List.length_take] at hb
    rw [if_pos (decide_eq_true (by omega)), ix_nat hi]
    simp only [Option.bind_some]
    rw [refPutE_eq (by omega) (h _ (List.getElem_mem hi))]
    simp only [Option.bind_some]
    rw [w64_nat (by omega), List.take_add_one, List.getElem?_eq_getElem hi, List.flatMap_append]
    simp) (by
    simp only [butteryref06_All_b0, lt_eq, List.take_length]
    rw [if_neg (by rw [decide_eq_false (by omega)]; simp)])
  have k' : butteryref06_All_l0 l ([], 0) = some (l.flatMap encE) := k
  unfold butteryref06_All
  simp only [k', Option.bind_some]
theorem same_eq6 (x y : api_Entry) (hx : x.Value.length < 9223372036854775807) : butteryref06_Same x y = some (decide (x = y)) := by
  obtain ⟨k, v, a, n, w⟩ := x
  obtain ⟨k', v', a', n', w'⟩ := y
  simp only at hx
  simp only [butteryref06_Same, lt_eq, same_eq _ _ hx, Option.bind_some, beq_iff_eq, api_Entry.mk.injEq]
  by_cases h1 : k = k'
  · by_cases h2 : v = v'
    · by_cases h3 : a = a'
      · by_cases h4 : n = n'
        · simp [h1, h2, h3, h4]
        · simp [h1, h2, h3, h4]
      · simp [h1, h2, h3]
    · simp [h1, h2]
  · simp [h1]
theorem isame_eq6 (x y : api_Entry) : item_Same x y = some (decide (x = y)) := by
  obtain ⟨k, v, a, n, w⟩ := x
  obtain ⟨k', v', a', n', w'⟩ := y
  simp only [item_Same, lt_eq, beq_iff_eq, api_Entry.mk.injEq]
  by_cases h1 : k = k'
  · by_cases h2 : v = v'
    · by_cases h3 : a = a'
      · by_cases h4 : n = n'
        · by_cases h5 : w = w'
          · simp [h1, h2, h3, h4, h5]
          · simp [h1, h2, h3, h4, h5]
        · simp [h1, h2, h3, h4]
      · simp [h1, h2, h3]
    · simp [h1, h2]
  · simp [h1]
theorem sameAll_refl {l : List api_Entry} (hl : l.length ≤ 1000000) (h : ∀ x ∈ l, x.Value.length < 9223372036854775807) : butteryref06_SameAll l l = some true := by
  have k := loopO_up (body := fun s => butteryref06_SameAll_b0 l l s) (fun i : Nat => (i : Int)) l.length (x := .inl ()) (fun i hi => by
    simp only [butteryref06_SameAll_b0, lt_eq]
    rw [if_pos (decide_eq_true (by omega)), ix_nat hi]
    simp only [Option.bind_some]
    rw [same_eq6 _ _ (h _ (List.getElem_mem hi))]
    simp only [Option.bind_some, decide_true, Bool.not_true, Bool.false_eq_true, if_false]
    rw [w64_nat (by omega)]) (by
    simp only [butteryref06_SameAll_b0, lt_eq]
    rw [if_neg (by rw [decide_eq_false (by omega)]; simp)])
  have k' : butteryref06_SameAll_l0 l l 0 = some (.inl ()) := k
  simp only [butteryref06_SameAll, lt_eq, bne_self_eq_false, Bool.false_eq_true, if_false, k', Option.bind_some, Sum.elim_inl]
theorem copy_eq6 {x : api_Entry} (h : x.Value.length ≤ 100000) : item_Copy x = some x := by
  unfold item_Copy
  rw [app_eq (by simp; omega)]
  simp [lt_eq]
/-- What is light. -/
theorem light_l {l : List api_Entry} (hl : l.length ≤ 40) : ∀ (k i : Nat) (n : Nat), k + i = l.length → n ≤ 12000 → ∃ y, butterylaw06_Light_l0 l ((n : Int), (i : Int)) = some y ∧ (y = .inr 1 ∨ (y = .inl () ∧ ∀ j, i ≤ j → (h : j < l.length) → l[j].Key.length ≤ 200 ∧ l[j].Value.length ≤ 5000))
  | 0, i, n, hk, hn => by
    refine ⟨.inl (), loopO_out ?_, .inr ⟨rfl, fun j h1 h2 => by omega⟩⟩
    simp only [butterylaw06_Light_b0, lt_eq]
    rw [if_neg (by rw [decide_eq_false (by omega)]; simp)]
  | k + 1, i, n, hk, hn => by
    have hi : i < l.length := by omega
    by_cases h1 : l[i].Key.length > 200
    · refine ⟨.inr 1, loopO_out ?_, .inl rfl⟩
      simp only [butterylaw06_Light_b0, lt_eq, ix_nat hi, Option.bind_some]
      rw [if_pos (decide_eq_true (by omega)), if_pos (decide_eq_true (by omega))]
      rfl
    · by_cases h2 : l[i].Value.length > 5000
      · refine ⟨.inr 1, loopO_out ?_, .inl rfl⟩
        simp only [butterylaw06_Light_b0, lt_eq, ix_nat hi, Option.bind_some]
        rw [if_pos (decide_eq_true (by omega)), if_neg (by rw [decide_eq_false (by omega)]; simp), decide_eq_true (by omega)]
        rfl
      · have hw : w64 ((n : Int) + (l[i].Value.length : Int)) = ((n + l[i].Value.length : Nat) : Int) := by rw [w64_eq (by omega) (by omega)]; omega
        by_cases h3 : n + l[i].Value.length > 12000
        · refine ⟨.inr 1, loopO_out ?_, .inl rfl⟩
          simp only [butterylaw06_Light_b0, lt_eq, ix_nat hi, Option.bind_some]
          rw [if_pos (decide_eq_true (by omega)), if_neg (by rw [decide_eq_false (by omega)]; simp), decide_eq_false (by omega)]
          simp only [Option.bind_some, Bool.false_eq_true, if_false, hw]
          rw [if_pos (decide_eq_true (by omega))]
        · obtain ⟨y, i1, i2⟩ := light_l hl k (i + 1) (n + l[i].Value.length) (by omega) (by omega)
          have e : butterylaw06_Light_l0 l ((n : Int), (i : Int)) = butterylaw06_Light_l0 l (((n + l[i].Value.length : Nat) : Int), ((i + 1 : Nat) : Int)) := by
            refine loopO_in (body := fun s => butterylaw06_Light_b0 l s.1 s.2) ?_
            simp only [butterylaw06_Light_b0, lt_eq, ix_nat hi, Option.bind_some]
            rw [if_pos (decide_eq_true (by omega)), if_neg (by rw [decide_eq_false (by omega)]; simp), decide_eq_false (by omega)]
            simp only [Option.bind_some, Bool.false_eq_true, if_false, hw]
            rw [if_neg (by rw [decide_eq_false (by omega)]; simp), w64_nat (by omega)]
          refine ⟨y, by rw [e]; exact i1, ?_⟩
          rcases i2 with rfl | ⟨rfl, i3⟩
          · exact .inl rfl
          · refine .inr ⟨rfl, fun j h4 h5 => ?_⟩
            by_cases hj : j = i
            · subst hj; omega
            · exact i3 j (by omega) h5
theorem light_eq (l : List api_Entry) : butterylaw06_Light l = some 1 ∨ (butterylaw06_Light l = some 0 ∧ l.length ≤ 40 ∧ ∀ x ∈ l, x.Key.length ≤ 200 ∧ x.Value.length ≤ 5000) := by
  unfold butterylaw06_Light
  simp only [lt_eq]
  by_cases h : l.length > 40
  · left; rw [if_pos (decide_eq_true (by omega))]
  · rw [if_neg (by rw [decide_eq_false (by omega)]; simp)]
    obtain ⟨y, h1, h2⟩ := light_l (l := l) (by omega) l.length 0 0 (by omega) (by omega)
    have h1' : butterylaw06_Light_l0 l (0, 0) = some y := h1
    rw [h1']
    rcases h2 with rfl | ⟨rfl, h3⟩
    · exact .inl rfl
    · refine .inr ⟨rfl, by omega, fun x hx => ?_⟩
      obtain ⟨j, hj, rfl⟩ := List.mem_iff_getElem.1 hx
      exact h3 j (by omega) hj
end Go.Proofs.YtkmlinaofbcbaaaDoor
namespace Go.Proofs.YtkmlinaofbcbaaaDoor
open Go Go.Va
set_option linter.unusedVariables false
set_option linter.unusedSimpArgs false
/-- Numbers that go up, below a bound. -/
def dk (cnt : Int) : Int → List Int → Bool
  | _, [] => true
  | last, n :: l => decide (last < n ∧ n < cnt) && dk cnt n l
theorem dk_spec {cnt : Int} : ∀ {l : List Int} {last : Int}, -1 ≤ last → dk cnt last l = true → (∀ n ∈ l, last < n ∧ n < cnt) ∧ ((l.length : Int) ≤ cnt - 1 - last ∨ l = [])
  | [], _, _, _ => ⟨fun n h => (by cases h), .inr rfl⟩
  | n :: l, last, h0, h => by
    simp only [dk, Bool.and_eq_true, decide_eq_true_eq] at h
    obtain ⟨⟨h1, h2⟩, h3⟩ := h
    obtain ⟨i1, i2⟩ := dk_spec (last := n) (by omega) h3
    refine ⟨fun m hm => ?_, .inl ?_⟩
    · rcases List.mem_cons.1 hm with rfl | hm
      · exact ⟨h1, h2⟩
      · have := i1 m hm; omega
    · rcases i2 with i2 | rfl
      · simp only [List.length_cons]; omega
      · simp only [List.length_cons, List.length_nil]; omega
def fbad (x : api_Foot) : Prop := x.Seq < 1 ∨ x.Seq > 1099511627776 ∨ x.Bytes < 0 ∨ x.Bytes > 954368 ∨ x.Count < 0 ∨ x.Count > 60
instance (x : api_Foot) : Decidable (fbad x) := by unfold fbad; infer_instance
def fkE (x : api_Foot) : Int := if fbad x then 2 else if dk x.Count (-1) x.Dead = true then 0 else 1
theorem rcheck_l (x : api_Foot) (hd : x.Dead.length ≤ 1000000) : ∀ (k i : Nat) (last : Int), k + i = x.Dead.length → ∃ y, region_Check_l0 x (x.Dead.length : Int) (last, (i : Int)) = some y ∧ (dk x.Count last (x.Dead.drop i) = true → y = .inl ()) ∧ (dk x.Count last (x.Dead.drop i) = false → ∃ e, y = .inr e ∧ codeOf e = 1 ∧ e.isNil = false)
  | 0, i, last, h => by
    rw [List.drop_of_length_le (by omega)]
    refine ⟨.inl (), loopO_out (body := fun s => region_Check_b0 x (x.Dead.length : Int) s.1 s.2) ?_, fun _ => rfl, fun h => (by cases h)⟩
    simp only [region_Check_b0, lt_eq]
    rw [if_neg (by rw [decide_eq_false (by omega)]; simp)]
  | k + 1, i, last, h => by
    have hi : i < x.Dead.length := by omega
    rw [List.drop_eq_getElem_cons hi]
    simp only [dk]
    by_cases hg : last < x.Dead[i] ∧ x.Dead[i] < x.Count
    · obtain ⟨y, h1, h2, h3⟩ := rcheck_l x hd k (i + 1) x.Dead[i] (by omega)
      have e1 : region_Check_l0 x (x.Dead.length : Int) (last, (i : Int)) = region_Check_l0 x (x.Dead.length : Int) (x.Dead[i], ((i + 1 : Nat) : Int)) := by
        refine loopO_in (body := fun s => region_Check_b0 x (x.Dead.length : Int) s.1 s.2) ?_
        simp only [region_Check_b0, lt_eq]
        rw [if_pos (decide_eq_true (by omega)), ix_nat hi]
        simp only [Option.bind_some, decide_eq_false (show ¬ x.Dead[i] ≤ last by omega), decide_eq_false (show ¬ x.Dead[i] ≥ x.Count by omega), Bool.false_eq_true, if_false]
        rw [w64_nat (by omega)]
      rw [decide_eq_true hg, Bool.true_and]
      exact ⟨y, by rw [e1]; exact h1, h2, h3⟩
    · rw [decide_eq_false hg, Bool.false_and]
      refine ⟨.inr (.fault [100#8, 101#8, 97#8, 100#8] i 1 .nil), loopO_out (body := fun s => region_Check_b0 x (x.Dead.length : Int) s.1 s.2) ?_, fun h => (by cases h), fun _ => ⟨_, rfl, rfl, rfl⟩⟩
      simp only [region_Check_b0, lt_eq]
      rw [if_pos (decide_eq_true (by omega)), ix_nat hi]
      simp only [Option.bind_some]
      by_cases h5 : x.Dead[i] ≤ last
      · simp only [decide_eq_true h5, if_true, Option.bind_some]
        rw [new_eq _ _ _ (by decide)]
        rfl
      · simp only [decide_eq_false h5, decide_eq_true (show x.Dead[i] ≥ x.Count by omega), Bool.false_eq_true, if_false, if_true, Option.bind_some]
        rw [new_eq _ _ _ (by decide)]
        rfl
theorem check_eq14 (x : api_Foot) (hd : x.Dead.length ≤ 1000000) : ∃ e, region_Check x = some e ∧ codeOf e = fkE x ∧ e.isNil = decide (fkE x = 0) := by
  obtain ⟨y, l1, l2, l3⟩ := rcheck_l x hd x.Dead.length 0 (-1) rfl
  rw [List.drop_zero] at l2 l3
  have l1' : region_Check_l0 x (x.Dead.length : Int) (-1, 0) = some y := l1
  have n1 := new_eq [115#8, 101#8, 113#8] x.Seq 2 (by decide)
  have n2 := new_eq [98#8, 121#8, 116#8, 101#8, 115#8] x.Bytes 2 (by decide)
  have n3 := new_eq [99#8, 111#8, 117#8, 110#8, 116#8] x.Count 2 (by decide)
  unfold region_Check fkE fbad
  simp only [lt_eq, n1, n2, n3, Option.bind_some, l1']
  by_cases h1 : x.Seq < 1
  · simp [h1, codeOf, Err.isNil]
  · by_cases h2 : x.Seq > 1099511627776
    · simp [h1, h2, codeOf, Err.isNil]
    · by_cases h3 : x.Bytes < 0
      · simp [h1, h2, h3, codeOf, Err.isNil]
      · by_cases h4 : x.Bytes > 954368
        · simp [h1, h2, h3, h4, codeOf, Err.isNil]
        · by_cases h5 : x.Count < 0
          · simp [h1, h2, h3, h4, h5, codeOf, Err.isNil]
          · by_cases h6 : x.Count > 60
            · simp [h1, h2, h3, h4, h5, h6, codeOf, Err.isNil]
            · cases hk : dk x.Count (-1) x.Dead with
              | true =>
                obtain rfl := l2 hk
                simp [h1, h2, h3, h4, h5, h6, codeOf, Err.isNil]
              | false =>
                obtain ⟨e, rfl, k1, k2⟩ := l3 hk
                simp [h1, h2, h3, h4, h5, h6, k1, k2]
theorem refCheck_l (x : api_Foot) (hd : x.Dead.length ≤ 1000000) : ∀ (k i : Nat) (last : Int), k + i = x.Dead.length → -1 ≤ last → (i = 0 → last = -1) → (0 < i → x.Dead[i - 1]? = some last ∧ 0 ≤ last) → butteryref14_Check_l0 x (i : Int) = some (bif dk x.Count last (x.Dead.drop i) then .inl () else .inr 1)
  | 0, i, last, h, _, _, _ => by
    rw [List.drop_of_length_le (by omega)]
    show butteryref14_Check_l0 x (i : Int) = some (Sum.inl ())
    refine loopO_out (body := fun s => butteryref14_Check_b0 x s) ?_
    simp only [butteryref14_Check_b0, lt_eq]
    rw [if_neg (by rw [decide_eq_false (by omega)]; simp)]
  | k + 1, i, last, h, hl, h0, hp => by
    have hi : i < x.Dead.length := by omega
    rw [List.drop_eq_getElem_cons hi]
    simp only [dk]
    have hb : (ix x.Dead (w64 ((i : Int) - 1))) = if i = 0 then ix x.Dead (-1) else some last := by
      by_cases hi0 : i = 0
      · subst hi0
        rw [if_pos rfl]; rfl
      · rw [if_neg hi0, w64_eq (by omega) (by omega), show (i : Int) - 1 = ((i - 1 : Nat) : Int) by omega, ix_get, (hp (by omega)).1]
    by_cases hg : last < x.Dead[i] ∧ x.Dead[i] < x.Count
    · have ih := refCheck_l x hd k (i + 1) x.Dead[i] (by omega) (by omega) (by omega) (fun _ => ⟨by simp [hi], by omega⟩)
      rw [decide_eq_true hg, Bool.true_and, ← ih]
      refine loopO_in (body := fun s => butteryref14_Check_b0 x s) ?_
      simp only [butteryref14_Check_b0, lt_eq]
      rw [if_pos (decide_eq_true (by omega)), ix_nat hi]
      simp only [Option.bind_some, decide_eq_false (show ¬ x.Dead[i] < 0 by omega), decide_eq_false (show ¬ x.Dead[i] ≥ x.Count by omega), Bool.false_eq_true, if_false, hb]
      by_cases hi0 : i = 0
      · subst hi0
        simp
        rfl
      · rw [if_pos (decide_eq_true (by omega)), if_neg hi0]
        simp only [Option.bind_some, decide_eq_false (show ¬ x.Dead[i] ≤ last by omega), Bool.false_eq_true, if_false]
        rw [w64_nat (by omega)]
    · rw [decide_eq_false hg, Bool.false_and, cond_false]
      refine loopO_out (body := fun s => butteryref14_Check_b0 x s) ?_
      simp only [butteryref14_Check_b0, lt_eq]
      rw [if_pos (decide_eq_true (by omega)), ix_nat hi]
      simp only [Option.bind_some, hb]
      by_cases h1 : x.Dead[i] < 0
      · simp [h1]
      · by_cases h2 : x.Dead[i] ≥ x.Count
        · simp [h1, h2]
        · by_cases hi0 : i = 0
          · have := h0 hi0; omega
          · have h3 : x.Dead[i] ≤ last := by omega
            have hi1 : (i : Int) > 0 := by omega
            simp only [decide_eq_false h1, decide_eq_false h2, decide_eq_true h3, decide_eq_true hi1, if_neg hi0, Bool.false_eq_true, if_false, if_true, Option.bind_some]
theorem refCheck_eq14 (x : api_Foot) (hd : x.Dead.length ≤ 1000000) : butteryref14_Check x = some (fkE x) := by
  have l1 := refCheck_l x hd x.Dead.length 0 (-1) rfl (by omega) (fun _ => rfl) (fun h => absurd h (by omega))
  rw [List.drop_zero] at l1
  have l1' : butteryref14_Check_l0 x 0 = some (bif dk x.Count (-1) x.Dead then .inl () else .inr 1) := l1
  unfold butteryref14_Check fkE fbad
  simp only [lt_eq, Option.bind_some, l1']
  by_cases h1 : x.Seq < 1
  · simp [h1]
  · by_cases h2 : x.Seq > 1099511627776
    · simp [h1, h2]
    · by_cases h3 : x.Bytes < 0
      · simp [h1, h2, h3]
      · by_cases h4 : x.Bytes > 954368
        · simp [h1, h2, h3, h4]
        · by_cases h5 : x.Count < 0
          · simp [h1, h2, h3, h4, h5]
          · by_cases h6 : x.Count > 60
            · simp [h1, h2, h3, h4, h5, h6]
            · cases hk : dk x.Count (-1) x.Dead <;> simp [h1, h2, h3, h4, h5, h6]
theorem fk_ok {x : api_Foot} (h : fkE x = 0) : 1 ≤ x.Seq ∧ x.Seq ≤ 1099511627776 ∧ 0 ≤ x.Bytes ∧ x.Bytes ≤ 954368 ∧ 0 ≤ x.Count ∧ x.Count ≤ 60 ∧ dk x.Count (-1) x.Dead = true := by
  unfold fkE at h
  split at h
  · cases h
  · rename_i hb
    split at h
    · rename_i hk
      unfold fbad at hb
      exact ⟨by omega, by omega, by omega, by omega, by omega, by omega, hk⟩
    · cases h
theorem fk_dead {x : api_Foot} (h : fkE x = 0) : x.Dead.length ≤ 60 ∧ ∀ n ∈ x.Dead, 0 ≤ n ∧ n < 60 := by
  obtain ⟨h1, h2, h3, h4, h5, h6, h7⟩ := fk_ok h
  obtain ⟨k1, k2⟩ := dk_spec (by omega) h7
  refine ⟨?_, fun n hn => by have := k1 n hn; omega⟩
  rcases k2 with k2 | k2
  · omega
  · rw [k2]; simp
def ftE (x : api_Foot) : List (BitVec 8) := num7 x.Seq.toNat ++ (num7 x.Bytes.toNat ++ (num7 x.Count.toNat ++ x.Dead.flatMap fun n => num7 n.toNat))
theorem put_eq14 (x : api_Foot) (hd : x.Dead.length ≤ 1000000) : (fkE x = 0 → region_Put x = some (ftE x, .nil)) ∧ (fkE x ≠ 0 → ∃ e, region_Put x = some ([], e) ∧ codeOf e = fkE x ∧ e.isNil = false) := by
  obtain ⟨e, c1, c2, c3⟩ := check_eq14 x hd
  unfold region_Put
  simp only [c1, Option.bind_some, lt_eq, c3]
  refine ⟨fun h => ?_, fun h => ?_⟩
  · obtain ⟨h1, h2, h3, h4, h5, h6, h7⟩ := fk_ok h
    obtain ⟨d1, d2⟩ := fk_dead h
    rw [if_neg (by simp [h]), octPut_eq [] (by simp) ⟨by simp, fun n hn => by simp at hn; omega⟩]
    simp only [Option.bind_some]
    have hl : (nums [x.Seq, x.Bytes, x.Count]).length ≤ 27 := by
      have k1 := num7_len (n := x.Seq.toNat) (by omega)
      have k2 := num7_len (n := x.Bytes.toNat) (by omega)
      have k3 := num7_len (n := x.Count.toNat) (by omega)
      simp [nums]; omega
    rw [octPut_eq _ (by simp; omega) ⟨by omega, fun n hn => by have := d2 n hn; omega⟩]
    simp [nums, ftE]
  · rw [if_pos (by simp [h]), wrap_eq _ _ _ (by rw [c3]; simpa using h)]
    exact ⟨_, rfl, by simp only [codeOf, c2, if_true], rfl⟩
/-! ### feet read -/
def gd (b : List (BitVec 8)) : Nat → rdr → List Nat × rdr
  | 0, r => ([], r)
  | k + 1, r => if r.e = 0 ∧ r.a < b.length then ((rN b r 60).1 :: (gd b k (rN b r 60).2).1, (gd b k (rN b r 60).2).2) else ([], r)
theorem gd_off {b : List (BitVec 8)} {r : rdr} (h : r.e ≠ 0) : ∀ k, gd b k r = ([], r)
  | 0 => rfl
  | k + 1 => by rw [gd, if_neg (fun h2 => h h2.1)]
theorem gd_le {b : List (BitVec 8)} : ∀ (k : Nat) {r : rdr}, r.a ≤ b.length → (gd b k r).2.a ≤ b.length ∧ (gd b k r).1.length ≤ k
  | 0, r, hr => ⟨hr, Nat.le_refl _⟩
  | k + 1, r, hr => by
    rw [gd]
    split
    · obtain ⟨i1, i2⟩ := gd_le k (rN_le hr 60).1
      exact ⟨i1, by simp only [List.length_cons]; omega⟩
    · exact ⟨hr, by simp⟩
theorem get_l {b : List (BitVec 8)} (hb : b.length ≤ 100000) : ∀ (k : Nat) (r : rdr) (x : api_Foot), (r.e = 0 → b.length < k + r.a) → r.a ≤ b.length → x.Dead.length + k ≤ 1000000 →
    region_Get_l0 b (x, r.o b) = some ({ x with Dead := x.Dead ++ (gd b k r).1.map fun n : Nat => (n : Int) }, (gd b k r).2.o b)
  | k, r, x, h1, h2, h3 => by
    have hL : octets_Reader_Left (r.o b) = some ((b.length - r.a : Nat) : Int) := left_eq (by omega) h2
    by_cases hg : r.e = 0 ∧ r.a < b.length
    · obtain ⟨k, rfl⟩ : ∃ j, k = j + 1 := ⟨k - 1, by have := h1 hg.1; omega⟩
      have hn := rN_le h2 60
      have hd : decide (((b.length - r.a : Nat) : Int) > 0) = true := decide_eq_true (by omega)
      have hN := octN_r (b := b) (by omega) h2 (m := 60) (by omega)
      have e1 : region_Get_l0 b (x, r.o b) = region_Get_l0 b ({ x with Dead := x.Dead ++ [((rN b r 60).1 : Int)] }, (rN b r 60).2.o b) := by
        refine loopO_in (body := fun s => region_Get_b0 b s.1 s.2) ?_
        have hc : octets_Reader_Code (r.o b) = some 0 := by simp only [octets_Reader_Code, o_code, hg.1, lt_eq]
        simp only [region_Get_b0, hc, hL, lt_eq, Option.bind_some, beq_self_eq_true, if_true, hd]
        rw [show (60 : Int) = ((60 : Nat) : Int) from rfl, hN]
        simp only [Option.bind_some]
        rw [app_eq (by simp; omega)]
        rfl
      have ih := get_l hb k (rN b r 60).2 { x with Dead := x.Dead ++ [((rN b r 60).1 : Int)] } (fun he => by
        have := (rN_one (b := b) (r := r) (m := 60) (by omega) he).2
        have := h1 hg.1
        omega) hn.1 (by simp; omega)
      rw [e1, ih, gd, if_pos hg]
      simp
    · have hgd : gd b k r = ([], r) := by
        cases k with
        | zero => rfl
        | succ k => rw [gd, if_neg hg]
      rw [hgd]
      refine loopO_out (body := fun s => region_Get_b0 b s.1 s.2) ?_
      have hc : octets_Reader_Code (r.o b) = some r.e := by simp only [octets_Reader_Code, o_code, lt_eq]
      simp only [region_Get_b0, hc, hL, lt_eq, Option.bind_some]
      by_cases he : r.e = 0
      · have hd : decide (((b.length - r.a : Nat) : Int) > 0) = false := decide_eq_false (by omega)
        simp [he, hd]
        omega
      · have he' : (r.e == 0) = false := by simpa using he
        simp [he]
def zeroF : api_Foot := ⟨0, 0, 0, []⟩
def fhd (b : List (BitVec 8)) : Nat × rdr := rN b ⟨0, 0⟩ 1099511627776
def fby (b : List (BitVec 8)) : Nat × rdr := rN b (fhd b).2 954368
def fcn (b : List (BitVec 8)) : Nat × rdr := rN b (fby b).2 60
def fds (b : List (BitVec 8)) : List Nat × rdr := gd b (b.length + 1) (fcn b).2
def fox (b : List (BitVec 8)) : api_Foot := ⟨(fhd b).1, (fby b).1, (fcn b).1, (fds b).1.map fun n : Nat => (n : Int)⟩
def fgE (b : List (BitVec 8)) : api_Foot × Int := if (fds b).2.e = 0 then (if fkE (fox b) = 0 then (fox b, 0) else (zeroF, fkE (fox b))) else (zeroF, (fds b).2.e)
theorem f_le (b : List (BitVec 8)) : (fhd b).2.a ≤ b.length ∧ (fby b).2.a ≤ b.length ∧ (fcn b).2.a ≤ b.length ∧ (fds b).2.a ≤ b.length ∧ (fds b).1.length ≤ b.length + 1 := by
  have h1 := (rN_le (b := b) (r := ⟨0, 0⟩) (by simp) 1099511627776).1
  have h2 := (rN_le (b := b) h1 954368).1
  have h3 := (rN_le (b := b) h2 60).1
  have h4 := gd_le (b := b) (b.length + 1) h3
  exact ⟨h1, h2, h3, h4.1, h4.2⟩
theorem get_eq14 {b : List (BitVec 8)} (hb : b.length ≤ 100000) : ∃ e, region_Get b = some ((fgE b).1, e) ∧ codeOf e = (fgE b).2 ∧ e.isNil = decide ((fgE b).2 = 0) := by
  obtain ⟨l1, l2, l3, l4, l5⟩ := f_le b
  have h1 := octN_r (b := b) (by omega) (r := ⟨0, 0⟩) (by simp) (m := 1099511627776) (by omega)
  have h2 := octN_r (b := b) (by omega) l1 (m := 954368) (by omega)
  have h3 := octN_r (b := b) (by omega) l2 (m := 60) (by omega)
  have h1' : octets_Reader_Number ⟨b, 0, 0⟩ 1099511627776 = some (((fhd b).1 : Int), (fhd b).2.o b) := h1
  have h2' : octets_Reader_Number ((fhd b).2.o b) 954368 = some (((fby b).1 : Int), (fby b).2.o b) := h2
  have h3' : octets_Reader_Number ((fby b).2.o b) 60 = some (((fcn b).1 : Int), (fcn b).2.o b) := h3
  have hg := get_l hb (b.length + 1) (fcn b).2 ⟨(fhd b).1, (fby b).1, (fcn b).1, []⟩ (fun _ => by omega) l3 (by simp; omega)
  have hg' : region_Get_l0 b (⟨(fhd b).1, (fby b).1, (fcn b).1, []⟩, (fcn b).2.o b) = some (fox b, (fds b).2.o b) := by
    rw [hg]; simp [fox, fds]
  unfold region_Get fgE
  rw [read_eq (by omega)]
  have hA : octets_Reader_At ((fds b).2.o b) = some ((fds b).2.a : Int) := by simp only [octets_Reader_At, o_at, lt_eq]
  have hC : octets_Reader_Code ((fds b).2.o b) = some (fds b).2.e := by simp only [octets_Reader_Code, o_code, lt_eq]
  simp only [Option.bind_some, lt_eq, h1', h2', h3', hg', hC, hA]
  by_cases he : (fds b).2.e = 0
  · rw [if_pos he, if_neg (by simp [he])]
    have hdl : (fox b).Dead.length ≤ 1000000 := by simp only [fox, List.length_map]; omega
    obtain ⟨e, c1, c2, c3⟩ := check_eq14 (fox b) hdl
    simp only [c1, Option.bind_some, c3]
    by_cases hk : fkE (fox b) = 0
    · rw [if_pos hk, if_neg (by simp [hk])]
      exact ⟨_, rfl, rfl, rfl⟩
    · rw [if_neg hk, if_pos (by simp [hk]), wrap_eq _ _ _ (by rw [c3]; simpa using hk)]
      refine ⟨_, rfl, by simp only [codeOf, c2, if_true], ?_⟩
      simp [Err.isNil, hk]
  · rw [if_neg he, if_pos (by simpa using he), new_eq _ _ _ he]
    refine ⟨_, rfl, by simp [codeOf, he], ?_⟩
    simp [Err.isNil, he]
theorem gd_is {b : List (BitVec 8)} : ∀ {l : List Nat} {k a : Nat}, (∀ n ∈ l, n ≤ 60) → b.length < k + a → a ≤ b.length → b.drop a = l.flatMap num7 → gd b k ⟨a, 0⟩ = (l, ⟨b.length, 0⟩)
  | [], k, a, hl, hk, ha, h => by
    have h5 := congrArg List.length h
    simp at h5
    have hab : a = b.length := by omega
    subst hab
    cases k with
    | zero => rfl
    | succ k => rw [gd, if_neg (by simp)]
  | n :: l, k, a, hl, hk, ha, h => by
    rw [List.flatMap_cons] at h
    have hn := hl n List.mem_cons_self
    have hr := rN_is (b := b) (l := l.flatMap num7) (r := ⟨a, 0⟩) (m := 60) rfl h hn (by omega)
    have h5 := congrArg List.length h
    have hp : 1 ≤ (num7 n).length := by
      rw [num7]; simp
    simp only [List.length_drop, List.length_append] at h5
    obtain ⟨k, rfl⟩ : ∃ j, k = j + 1 := ⟨k - 1, by omega⟩
    have ih := gd_is (b := b) (l := l) (k := k) (a := a + (num7 n).length) (fun m hm => hl m (List.mem_cons_of_mem _ hm)) (by omega) (by omega) (drop_app h)
    rw [gd, if_pos ⟨rfl, by show a < b.length; omega⟩, hr, ih]
theorem gd_one {b : List (BitVec 8)} : ∀ {k : Nat} {r : rdr}, (r.e = 0 → b.length < k + r.a) → r.a ≤ b.length → (gd b k r).2.e = 0 → r.e = 0 ∧ b.drop r.a = (gd b k r).1.flatMap num7 ∧ ∀ n ∈ (gd b k r).1, n ≤ 60
  | k, r, h1, h2, h => by
    by_cases hg : r.e = 0 ∧ r.a < b.length
    · obtain ⟨k, rfl⟩ : ∃ j, k = j + 1 := ⟨k - 1, by have := h1 hg.1; omega⟩
      rw [gd, if_pos hg] at h ⊢
      have hn := rN_le h2 60
      have h3 : (rN b r 60).2.e = 0 := by
        by_cases h3 : (rN b r 60).2.e = 0
        · exact h3
        · simp only [gd_off h3 k] at h; exact absurd h h3
      obtain ⟨o1, o2⟩ := rN_one (b := b) (r := r) (m := 60) (by omega) h3
      obtain ⟨i1, i2, i3⟩ := gd_one (k := k) (r := (rN b r 60).2) (fun _ => by have := h1 hg.1; omega) hn.1 h
      refine ⟨hg.1, by rw [o1, i2, List.flatMap_cons], fun n hn2 => ?_⟩
      rcases List.mem_cons.1 hn2 with rfl | hn2
      · exact hn.2.2
      · exact i3 n hn2
    · have hgd : gd b k r = ([], r) := by
        cases k with
        | zero => rfl
        | succ k => rw [gd, if_neg hg]
      rw [hgd] at h ⊢
      have h : r.e = 0 := h
      refine ⟨h, ?_, fun n hn => by cases hn⟩
      have : ¬ r.a < b.length := fun h5 => hg ⟨h, h5⟩
      rw [List.drop_of_length_le (by omega)]; rfl
/-- A foot is read as it was. -/
theorem fg_ft {x : api_Foot} (h : fkE x = 0) : fgE (ftE x) = (x, 0) := by
  obtain ⟨h1, h2, h3, h4, h5, h6, h7⟩ := fk_ok h
  obtain ⟨d1, d2⟩ := fk_dead h
  have e1 : fhd (ftE x) = (x.Seq.toNat, ⟨(num7 x.Seq.toNat).length, 0⟩) := by
    have := rN_is (b := ftE x) (l := num7 x.Bytes.toNat ++ (num7 x.Count.toNat ++ x.Dead.flatMap fun n => num7 n.toNat)) (r := ⟨0, 0⟩) (m := 1099511627776) (n := x.Seq.toNat) rfl (by simp [ftE]) (by omega) (by omega)
    rw [fhd, this]; simp
  have p1 : (ftE x).drop (num7 x.Seq.toNat).length = num7 x.Bytes.toNat ++ (num7 x.Count.toNat ++ x.Dead.flatMap fun n => num7 n.toNat) := by
    unfold ftE; exact List.drop_left
  have e2 : fby (ftE x) = (x.Bytes.toNat, ⟨(num7 x.Seq.toNat).length + (num7 x.Bytes.toNat).length, 0⟩) := by
    rw [fby, e1]
    exact rN_is rfl p1 (by omega) (by omega)
  have p2 := drop_app p1
  have e3 : fcn (ftE x) = (x.Count.toNat, ⟨(num7 x.Seq.toNat).length + (num7 x.Bytes.toNat).length + (num7 x.Count.toNat).length, 0⟩) := by
    rw [fcn, e2]
    exact rN_is rfl p2 (by omega) (by omega)
  have p3 := drop_app p2
  have hmap : (x.Dead.flatMap fun n => num7 n.toNat) = (x.Dead.map Int.toNat).flatMap num7 := by rw [List.flatMap_map]
  have hle : (num7 x.Seq.toNat).length + (num7 x.Bytes.toNat).length + (num7 x.Count.toNat).length ≤ (ftE x).length := by simp [ftE]; omega
  have e4 : fds (ftE x) = (x.Dead.map Int.toNat, ⟨(ftE x).length, 0⟩) := by
    rw [fds, e3]
    refine gd_is (fun n hn => ?_) (by omega) hle (by rw [p3, hmap])
    obtain ⟨m, hm, rfl⟩ := List.mem_map.1 hn
    have := d2 m hm
    omega
  have hx : fox (ftE x) = x := by
    unfold fox
    rw [e1, e2, e3, e4]
    have hd : (x.Dead.map Int.toNat).map (fun n : Nat => (n : Int)) = x.Dead := by
      rw [List.map_map]
      conv => rhs; rw [← List.map_id x.Dead]
      apply List.map_congr_left
      intro n hn
      have := d2 n hn
      simp; omega
    obtain ⟨s, y, c, d⟩ := x
    simp only at hd h1 h3 h5 ⊢
    rw [hd, Int.toNat_of_nonneg (by omega), Int.toNat_of_nonneg h3, Int.toNat_of_nonneg h5]
  unfold fgE
  rw [if_pos (by rw [e4]), hx, if_pos h]
/-- Bytes that are read are those of the foot. -/
theorem ft_fg {b : List (BitVec 8)} (h : (fgE b).2 = 0) : fkE (fgE b).1 = 0 ∧ ftE (fgE b).1 = b := by
  unfold fgE at h ⊢
  split at h
  · rename_i he
    rw [if_pos he]
    split at h
    · rename_i hk
      rw [if_pos hk]
      refine ⟨hk, ?_⟩
      obtain ⟨l1, l2, l3, l4, l5⟩ := f_le b
      obtain ⟨g1, g2, g3⟩ := gd_one (b := b) (k := b.length + 1) (r := (fcn b).2) (fun _ => by omega) l3 he
      have g1' : (rN b (fby b).2 60).2.e = 0 := g1
      have k3 := rN_one (b := b) (by omega) g1'
      have k2' : (rN b (fhd b).2 954368).2.e = 0 := rN_off g1'
      have k2 := rN_one (b := b) (by omega) k2'
      have k1' : (rN b ⟨0, 0⟩ 1099511627776).2.e = 0 := rN_off k2'
      have k1 := rN_one (b := b) (by omega) k1'
      unfold ftE fox
      simp only [Int.toNat_natCast]
      have hmap : ((fds b).1.map fun n : Nat => (n : Int)).flatMap (fun n => num7 n.toNat) = (fds b).1.flatMap num7 := by
        rw [List.flatMap_map]
        simp
      rw [hmap]
      have q1 : b = num7 (fhd b).1 ++ b.drop (fhd b).2.a := by simpa [fhd] using k1.1
      have q2 : b.drop (fhd b).2.a = num7 (fby b).1 ++ b.drop (fby b).2.a := k2.1
      have q3 : b.drop (fby b).2.a = num7 (fcn b).1 ++ b.drop (fcn b).2.a := k3.1
      have q4 : b.drop (fcn b).2.a = (fds b).1.flatMap num7 := g2
      rw [← q4, ← q3, ← q2, ← q1]
    · rename_i hk; exact absurd h hk
  · rename_i he; exact absurd h he
end Go.Proofs.YtkmlinaofbcbaaaDoor
namespace Go.Proofs.YtkmlinaofbcbaaaDoor
open Go Go.Va
set_option linter.unusedVariables false
set_option linter.unusedSimpArgs false
set_option maxRecDepth 20000
noncomputable def butteryref07_fold (x0 : BitVec 64) : Option ((BitVec 64)) :=
  lt (x0 / 8589934592#64) fun v2 =>
  lt (x0 ^^^ v2) fun v4 =>
  some v4
end Go.Proofs.YtkmlinaofbcbaaaDoor
namespace Go.Proofs.YtkmlinaofbcbaaaDoor
open Go Go.Va
set_option linter.unusedVariables false
set_option linter.unusedSimpArgs false
set_option maxRecDepth 20000
noncomputable def butteryref07_Mix (x0 : BitVec 64) : Option ((BitVec 64)) :=
  (butteryref07_fold x0).bind fun v2 =>
  lt (v2 * 18397679294719823053#64) fun v4 =>
  (butteryref07_fold v4).bind fun v6 =>
  lt (v6 * 14181476777654086739#64) fun v8 =>
  (butteryref07_fold v8).bind fun v10 =>
  some v10
end Go.Proofs.YtkmlinaofbcbaaaDoor
namespace Go.Proofs.YtkmlinaofbcbaaaDoor
open Go Go.Va
set_option linter.unusedVariables false
set_option linter.unusedSimpArgs false
set_option maxRecDepth 20000
noncomputable def butteryref07_Hash_b0 (x0 : List (BitVec 8)) (c1 : BitVec 64) (c2 : Int) : Option (((BitVec 64) × Int) ⊕ ((BitVec 64))) :=
  lt (((x0).length : Int)) fun v13 =>
  lt (decide (c2 < v13)) fun v15 =>
  if v15 = true then
    (ix x0 c2).bind fun v18 =>
    lt (BitVec.setWidth 64 v18) fun v20 =>
    lt (c1 ^^^ v20) fun v22 =>
    lt (v22 * 1099511628211#64) fun v24 =>
    lt (w64 (c2 + (1 : Int))) fun v26 =>
    some (.inl (v24, v26))
  else
    some (.inr c1)
noncomputable def butteryref07_Hash_l0 (x0 : List (BitVec 8)) (s : (BitVec 64) × Int) : Option ((BitVec 64)) := loopO (fun s => butteryref07_Hash_b0 x0 s.1 s.2) s
noncomputable def butteryref07_Hash (x0 : List (BitVec 8)) : Option ((BitVec 64)) :=
  (butteryref07_Hash_l0 x0 (14695981039346656037#64, (0 : Int))).bind fun s10 =>
    (butteryref07_Mix s10).bind fun v29 =>
    some v29
end Go.Proofs.YtkmlinaofbcbaaaDoor
namespace Go.Proofs.YtkmlinaofbcbaaaDoor
open Go Go.Va
set_option linter.unusedVariables false
set_option linter.unusedSimpArgs false
set_option maxRecDepth 20000
noncomputable def bloom_bits (x0 : BitVec 64) : Option ((List Int)) :=
  lt (x0 &&& 127#64) fun v4 =>
  lt (BitVec.toInt v4) fun v6 =>
  lt (x0 >>> 21) fun v8 =>
  lt (v8 &&& 127#64) fun v10 =>
  lt (BitVec.toInt v10) fun v12 =>
  lt (x0 >>> 42) fun v14 =>
  lt (v14 &&& 127#64) fun v16 =>
  lt (BitVec.toInt v16) fun v18 =>
  lt (([v6, v12, v18] : List Int)) fun v20 =>
  (stW 3 (List.replicate 3 (0 : Int)) v20).bind fun c22 =>
  (whole 3 c22).bind fun w24 =>
  some w24
end Go.Proofs.YtkmlinaofbcbaaaDoor
namespace Go.Proofs.YtkmlinaofbcbaaaDoor
open Go Go.Va
set_option linter.unusedVariables false
set_option linter.unusedSimpArgs false
set_option maxRecDepth 20000
noncomputable def bloom_Filter_May_b0 (x0 : List (BitVec 64)) (v2 : List Int) (c3 : Int) : Option ((Int) ⊕ (Unit ⊕ (Bool))) :=
  lt (decide (c3 < (3 : Int))) fun v14 =>
  if v14 = true then
    (ixA 3 v2 c3).bind fun v17 =>
    lt (shr64 v17 6) fun v19 =>
    (ixA 2 x0 v19).bind fun v21 =>
    lt (and64 v17 (63 : Int)) fun v23 =>
    ((sc v23).map fun m => v21 >>> m).bind fun v25 =>
    lt (v25 &&& 1#64) fun v27 =>
    lt (v27 == 0#64) fun v29 =>
    if v29 = true then
      some (.inr (.inr false))
    else
      lt (w64 (c3 + (1 : Int))) fun v33 =>
      some (.inl v33)
  else
    some (.inr (.inl ()))
noncomputable def bloom_Filter_May_l0 (x0 : List (BitVec 64)) (v2 : List Int) (s : Int) : Option (Unit ⊕ (Bool)) := loopO (fun s => bloom_Filter_May_b0 x0 v2 s) s
noncomputable def bloom_Filter_May (x0 : List (BitVec 64)) (x1 : BitVec 64) : Option (Bool) :=
  (bloom_bits x1).bind fun v2 =>
  (bloom_Filter_May_l0 x0 v2 (0 : Int)).bind fun o4 =>
    Sum.elim (fun s11 : Unit =>
      some true
      ) (fun y => some y) o4
end Go.Proofs.YtkmlinaofbcbaaaDoor
namespace Go.Proofs.YtkmlinaofbcbaaaDoor
open Go Go.Va
set_option linter.unusedVariables false
set_option linter.unusedSimpArgs false
set_option maxRecDepth 20000
noncomputable def bloom_Filter_Add_b0 (v6 : List Int) (c7 : Int) (c8 : List (BitVec 64)) : Option ((Int × (List (BitVec 64))) ⊕ ((List (BitVec 64)))) :=
  lt (decide (c7 < (3 : Int))) fun v19 =>
  if v19 = true then
    (ixA 3 v6 c7).bind fun v22 =>
    lt (shr64 v22 6) fun v24 =>
    (chk 2 v24).bind fun v26 =>
    (ixA 2 c8 v24).bind fun v28 =>
    lt (and64 v22 (63 : Int)) fun v30 =>
    ((sc v30).map fun m => 1#64 <<< m).bind fun v32 =>
    lt (v28 ||| v32) fun v34 =>
    (chk 2 v24).bind fun v36 =>
    (updA 2 c8 v24 (fun _ => v34)).bind fun c38 =>
    lt (w64 (c7 + (1 : Int))) fun v41 =>
    some (.inl (v41, c38))
  else
    some (.inr c8)
noncomputable def bloom_Filter_Add_l0 (v6 : List Int) (s : Int × (List (BitVec 64))) : Option ((List (BitVec 64))) := loopO (fun s => bloom_Filter_Add_b0 v6 s.1 s.2) s
noncomputable def bloom_Filter_Add (x0 : List (BitVec 64)) (x1 : BitVec 64) : Option ((List (BitVec 64))) :=
  (bloom_bits x1).bind fun v6 =>
  (bloom_Filter_Add_l0 v6 ((0 : Int), x0)).bind fun s16 =>
    (whole 2 s16).bind fun v44 =>
    (stW 2 (List.replicate 2 0#64) v44).bind fun c46 =>
    (whole 2 c46).bind fun w48 =>
    some w48
end Go.Proofs.YtkmlinaofbcbaaaDoor
namespace Go.Proofs.YtkmlinaofbcbaaaDoor
open Go Go.Va
set_option linter.unusedVariables false
set_option linter.unusedSimpArgs false
set_option maxRecDepth 20000
noncomputable def bloom_Of_b0 (x0 : List (List (BitVec 8))) (v6 : Int) (c7 : Int) (c8 : List (BitVec 64)) : Option ((Int × (List (BitVec 64))) ⊕ ((List (BitVec 64)))) :=
  lt (decide (c7 < v6)) fun v19 =>
  if v19 = true then
    (ix x0 c7).bind fun v22 =>
    (whole 2 c8).bind fun v24 =>
    (bloom_Hash v22).bind fun v26 =>
    (bloom_Filter_Add v24 v26).bind fun v28 =>
    (stW 2 c8 v28).bind fun c30 =>
    lt (w64 (c7 + (1 : Int))) fun v33 =>
    some (.inl (v33, c30))
  else
    some (.inr c8)
noncomputable def bloom_Of_l0 (x0 : List (List (BitVec 8))) (v6 : Int) (s : Int × (List (BitVec 64))) : Option ((List (BitVec 64))) := loopO (fun s => bloom_Of_b0 x0 v6 s.1 s.2) s
noncomputable def bloom_Of (x0 : List (List (BitVec 8))) : Option ((List (BitVec 64))) :=
  lt (((x0).length : Int)) fun v6 =>
  (bloom_Of_l0 x0 v6 ((0 : Int), (List.replicate 2 0#64))).bind fun s16 =>
    (whole 2 s16).bind fun v36 =>
    (stW 2 (List.replicate 2 0#64) v36).bind fun c38 =>
    (whole 2 c38).bind fun w40 =>
    some w40
end Go.Proofs.YtkmlinaofbcbaaaDoor
namespace Go.Proofs.YtkmlinaofbcbaaaDoor
open Go Go.Va
set_option linter.unusedVariables false
set_option linter.unusedSimpArgs false
def fold (h : BitVec 64) : BitVec 64 := h ^^^ (h >>> 33)
def mix0 (h : BitVec 64) : BitVec 64 := fold (fold (fold h * 18397679294719823053#64) * 14181476777654086739#64)
/-- A name that nothing looks behind (a great product would be unfolded number by number). -/
theorem mix_ex : ∃ f : BitVec 64 → BitVec 64, ∀ h, f h = mix0 h := ⟨mix0, fun _ => rfl⟩
noncomputable def mix : BitVec 64 → BitVec 64 := Classical.choose mix_ex
theorem mix_def (h : BitVec 64) : mix h = mix0 h := Classical.choose_spec mix_ex h
theorem bloom_Mix_eq (h : BitVec 64) : bloom_Mix h = some (mix h) := by rw [mix_def]; simp only [bloom_Mix, lt_eq, mix0, fold]
theorem div33 (h : BitVec 64) : h / 8589934592#64 = h >>> 33 := by
  apply BitVec.eq_of_toNat_eq
  simp [Nat.shiftRight_eq_div_pow]
theorem fold_eq (h : BitVec 64) : butteryref07_fold h = some (fold h) := by simp only [butteryref07_fold, lt_eq, div33, fold]
theorem refMix_eq (h : BitVec 64) : butteryref07_Mix h = some (mix h) := by rw [mix_def]; simp only [butteryref07_Mix, lt_eq, fold_eq, Option.bind_some, mix0]
theorem fold_fold (h : BitVec 64) : fold (fold h) = h := by
  apply BitVec.eq_of_getLsbD_eq
  intro i hi
  simp only [fold, BitVec.getLsbD_xor, BitVec.getLsbD_ushiftRight]
  have : h.getLsbD (33 + (33 + i)) = false := BitVec.getLsbD_of_ge _ _ (by omega)
  rw [this]
  cases h.getLsbD i <;> cases h.getLsbD (33 + i) <;> rfl
theorem mul1 (h : BitVec 64) : h * 18397679294719823053#64 * 5725274745694666757#64 = h := by
  rw [BitVec.mul_assoc, show 18397679294719823053#64 * 5725274745694666757#64 = 1#64 by decide, BitVec.mul_one]
theorem mul2 (h : BitVec 64) : h * 14181476777654086739#64 * 11291846944257947611#64 = h := by
  rw [BitVec.mul_assoc, show 14181476777654086739#64 * 11291846944257947611#64 = 1#64 by decide, BitVec.mul_one]
def unmix (h : BitVec 64) : BitVec 64 := fold (fold (fold h * 11291846944257947611#64) * 5725274745694666757#64)
theorem unmix_mix (h : BitVec 64) : unmix (mix h) = h := by rw [mix_def]; simp only [unmix, mix0, fold_fold, mul1, mul2]
theorem mix_inj (a b : BitVec 64) : (mix a == mix b) = (a == b) := by
  rw [Bool.eq_iff_iff]
  simp only [beq_iff_eq]
  exact ⟨fun h => by rw [← unmix_mix a, h, unmix_mix], fun h => by rw [h]⟩

def stir (h : BitVec 64) (c : BitVec 8) : BitVec 64 := (h ^^^ c.setWidth 64) * 1099511628211#64
def hash0 (k : List (BitVec 8)) : BitVec 64 := mix0 (k.foldl stir 14695981039346656037#64)
theorem hash_ex : ∃ f : List (BitVec 8) → BitVec 64, ∀ h, f h = hash0 h := ⟨hash0, fun _ => rfl⟩
noncomputable def hash : List (BitVec 8) → BitVec 64 := Classical.choose hash_ex
theorem hash_def (h : List (BitVec 8)) : hash h = hash0 h := Classical.choose_spec hash_ex h
theorem bloom_Hash_eq (k : List (BitVec 8)) (hk : k.length ≤ 1000000) : bloom_Hash k = some (hash k) := by
  have h := loopO_foldl k stir id (body := fun s => bloom_Hash_b0 k k.length s.1 s.2) (fun s i hi => by
    simp only [bloom_Hash_b0, lt_eq, ix_nat hi, Option.bind_some, w64_nat (show i < 9223372036854775807 by omega)]
    rw [if_pos (by simpa using hi)]; rfl) (fun s => by simp [bloom_Hash_b0, lt_eq]) 14695981039346656037#64
  simp only [bloom_Hash, lt_eq, bloom_Hash_l0, h, Option.bind_some, bloom_Mix_eq, hash_def, hash0, mix_def, id]
theorem refHash_eq (k : List (BitVec 8)) (hk : k.length ≤ 1000000) : butteryref07_Hash k = some (hash k) := by
  have h := loopO_foldl k stir id (body := fun s => butteryref07_Hash_b0 k s.1 s.2) (fun s i hi => by
    simp only [butteryref07_Hash_b0, lt_eq, ix_nat hi, Option.bind_some, w64_nat (show i < 9223372036854775807 by omega)]
    rw [if_pos (by simpa using hi)]; rfl) (fun s => by simp [butteryref07_Hash_b0, lt_eq]) 14695981039346656037#64
  simp only [butteryref07_Hash, lt_eq, butteryref07_Hash_l0, h, Option.bind_some, refMix_eq, hash_def, hash0, mix_def, id]

/-! ### filters -/
def plc (h : BitVec 64) : List (BitVec 64) := [h &&& 127#64, (h >>> 21) &&& 127#64, (h >>> 42) &&& 127#64]
theorem toInt127 (h : BitVec 64) : (h &&& 127#64).toInt = ((h &&& 127#64).toNat : Int) := by
  have : (h &&& 127#64).toNat ≤ 127 := by rw [BitVec.toNat_and]; exact Nat.and_le_right
  rw [BitVec.toInt_eq_toNat_of_lt (by omega)]
def plN (h : BitVec 64) : List Nat := (plc h).map (·.toNat)
def plI (h : BitVec 64) : List Int := (plN h).map (fun n : Nat => (n : Int))
theorem plN_lt (h : BitVec 64) : ∀ n ∈ plN h, n < 128 := by
  have key : ∀ x : BitVec 64, (x &&& 127#64).toNat < 128 := fun x => by
    have : (x &&& 127#64).toNat ≤ 127 := by rw [BitVec.toNat_and]; exact Nat.and_le_right
    omega
  simp only [plN, plc, List.map_cons, List.map_nil, List.mem_cons, List.not_mem_nil, or_false]
  rintro n (rfl | rfl | rfl) <;> exact key _
theorem bits_eq (h : BitVec 64) : bloom_bits h = some (plI h) := by
  simp only [bloom_bits, lt_eq, toInt127]
  rw [stW_eq (by simp) (by simp), Option.bind_some, whole_eq (by simp)]; rfl
theorem shr6 {n : Nat} (h : n < 128) : shr64 (n : Int) 6 = ((n / 64 : Nat) : Int) := by
  unfold shr64
  rw [Int.fdiv_eq_ediv_of_nonneg _ (by decide)]
  show (n : Int) / 64 = _
  omega
theorem and63 {n : Nat} (h : n < 128) : and64 (n : Int) 63 = ((n % 64 : Nat) : Int) := by
  have : ∀ m : Fin 128, and64 (m.val : Int) 63 = ((m.val % 64 : Nat) : Int) := by decide
  exact this ⟨n, h⟩
/-- A filter with a place more; whether a place is set. -/
def putN (f : List (BitVec 64)) (n : Nat) : List (BitVec 64) := f.set (n / 64) (f.getD (n / 64) 0 ||| (1#64 <<< (n % 64)))
def hasN (f : List (BitVec 64)) (n : Nat) : Bool := !((f.getD (n / 64) 0 >>> (n % 64)) &&& 1#64 == 0#64)
def addF (f : List (BitVec 64)) (h : BitVec 64) : List (BitVec 64) := (plN h).foldl putN f
def mayF (f : List (BitVec 64)) (h : BitVec 64) : Bool := (plN h).all (hasN f)
noncomputable def ofF (l : List (List (BitVec 8))) : List (BitVec 64) := l.foldl (fun f k => addF f (hash k)) [0#64, 0#64]
def bothF (f g : List (BitVec 64)) : List (BitVec 64) := [f.getD 0 0 ||| g.getD 0 0, f.getD 1 0 ||| g.getD 1 0]
theorem putN_len (f : List (BitVec 64)) (n : Nat) : (putN f n).length = f.length := by simp [putN]
theorem addF_len {f : List (BitVec 64)} (hf : f.length = 2) (h : BitVec 64) : (addF f h).length = 2 :=
  map_len_foldl (fun f : List (BitVec 64) => f.length = 2) putN (fun s a hs => by rw [putN_len]; exact hs) _ _ hf
theorem ofF_len (l : List (List (BitVec 8))) : (ofF l).length = 2 := map_len_foldl (fun f : List (BitVec 64) => f.length = 2) _ (fun s a hs => addF_len hs _) _ _ rfl
theorem ixF {f : List (BitVec 64)} (hf : f.length = 2) {n : Nat} (h : n < 128) : ixA 2 f ((n / 64 : Nat) : Int) = some (f.getD (n / 64) 0) := by
  rw [ixA_nat (by omega) (by omega), List.getD_eq_getElem?_getD, List.getElem?_eq_getElem (by omega)]; rfl
theorem May_eq {f : List (BitVec 64)} (hf : f.length = 2) (h : BitVec 64) : bloom_Filter_May f h = some (mayF f h) := by
  have hl : (plI h).length = 3 := rfl
  have hb : ∀ i : Nat, i < 3 → bloom_Filter_May_b0 f (plI h) (i : Int) = some (nx (if hasN f ((plN h).getD i 0) then none else some (Sum.inr false : Unit ⊕ Bool)) ((i + 1 : Nat) : Int)) := fun i hi => by
    have hn : (plN h).getD i 0 < 128 := by
      rw [List.getD_eq_getElem?_getD, List.getElem?_eq_getElem (show i < (plN h).length from hi)]
      exact plN_lt h _ (List.getElem_mem _)
    have hx : ixA 3 (plI h) (i : Int) = some (((plN h).getD i 0 : Nat) : Int) := by
      rw [ixA_nat hi (by rw [hl]; exact hi)]
      simp only [plI, List.getElem_map, List.getD_eq_getElem?_getD, List.getElem?_eq_getElem (show i < (plN h).length from hi), Option.getD_some]
    simp only [bloom_Filter_May_b0, lt_eq]
    rw [if_pos (by simpa using (by omega : (i : Int) < 3)), hx, Option.bind_some, shr6 hn, ixF hf hn, Option.bind_some, and63 hn, sc_eq (by omega), Option.map_some, Option.bind_some, w64_nat (by omega)]
    simp only [hasN, Int.toNat_natCast]
    by_cases hc : (f.getD ((plN h).getD i 0 / 64) 0 >>> ((plN h).getD i 0 % 64) &&& 1#64 == 0#64) = true
    · simp only [hc, if_true, Bool.not_true, Bool.false_eq_true, if_false, nx]
    · simp only [hc, if_false, Bool.not_eq_true _ ▸ hc]; simp [nx]
  have := loopO_find (body := bloom_Filter_May_b0 f (plI h)) (fun i => (i : Int)) 3 _ hb (x := .inl ()) (by simp [bloom_Filter_May_b0, lt_eq])
  simp only [bloom_Filter_May, bits_eq, Option.bind_some, bloom_Filter_May_l0]
  have e0 : (0 : Int) = ((0 : Nat) : Int) := rfl
  rw [e0, this]
  simp only [Option.bind_some, mayF]
  rw [show plN h = [(plN h).getD 0 0, (plN h).getD 1 0, (plN h).getD 2 0] from rfl]
  simp only [show List.range 3 = [0, 1, 2] from rfl, List.findSome?_cons, List.findSome?_nil, List.all_cons, List.all_nil, List.getD_cons_zero, List.getD_cons_succ]
  cases hasN f ((plN h).getD 0 0) <;> cases hasN f ((plN h).getD 1 0) <;> cases hasN f ((plN h).getD 2 0) <;> rfl
theorem Add_eq {f : List (BitVec 64)} (hf : f.length = 2) (h : BitVec 64) : bloom_Filter_Add f h = some (addF f h) := by
  have hl : (plI h).length = 3 := rfl
  have hb : ∀ i : Nat, i < 3 → ∀ s : List (BitVec 64), s.length = 2 → bloom_Filter_Add_b0 (plI h) (i : Int) s = some (.inl (((i + 1 : Nat) : Int), putN s ((plN h).getD i 0))) := fun i hi s hs => by
    have hn : (plN h).getD i 0 < 128 := by
      rw [List.getD_eq_getElem?_getD, List.getElem?_eq_getElem (show i < (plN h).length from hi)]
      exact plN_lt h _ (List.getElem_mem _)
    have hx : ixA 3 (plI h) (i : Int) = some (((plN h).getD i 0 : Nat) : Int) := by
      rw [ixA_nat hi (by rw [hl]; exact hi)]
      simp only [plI, List.getElem_map, List.getD_eq_getElem?_getD, List.getElem?_eq_getElem (show i < (plN h).length from hi), Option.getD_some]
    have hc : chk 2 (((plN h).getD i 0 / 64 : Nat) : Int) = some () := by unfold chk; rw [if_pos (by omega)]
    simp only [bloom_Filter_Add_b0, lt_eq]
    rw [if_pos (by simpa using (by omega : (i : Int) < 3)), hx, Option.bind_some, shr6 hn, hc, Option.bind_some, ixF hs hn, Option.bind_some, and63 hn, sc_eq (by omega), Option.map_some, Option.bind_some, w64_nat (by omega)]
    simp only [hc, Option.bind_some, updA, ixF hs hn, Option.map_some, Int.toNat_natCast, putN]
  have := loopO_up (body := fun s => bloom_Filter_Add_b0 (plI h) s.1 s.2) (fun i => ((i : Int), ((plN h).take i).foldl putN f)) 3 (x := addF f h) (fun i hi => by
    have hlen : (((plN h).take i).foldl putN f).length = 2 := map_len_foldl (fun f : List (BitVec 64) => f.length = 2) putN (fun s a hs => by rw [putN_len]; exact hs) _ _ hf
    simp only [hb i hi _ hlen]
    have hi' : i < (plN h).length := hi
    rw [List.take_succ_eq_append_getElem hi', List.foldl_append]
    simp [List.getD_eq_getElem?_getD, List.getElem?_eq_getElem hi']) (by
    simp only [bloom_Filter_Add_b0, lt_eq]
    rw [if_neg (by simp)]
    rfl)
  simp only [bloom_Filter_Add, bits_eq, Option.bind_some, bloom_Filter_Add_l0]
  have e0 : ((0 : Int), f) = ((((0 : Nat) : Int)), ((plN h).take 0).foldl putN f) := rfl
  rw [e0, this, Option.bind_some, whole_eq (addF_len hf h), Option.bind_some, stW_eq (by simp) (addF_len hf h), Option.bind_some, whole_eq (addF_len hf h), Option.bind_some]
theorem Of_eq (l : List (List (BitVec 8))) (hl : l.length ≤ 1000000) (hk : ∀ k ∈ l, k.length ≤ 1000000) : bloom_Of l = some (ofF l) := by
  have := loopO_up (body := fun s => bloom_Of_b0 l l.length s.1 s.2) (fun i => ((i : Int), (l.take i).foldl (fun f k => addF f (hash k)) [0#64, 0#64])) l.length (x := ofF l) (fun i hi => by
    have hlen := ofF_len (l.take i)
    simp only [ofF] at hlen
    simp only [bloom_Of_b0, lt_eq]
    rw [if_pos (by simpa using hi), ix_nat hi, Option.bind_some, whole_eq hlen, Option.bind_some, bloom_Hash_eq _ (hk _ (List.getElem_mem hi)), Option.bind_some, Add_eq hlen, Option.bind_some, stW_eq hlen (addF_len hlen _), Option.bind_some, w64_nat (by omega), List.take_succ_eq_append_getElem hi, List.foldl_append]
    rfl) (by
    simp only [bloom_Of_b0, lt_eq]
    rw [if_neg (by simp), List.take_length]; rfl)
  simp only [bloom_Of, lt_eq, bloom_Of_l0]
  have e0 : ((0 : Int), List.replicate 2 0#64) = ((((0 : Nat) : Int)), (l.take 0).foldl (fun f k => addF f (hash k)) [0#64, 0#64]) := rfl
  rw [e0, this, Option.bind_some, whole_eq (ofF_len l), Option.bind_some, stW_eq (by simp) (ofF_len l), Option.bind_some, whole_eq (ofF_len l), Option.bind_some]
end Go.Proofs.YtkmlinaofbcbaaaDoor
namespace Go.Proofs.YtkmlinaofbcbaaaDoor
open Go Go.Va
set_option linter.unusedVariables false
set_option linter.unusedSimpArgs false
set_option maxRecDepth 20000
noncomputable def butteryref14_Split_b0 (x0 : List (BitVec 8)) (c1 : List (List (BitVec 8))) (c2 : Int) : Option (((List (List (BitVec 8))) × Int) ⊕ ((List (List (BitVec 8))))) :=
  lt (((x0).length : Int)) fun v14 =>
  lt (decide (c2 < v14)) fun v16 =>
  if v16 = true then
    lt (w64 (c2 + (233 : Int))) fun v19 =>
    lt (((x0).length : Int)) fun v21 =>
    lt (decide (v19 > v21)) fun v23 =>
    (
      if v23 = true then
        lt (((x0).length : Int)) fun v30 =>
        some v30
      else
        some v19
     : Option (Int)).bind fun s24 =>
      (cutO x0 c2 s24).bind fun v33 =>
      lt (([v33] : List (List (BitVec 8)))) fun v35 =>
      (app 24 c1 v35).bind fun v37 =>
      lt (w64 (c2 + (233 : Int))) fun v41 =>
      some (.inl (v37, v41))
  else
    some (.inr c1)
noncomputable def butteryref14_Split_l0 (x0 : List (BitVec 8)) (s : (List (List (BitVec 8))) × Int) : Option ((List (List (BitVec 8)))) := loopO (fun s => butteryref14_Split_b0 x0 s.1 s.2) s
noncomputable def butteryref14_Split (x0 : List (BitVec 8)) : Option ((List (List (BitVec 8)))) :=
  (butteryref14_Split_l0 x0 ([], (0 : Int))).bind fun s11 =>
    some s11
end Go.Proofs.YtkmlinaofbcbaaaDoor
namespace Go.Proofs.YtkmlinaofbcbaaaDoor
open Go Go.Va
set_option linter.unusedVariables false
set_option linter.unusedSimpArgs false
set_option maxRecDepth 20000
noncomputable def butteryref14_Join_b0 (x0 : List (List (BitVec 8))) (c1 : List (BitVec 8)) (c2 : Int) : Option (((List (BitVec 8)) × Int) ⊕ ((List (BitVec 8)))) :=
  lt (((x0).length : Int)) fun v14 =>
  lt (decide (c2 < v14)) fun v16 =>
  if v16 = true then
    (ix x0 c2).bind fun v19 =>
    (app 1 c1 v19).bind fun v21 =>
    lt (w64 (c2 + (1 : Int))) fun v25 =>
    some (.inl (v21, v25))
  else
    some (.inr c1)
noncomputable def butteryref14_Join_l0 (x0 : List (List (BitVec 8))) (s : (List (BitVec 8)) × Int) : Option ((List (BitVec 8))) := loopO (fun s => butteryref14_Join_b0 x0 s.1 s.2) s
noncomputable def butteryref14_Join (x0 : List (List (BitVec 8))) : Option ((List (BitVec 8))) :=
  (butteryref14_Join_l0 x0 ([], (0 : Int))).bind fun s11 =>
    some s11
end Go.Proofs.YtkmlinaofbcbaaaDoor
namespace Go.Proofs.YtkmlinaofbcbaaaDoor
open Go Go.Va
set_option linter.unusedVariables false
set_option linter.unusedSimpArgs false
set_option maxRecDepth 20000
noncomputable def butteryref14_Whole (x0 : api_Foot) (x1 : List (List (BitVec 8))) : Option ((List api_Entry) × Int) :=
  (butteryref14_Join x1).bind fun v2 =>
  lt (((v2).length : Int)) fun v4 =>
  lt (v4 != x0.Bytes) fun v6 =>
  if v6 = true then
    some ([], (6 : Int))
  else
    (butteryref06_Read v2).bind fun v9 =>
    lt (v9.2 != (0 : Int)) fun v11 =>
    if v11 = true then
      some ([], v9.2)
    else
      lt (((v9.1).length : Int)) fun v14 =>
      lt (v14 != x0.Count) fun v16 =>
      if v16 = true then
        some ([], (5 : Int))
      else
        some (v9.1, (0 : Int))
end Go.Proofs.YtkmlinaofbcbaaaDoor
namespace Go.Proofs.YtkmlinaofbcbaaaDoor
open Go Go.Va
set_option linter.unusedVariables false
set_option linter.unusedSimpArgs false
set_option maxRecDepth 20000
noncomputable def butteryref14_Marks_b0 (x0 : List api_Entry) (c1 : List api_Mark) (c2 : Int) : Option (((List api_Mark) × Int) ⊕ ((List api_Mark))) :=
  lt (((x0).length : Int)) fun v14 =>
  lt (decide (c2 < v14)) fun v16 =>
  if v16 = true then
    (ix x0 c2).bind fun v19 =>
    (butteryref07_Hash v19.Key).bind fun v21 =>
    (cutTo x0 c2).bind fun v23 =>
    (butteryref06_All v23).bind fun v25 =>
    lt (((v25).length : Int)) fun v27 =>
    (ix x0 c2).bind fun v29 =>
    (butteryref06_Size v29).bind fun v31 =>
    lt ((⟨v21, v27, v31⟩ : api_Mark)) fun v33 =>
    lt (([v33] : List api_Mark)) fun v35 =>
    (app 24 c1 v35).bind fun v37 =>
    lt (w64 (c2 + (1 : Int))) fun v41 =>
    some (.inl (v37, v41))
  else
    some (.inr c1)
noncomputable def butteryref14_Marks_l0 (x0 : List api_Entry) (s : (List api_Mark) × Int) : Option ((List api_Mark)) := loopO (fun s => butteryref14_Marks_b0 x0 s.1 s.2) s
noncomputable def butteryref14_Marks (x0 : List api_Entry) : Option ((List api_Mark)) :=
  (butteryref14_Marks_l0 x0 ([], (0 : Int))).bind fun s11 =>
    some s11
end Go.Proofs.YtkmlinaofbcbaaaDoor
namespace Go.Proofs.YtkmlinaofbcbaaaDoor
open Go Go.Va
set_option linter.unusedVariables false
set_option linter.unusedSimpArgs false
/-- Pieces. -/
def sp (b : List (BitVec 8)) : Nat → Nat → List (List (BitVec 8))
  | 0, _ => []
  | k + 1, i => if i < b.length then ((b.take (min (i + 233) b.length)).drop i) :: sp b k (i + 233) else []
theorem sp_len {b : List (BitVec 8)} : ∀ (k i : Nat), (sp b k i).length ≤ k
  | 0, _ => Nat.le_refl _
  | k + 1, i => by
    rw [sp]
    split
    · have := sp_len (b := b) k (i + 233); simp only [List.length_cons]; omega
    · simp
theorem sp_join {b : List (BitVec 8)} : ∀ (k i : Nat), b.length ≤ k + i → (sp b k i).flatten = b.drop i
  | 0, i, h => by rw [List.drop_of_length_le (by omega)]; rfl
  | k + 1, i, h => by
    rw [sp]
    split
    · rename_i hi
      rw [List.flatten_cons, sp_join k (i + 233) (by omega), Nat.min_def]
      split
      · have := List.take_append_drop (i + 233) b
        conv => rhs; rw [← this]
        rw [List.drop_append_of_le_length (by rw [List.length_take]; omega)]
      · rw [List.take_of_length_le (Nat.le_refl _), List.drop_of_length_le (show b.length ≤ i + 233 by omega), List.append_nil]
    · rw [List.drop_of_length_le (by omega)]; rfl
theorem split_l {b : List (BitVec 8)} (hb : b.length ≤ 100000) : ∀ (k i : Nat) (acc : List (List (BitVec 8))), b.length ≤ k + i → acc.length + k ≤ 1000000 → i ≤ 1000000 → region_Split_l0 b (acc, (i : Int)) = some (acc ++ sp b k i) ∧ butteryref14_Split_l0 b (acc, (i : Int)) = some (acc ++ sp b k i)
  | 0, i, acc, h, h2, h3 => by
    rw [sp, List.append_nil]
    refine ⟨loopO_out (body := fun s => region_Split_b0 b s.1 s.2) ?_, loopO_out (body := fun s => butteryref14_Split_b0 b s.1 s.2) ?_⟩
    · simp only [region_Split_b0, lt_eq]
      rw [if_neg (by rw [decide_eq_false (by omega)]; simp)]
    · simp only [butteryref14_Split_b0, lt_eq]
      rw [if_neg (by rw [decide_eq_false (by omega)]; simp)]
  | k + 1, i, acc, h, h2, h3 => by
    rw [sp]
    by_cases hi : i < b.length
    · rw [if_pos hi]
      obtain ⟨i1, i2⟩ := split_l hb k (i + 233) (acc ++ [(b.take (min (i + 233) b.length)).drop i]) (by omega) (by simp; omega) (by omega)
      rw [List.append_assoc] at i1 i2
      have hw : w64 ((i : Int) + 233) = ((i + 233 : Nat) : Int) := by rw [w64_eq (by omega) (by omega)]; omega
      refine ⟨?_, ?_⟩
      · rw [← List.singleton_append, ← i1]
        refine loopO_in (body := fun s => region_Split_b0 b s.1 s.2) ?_
        simp only [region_Split_b0, lt_eq, hw]
        have hm : (if (b.length : Int) < ((i + 233 : Nat) : Int) then (b.length : Int) else ((i + 233 : Nat) : Int)) = ((min (i + 233) b.length : Nat) : Int) := by split <;> omega
        have hc : cut3 b (i : Int) ((min (i + 233) b.length : Nat) : Int) ((min (i + 233) b.length : Nat) : Int) = some ((b.take (min (i + 233) b.length)).drop i) := by
          unfold cut3; rw [if_pos (by omega)]; rfl
        rw [if_pos (decide_eq_true (by omega)), hm, hc]
        simp only [Option.bind_some]
        rw [app_eq (by simp; omega)]
        rfl
      · rw [← List.singleton_append, ← i2]
        refine loopO_in (body := fun s => butteryref14_Split_b0 b s.1 s.2) ?_
        simp only [butteryref14_Split_b0, lt_eq]
        rw [hw]
        have hm : (if decide (((i + 233 : Nat) : Int) > (b.length : Int)) = true then some (b.length : Int) else some ((i + 233 : Nat) : Int)) = some ((min (i + 233) b.length : Nat) : Int) := by
          by_cases hgt : ((i + 233 : Nat) : Int) > (b.length : Int)
          · rw [if_pos (decide_eq_true hgt)]; congr 1; omega
          · rw [if_neg (by simpa using hgt)]; congr 1; omega
        have hc : cutO b (i : Int) ((min (i + 233) b.length : Nat) : Int) = some ((b.take (min (i + 233) b.length)).drop i) := by
          unfold cutO; rw [if_pos (by omega)]; rfl
        rw [if_pos (decide_eq_true (by omega)), hm]
        simp only [Option.bind_some, hc]
        rw [app_eq (by simp; omega)]
        rfl
    · rw [if_neg hi, List.append_nil]
      refine ⟨loopO_out (body := fun s => region_Split_b0 b s.1 s.2) ?_, loopO_out (body := fun s => butteryref14_Split_b0 b s.1 s.2) ?_⟩
      · simp only [region_Split_b0, lt_eq]
        rw [if_neg (by rw [decide_eq_false (by omega)]; simp)]
      · simp only [butteryref14_Split_b0, lt_eq]
        rw [if_neg (by rw [decide_eq_false (by omega)]; simp)]
theorem split_eq {b : List (BitVec 8)} (hb : b.length ≤ 100000) : region_Split b = some (sp b b.length 0) := by
  have h := (split_l hb b.length 0 [] (by omega) (by simp; omega) (by omega)).1
  have h' : region_Split_l0 b ([], 0) = some ([] ++ sp b b.length 0) := h
  unfold region_Split
  simp only [h', Option.bind_some, List.nil_append]
theorem refSplit_eq {b : List (BitVec 8)} (hb : b.length ≤ 100000) : butteryref14_Split b = some (sp b b.length 0) := by
  have h := (split_l hb b.length 0 [] (by omega) (by simp; omega) (by omega)).2
  have h' : butteryref14_Split_l0 b ([], 0) = some ([] ++ sp b b.length 0) := h
  unfold butteryref14_Split
  simp only [h', Option.bind_some, List.nil_append]
theorem flat_take_len {p : List (List (BitVec 8))} (i : Nat) : (p.take i).flatten.length ≤ p.flatten.length := by
  have e : p.flatten = (p.take i).flatten ++ (p.drop i).flatten := by rw [← List.flatten_append, List.take_append_drop]
  rw [e, List.length_append]; omega
theorem flat_take_succ {p : List (List (BitVec 8))} {i : Nat} (hi : i < p.length) : (p.take (i + 1)).flatten = (p.take i).flatten ++ p[i] := by
  rw [List.take_add_one, List.getElem?_eq_getElem hi, List.flatten_append]; simp
theorem whole_l (x : api_Foot) {p : List (List (BitVec 8))} (hp : p.length ≤ 1000000) (hf : p.flatten.length ≤ 1000000) : region_Whole_l0 x p (p.length : Int) ([], 0) = some p.flatten := by
  have k := loopO_up (body := fun s => region_Whole_b0 x p (p.length : Int) s.1 s.2) (fun i : Nat => ((p.take i).flatten, (i : Int))) p.length (x := p.flatten) (fun i hi => by
    simp only [region_Whole_b0, lt_eq]
    have h1 := flat_take_len (p := p) i
    have h2 := flat_take_len (p := p) (i + 1)
    rw [flat_take_succ hi, List.length_append] at h2
    rw [if_pos (decide_eq_true (by omega)), ix_nat hi]
    simp only [Option.bind_some]
    rw [app_eq (by omega)]
    simp only [Option.bind_some]
    rw [w64_nat (by omega), flat_take_succ hi]) (by
    simp only [region_Whole_b0, lt_eq, List.take_length]
    rw [if_neg (by simp)])
  exact k
theorem take_l (f : Int) (m : api_Mark) {p : List (List (BitVec 8))} (hp : p.length ≤ 1000000) (hf : p.flatten.length ≤ 1000000) : region_Take_l0 p f m (p.length : Int) ([], 0) = some p.flatten := by
  have k := loopO_up (body := fun s => region_Take_b0 p f m (p.length : Int) s.1 s.2) (fun i : Nat => ((p.take i).flatten, (i : Int))) p.length (x := p.flatten) (fun i hi => by
    simp only [region_Take_b0, lt_eq]
    have h1 := flat_take_len (p := p) i
    have h2 := flat_take_len (p := p) (i + 1)
    rw [flat_take_succ hi, List.length_append] at h2
    rw [if_pos (decide_eq_true (by omega)), ix_nat hi]
    simp only [Option.bind_some]
    rw [app_eq (by omega)]
    simp only [Option.bind_some]
    rw [w64_nat (by omega), flat_take_succ hi]) (by
    simp only [region_Take_b0, lt_eq, List.take_length]
    rw [if_neg (by simp)])
  exact k
theorem join_eq {p : List (List (BitVec 8))} (hp : p.length ≤ 1000000) (hf : p.flatten.length ≤ 1000000) : butteryref14_Join p = some p.flatten := by
  have k := loopO_up (body := fun s => butteryref14_Join_b0 p s.1 s.2) (fun i : Nat => ((p.take i).flatten, (i : Int))) p.length (x := p.flatten) (fun i hi => by
    simp only [butteryref14_Join_b0, lt_eq]
    have h1 := flat_take_len (p := p) i
    have h2 := flat_take_len (p := p) (i + 1)
    rw [flat_take_succ hi, List.length_append] at h2
    rw [if_pos (decide_eq_true (by omega)), ix_nat hi]
    simp only [Option.bind_some]
    rw [app_eq (by omega)]
    simp only [Option.bind_some]
    rw [w64_nat (by omega), flat_take_succ hi]) (by
    simp only [butteryref14_Join_b0, lt_eq, List.take_length]
    rw [if_neg (by simp)])
  have k' : butteryref14_Join_l0 p ([], 0) = some p.flatten := k
  unfold butteryref14_Join
  simp only [k', Option.bind_some]
/-- Both read the same things, or tell the same fault. -/
theorem reads_both {b : List (BitVec 8)} (hb : b.length ≤ 900000) : ∃ r e c, item_Read b = some (r, e) ∧ butteryref06_Read b = some (r, c) ∧ codeOf e = c ∧ e.isNil = decide (c = 0) ∧ (c = 0 → rdE b (b.length + 1) 0 = .inl r) ∧ r.length ≤ 1000000 ∧ ∀ x ∈ r, x.Value.length < 9223372036854775807 := by
  cases hr : rdE b (b.length + 1) 0 with
  | inl r => exact ⟨r, .nil, 0, (read_eq6 hb).1 r hr, (refRead_eq6 hb).1 r hr, rfl, rfl, fun _ => rfl, by have := rdE_len hr; omega, fun x hx => by have := rdE_val (by omega) hr x hx; omega⟩
  | inr c =>
    obtain ⟨e, e1, e2, e3⟩ := (read_eq6 (b := b) hb).2 c hr
    have hc := rdE_ne hr
    exact ⟨[], e, c, e1, (refRead_eq6 hb).2 c hr, e2, by rw [e3]; simp [hc], fun h => absurd h hc, by simp, by simp⟩
theorem whole_both (x : api_Foot) {p : List (List (BitVec 8))} (hp : p.length ≤ 1000000) (hf : p.flatten.length ≤ 900000) : ∃ r e c, region_Whole x p = some (r, e) ∧ butteryref14_Whole x p = some (r, c) ∧ codeOf e = c ∧ e.isNil = decide (c = 0) ∧ r.length ≤ 1000000 ∧ (∀ x ∈ r, x.Value.length < 9223372036854775807) ∧ (∀ l, rdE p.flatten (p.flatten.length + 1) 0 = .inl l → (p.flatten.length : Int) = x.Bytes → (l.length : Int) = x.Count → r = l ∧ e = .nil) := by
  obtain ⟨r, e, c, r1, r2, r3, r4, r5, r6, r7⟩ := reads_both hf
  unfold region_Whole butteryref14_Whole
  simp only [lt_eq, whole_l x hp (by omega), join_eq hp (by omega), Option.bind_some]
  generalize p.flatten = F at *
  by_cases hb : (F.length : Int) = x.Bytes
  · have hb2 : ((F.length : Int) != x.Bytes) = false := by simpa using hb
    simp only [hb2, Bool.false_eq_true, if_false, r1, r2, Option.bind_some, r4]
    by_cases hc : c = 0
    · subst hc
      have hq : (!decide ((0 : Int) = 0)) = false := rfl
      have hq2 : ((0 : Int) != 0) = false := rfl
      simp only [hq, hq2, Bool.false_eq_true, if_false]
      by_cases hl : (r.length : Int) = x.Count
      · have hl2 : ((r.length : Int) != x.Count) = false := by simpa using hl
        simp only [hl2, Bool.false_eq_true, if_false]
        refine ⟨r, .nil, 0, rfl, rfl, rfl, rfl, r6, r7, fun l h1 _ _ => ?_⟩
        have := r5 rfl
        rw [h1] at this
        exact ⟨(Sum.inl.inj this).symm, rfl⟩
      · have hl2 : ((r.length : Int) != x.Count) = true := by simpa using hl
        simp only [hl2, if_true]
        rw [new_eq _ _ _ (by decide)]
        refine ⟨[], _, 5, rfl, rfl, rfl, rfl, by simp, by simp, fun l h1 _ h3 => ?_⟩
        have := r5 rfl
        rw [h1] at this
        obtain rfl := Sum.inl.inj this
        exact absurd h3 hl
    · have hq : (!decide (c = 0)) = true := by simpa using hc
      have hq2 : (c != 0) = true := by simpa using hc
      simp only [hq, hq2, if_true]
      rw [wrap_eq _ _ _ (by rw [r4]; simpa using hc)]
      refine ⟨[], _, c, rfl, rfl, by simp only [codeOf, r3, if_true], by simp [Err.isNil, hc], by simp, by simp, fun l h1 _ _ => ?_⟩
      have := (read_eq6 hf).1 l h1
      rw [r1] at this
      have h2 := (Prod.mk.inj (Option.some.inj this)).2
      rw [h2] at r3
      exact absurd r3.symm hc
  · have hb2 : ((F.length : Int) != x.Bytes) = true := by simpa using hb
    simp only [hb2, if_true]
    rw [new_eq _ _ _ (by decide)]
    exact ⟨[], _, 6, rfl, rfl, rfl, rfl, by simp, by simp, fun l _ h2 _ => absurd h2 hb⟩
/-! ### marks -/
noncomputable def mkM (l : List api_Entry) (i : Nat) : api_Mark := ⟨hash (l.getD i zeroE).Key, (((l.take i).flatMap encE).length : Nat), (encE (l.getD i zeroE)).length⟩
noncomputable def marksE (l : List api_Entry) (n : Nat) : List api_Mark := (List.range n).map (mkM l)
theorem marks_succ (l : List api_Entry) (i : Nat) : marksE l (i + 1) = marksE l i ++ [mkM l i] := by simp [marksE, List.range_succ]
theorem take_enc {l : List api_Entry} {i : Nat} (hi : i < l.length) : (l.take (i + 1)).flatMap encE = (l.take i).flatMap encE ++ encE l[i] := by
  rw [List.take_add_one, List.getElem?_eq_getElem hi, List.flatMap_append]; simp
theorem getD_e {l : List api_Entry} {i : Nat} (hi : i < l.length) : l.getD i zeroE = l[i] := by
  rw [List.getD_eq_getElem?_getD, List.getElem?_eq_getElem hi]; rfl
theorem marks_eq {l : List api_Entry} (hl : l.length ≤ 200) (h : ∀ x ∈ l, ckE x = 0) : region_Marks l = some (marksE l l.length) := by
  have k := loopO_up (body := fun s => region_Marks_b0 l (l.length : Int) s.1 s.2.1 s.2.2) (fun i : Nat => (marksE l i, ((((l.take i).flatMap encE).length : Nat) : Int), (i : Int))) l.length (x := marksE l l.length) (fun i hi => by
    have hc := h _ (List.getElem_mem hi)
    have hk := (ck_ok hc).2.1
    have hn := encE_len hc
    have ht := all_len (l := l.take i) (fun x hx => h x (List.mem_of_mem_take hx))
    rw [List.length_take] at ht
    simp only [region_Marks_b0, lt_eq]
    rw [if_pos (decide_eq_true (by omega)), ix_nat hi]
    simp only [Option.bind_some]
    rw [size_eq6 hc]
    simp only [Option.bind_some]
    rw [bloom_Hash_eq _ (by omega)]
    simp only [Option.bind_some]
    rw [app_eq (by simp [marksE]; omega)]
    simp only [Option.bind_some]
    rw [w64_nat (by omega), w64_eq (by omega) (by omega), marks_succ, take_enc hi, List.length_append, mkM, getD_e hi]
    simp) (by
    simp only [region_Marks_b0, lt_eq]
    rw [if_neg (by simp)])
  have k' : region_Marks_l0 l (l.length : Int) ([], 0, 0) = some (marksE l l.length) := by
    unfold region_Marks_l0
    simpa [marksE] using k
  unfold region_Marks
  simp only [lt_eq, k', Option.bind_some]
theorem refMarks_eq {l : List api_Entry} (hl : l.length ≤ 200) (h : ∀ x ∈ l, ckE x = 0) : butteryref14_Marks l = some (marksE l l.length) := by
  have k := loopO_up (body := fun s => butteryref14_Marks_b0 l s.1 s.2) (fun i : Nat => (marksE l i, (i : Int))) l.length (x := marksE l l.length) (fun i hi => by
    have hc := h _ (List.getElem_mem hi)
    have hk := (ck_ok hc).2.1
    simp only [butteryref14_Marks_b0, lt_eq]
    rw [if_pos (decide_eq_true (by omega)), ix_nat hi]
    simp only [Option.bind_some]
    rw [refHash_eq _ (by omega), cutTo_eq (by omega)]
    simp only [Option.bind_some]
    rw [refAll_eq6 (by rw [List.length_take]; omega) (fun x hx => h x (List.mem_of_mem_take hx))]
    simp only [Option.bind_some]
    rw [refSize_eq6 hc]
    simp only [Option.bind_some]
    rw [app_eq (by simp [marksE]; omega)]
    simp only [Option.bind_some]
    rw [w64_nat (by omega), marks_succ, mkM, getD_e hi]) (by
    simp only [butteryref14_Marks_b0, lt_eq]
    rw [if_neg (by simp)])
  have k' : butteryref14_Marks_l0 l ([], 0) = some (marksE l l.length) := by
    unfold butteryref14_Marks_l0
    simpa [marksE] using k
  unfold butteryref14_Marks
  simp only [k', Option.bind_some]
theorem ints_refl {l : List Int} (hl : l.length ≤ 1000000) : butteryref02_Ints l l = some true := by
  have k := loopO_up (body := fun s => butteryref02_Ints_b0 l l s) (fun i : Nat => (i : Int)) l.length (x := .inl ()) (fun i hi => by
    simp only [butteryref02_Ints_b0, lt_eq]
    rw [if_pos (decide_eq_true (by omega)), ix_nat hi]
    simp only [Option.bind_some, bne_self_eq_false, Bool.false_eq_true, if_false]
    rw [w64_nat (by omega)]) (by
    simp only [butteryref02_Ints_b0, lt_eq]
    rw [if_neg (by simp)])
  have k' : butteryref02_Ints_l0 l l 0 = some (.inl ()) := k
  unfold butteryref02_Ints
  simp only [lt_eq, bne_self_eq_false, Bool.false_eq_true, if_false, k', Option.bind_some, Sum.elim_inl]
theorem same_refl14 (x : api_Foot) (hd : x.Dead.length ≤ 1000000) : butteryref14_Same x x = some true := by
  unfold butteryref14_Same
  simp only [lt_eq, beq_self_eq_true, if_true, ints_refl hd, Option.bind_some]
def eOne : api_Entry := ⟨[107#8], 3, 5, 9, [97#8, 98#8]⟩
theorem isNil_nil14 : Err.isNil .nil = true := rfl
theorem works14 : butterylaw14_works = some true := by
  have hx : fkE ⟨3, 8, 1, [0]⟩ = 0 := by decide
  have hbad : fkE ⟨3, 0, 1, [1]⟩ = 1 := by decide
  have p1 := (put_eq14 ⟨3, 8, 1, [0]⟩ (by simp)).1 hx
  have hfl : (ftE ⟨3, 8, 1, [0]⟩).length ≤ 100000 := by
    unfold ftE
    have k1 := num7_len (n := 3) (by omega)
    have k2 := num7_len (n := 8) (by omega)
    have k3 := num7_len (n := 1) (by omega)
    have k4 := num7_len (n := 0) (by omega)
    simp; omega
  obtain ⟨e1, g1, g2, g3⟩ := get_eq14 hfl
  rw [fg_ft hx] at g1 g2 g3
  obtain ⟨e2, q1, q2, q3⟩ := (put_eq14 ⟨3, 0, 1, [1]⟩ (by simp)).2 (by rw [hbad]; decide)
  rw [hbad] at q2
  have hc : ckE eOne = 0 := by decide
  have hall : ∀ x ∈ [eOne], ckE x = 0 := by intro x hx; simp at hx; subst hx; exact hc
  have ha := all_eq6 (l := [eOne]) (by simp) hall
  have hen : [eOne].flatMap encE = [1#8, 107#8, 3#8, 5#8, 9#8, 2#8, 97#8, 98#8] := by
    unfold eOne
    simp only [List.flatMap_cons, List.flatMap_nil, List.append_nil]
    unfold encE
    rw [num7_small (by simp), num7_small (by decide), num7_small (by decide), num7_small (by decide), num7_small (by simp)]
    rfl
  have hrd : rdE ([eOne].flatMap encE) (([eOne].flatMap encE).length + 1) 0 = .inl [eOne] := rdE_is (by omega) (by omega) (by simp) hall
  have hread := (read_eq6 (b := [eOne].flatMap encE) (by rw [hen]; simp)).1 _ hrd
  rw [hen] at ha hrd hread
  generalize hB : ([1#8, 107#8, 3#8, 5#8, 9#8, 2#8, 97#8, 98#8] : List (BitVec 8)) = B at *
  have hBl : B.length = 8 := by rw [← hB]; rfl
  have hsp := split_eq (b := B) (by omega)
  have hj := sp_join (b := B) B.length 0 (by omega)
  rw [List.drop_zero] at hj
  have hsl := sp_len (b := B) B.length 0
  generalize hP : sp B B.length 0 = P at *
  obtain ⟨r, e, c, w1, w2, w3, w4, w5, w6, w7⟩ := whole_both ⟨3, 8, 1, [0]⟩ (p := P) (by omega) (by rw [hj]; omega)
  rw [hj] at w7
  obtain ⟨rfl, rfl⟩ := w7 [eOne] hrd (by rw [hBl]; rfl) rfl
  have hm := marks_eq (l := [eOne]) (by simp) hall
  have hm1 : marksE [eOne] [eOne].length = [⟨hash [107#8], 0, 8⟩] := by
    have : (encE eOne).length = 8 := by
      have h5 := congrArg List.length hen
      rw [hBl] at h5
      simpa using h5
    simp [marksE, mkM, List.range, List.range.loop, this]
    simp [eOne]
  rw [hm1] at hm
  have ht : region_Take P 0 ⟨hash [107#8], 0, 8⟩ = some (eOne, .nil) := by
    unfold region_Take
    simp only [lt_eq, take_l _ _ (p := P) (by omega) (by rw [hj]; omega), Option.bind_some, hj]
    rw [w64_eq (n := (0 : Int) * 233) (by decide) (by decide), w64_eq (n := (0 : Int) - 0 * 233) (by decide) (by decide)]
    have e1 : w64 ((B.length : Int) - (0 - 0 * 233)) = 8 := by rw [hBl]; rfl
    have e2 : w64 ((0 : Int) - 0 * 233 + 8) = 8 := rfl
    have e3 : cutO B ((0 : Int) - 0 * 233) 8 = some B := by
      unfold cutO
      rw [if_pos (by rw [hBl]; decide)]
      have : B.take (8 : Int).toNat = B := List.take_of_length_le (by rw [hBl]; decide)
      rw [this]; rfl
    simp only [e1, e2, e3, Option.bind_some, hread]
    rw [hBl]
    rfl
  obtain ⟨e0, c1, c2, c3⟩ := check_eq14 ⟨3, 8, 1, [0]⟩ (by simp)
  have hs := sameAll_refl (l := [eOne]) (by simp) (by simp [eOne])
  have hcap : region_Cap 5 = some 932 := rfl
  have hspan : region_Span ⟨0#64, 232, 2⟩ = some (0, 1) := rfl
  unfold butterylaw14_works
  have he1 : (⟨[107#8], 3, 5, 9, [97#8, 98#8]⟩ : api_Entry) = eOne := rfl
  simp only [lt_eq, p1, g1, q1, he1, ha, hsp, w1, hm, Option.bind_some]
  rw [if_neg (by simp), show (ix [(⟨hash [107#8], 0, 8⟩ : api_Mark)] 0) = some ⟨hash [107#8], 0, 8⟩ from rfl]
  simp only [Option.bind_some, ht, hspan, g3, same_refl14 ⟨3, 8, 1, [0]⟩ (by simp), trouble_Of, q2, hs, hcap, c1, c3, hx, isNil_nil14, decide_true, if_true, beq_self_eq_true]
  rw [show (ix [eOne] 0) = some eOne from rfl]
  simp only [Option.bind_some, isame_eq6, decide_true, if_true]
end Go.Proofs.YtkmlinaofbcbaaaDoor
namespace Go.Proofs.YtkmlinaofbcbaaaDoor
open Go Go.Va
set_option linter.unusedSimpArgs false
set_option linter.unusedVariables false
def wf_runtime_boundsError (x : runtime_boundsError) : Prop := (wfI .i64) x.x ∧ (wfI .i64) x.y ∧ wfT x.signed ∧ wfT x.code
theorem opens7 : Opens Tryd.prog 7 e_runtime_boundsError wf_runtime_boundsError := by
  intro H enc w fuel cs x hx
  obtain ⟨xs, m, _, _, hl, hn, hx⟩ := DataW.trod_struct Tryd.underlying7 hx
  rw [cellsOf_sz tk sz7 (by decide)] at hl
  obtain ⟨y0, w0, r0, o0⟩ := opens_f hx hn 0 (o := 0) (s := 1) rfl (opens_i64 Tryd.underlying2) rfl (cellsOf_sz tk sz2 (by decide))
  obtain ⟨y1, w1, r1, o1⟩ := opens_f hx hn 1 (o := 1) (s := 1) rfl (opens_i64 Tryd.underlying3) rfl (cellsOf_sz tk sz3 (by decide))
  obtain ⟨y2, w2, r2, o2⟩ := opens_f hx hn 2 (o := 2) (s := 1) rfl (opens_b Tryd.underlying4) rfl (cellsOf_sz tk sz4 (by decide))
  obtain ⟨y3, w3, r3, o3⟩ := opens_f hx hn 3 (o := 3) (s := 1) rfl (opens_u rfl rfl Tryd.underlying6) rfl (cellsOf_sz tk sz6 (by decide))
  refine ⟨⟨y0, y1, y2, y3⟩, ⟨w0, w1, w2, w3⟩, ?_, ?_⟩
  · have h := (rel_piece r0 (rel_piece r1 (rel_piece r2 (rel_piece r3 (rel_end hl)))))
    rw [List.drop_zero] at h
    first | exact h | (simp only [List.append_nil, List.append_assoc] at h ⊢; exact h) | (simpa [AV.cells, e_runtime_boundsError, c_runtime_boundsError] using h)
  · have h := (one_piece o0 (one_piece o1 (one_piece o2 (one_piece o3 (one_end hl)))))
    rw [List.drop_zero] at h
    exact h
theorem opens8 : Opens Tryd.prog 8 e_runtime_boundsError wf_runtime_boundsError := by
  intro H enc w fuel cs x hx
  obtain ⟨xs, m, _, _, hl, hn, hx⟩ := DataW.trod_struct Tryd.underlying8 hx
  rw [cellsOf_sz tk sz8 (by decide)] at hl
  obtain ⟨y0, w0, r0, o0⟩ := opens_f hx hn 0 (o := 0) (s := 1) rfl (opens_i64 Tryd.underlying2) rfl (cellsOf_sz tk sz2 (by decide))
  obtain ⟨y1, w1, r1, o1⟩ := opens_f hx hn 1 (o := 1) (s := 1) rfl (opens_i64 Tryd.underlying3) rfl (cellsOf_sz tk sz3 (by decide))
  obtain ⟨y2, w2, r2, o2⟩ := opens_f hx hn 2 (o := 2) (s := 1) rfl (opens_b Tryd.underlying4) rfl (cellsOf_sz tk sz4 (by decide))
  obtain ⟨y3, w3, r3, o3⟩ := opens_f hx hn 3 (o := 3) (s := 1) rfl (opens_u rfl rfl Tryd.underlying6) rfl (cellsOf_sz tk sz6 (by decide))
  refine ⟨⟨y0, y1, y2, y3⟩, ⟨w0, w1, w2, w3⟩, ?_, ?_⟩
  · have h := (rel_piece r0 (rel_piece r1 (rel_piece r2 (rel_piece r3 (rel_end hl)))))
    rw [List.drop_zero] at h
    first | exact h | (simp only [List.append_nil, List.append_assoc] at h ⊢; exact h) | (simpa [AV.cells, e_runtime_boundsError, c_runtime_boundsError] using h)
  · have h := (one_piece o0 (one_piece o1 (one_piece o2 (one_piece o3 (one_end hl)))))
    rw [List.drop_zero] at h
    exact h
def wf_runtime_errorAddressString (x : runtime_errorAddressString) : Prop := wfS x.msg ∧ wfT x.addr
theorem opens13 : Opens Tryd.prog 13 e_runtime_errorAddressString wf_runtime_errorAddressString := by
  intro H enc w fuel cs x hx
  obtain ⟨xs, m, _, _, hl, hn, hx⟩ := DataW.trod_struct Tryd.underlying13 hx
  rw [cellsOf_sz tk sz13 (by decide)] at hl
  obtain ⟨y0, w0, r0, o0⟩ := opens_f hx hn 0 (o := 0) (s := 1) rfl (opens_s Tryd.underlying9) rfl (cellsOf_sz tk sz9 (by decide))
  obtain ⟨y1, w1, r1, o1⟩ := opens_f hx hn 1 (o := 1) (s := 1) rfl (opens_u rfl rfl Tryd.underlying12) rfl (cellsOf_sz tk sz12 (by decide))
  refine ⟨⟨y0, y1⟩, ⟨w0, w1⟩, ?_, ?_⟩
  · have h := (rel_piece r0 (rel_piece r1 (rel_end hl)))
    rw [List.drop_zero] at h
    first | exact h | (simp only [List.append_nil, List.append_assoc] at h ⊢; exact h) | (simpa [AV.cells, e_runtime_errorAddressString, c_runtime_errorAddressString] using h)
  · have h := (one_piece o0 (one_piece o1 (one_end hl)))
    rw [List.drop_zero] at h
    exact h
theorem opens14 : Opens Tryd.prog 14 e_runtime_errorAddressString wf_runtime_errorAddressString := by
  intro H enc w fuel cs x hx
  obtain ⟨xs, m, _, _, hl, hn, hx⟩ := DataW.trod_struct Tryd.underlying14 hx
  rw [cellsOf_sz tk sz14 (by decide)] at hl
  obtain ⟨y0, w0, r0, o0⟩ := opens_f hx hn 0 (o := 0) (s := 1) rfl (opens_s Tryd.underlying9) rfl (cellsOf_sz tk sz9 (by decide))
  obtain ⟨y1, w1, r1, o1⟩ := opens_f hx hn 1 (o := 1) (s := 1) rfl (opens_u rfl rfl Tryd.underlying12) rfl (cellsOf_sz tk sz12 (by decide))
  refine ⟨⟨y0, y1⟩, ⟨w0, w1⟩, ?_, ?_⟩
  · have h := (rel_piece r0 (rel_piece r1 (rel_end hl)))
    rw [List.drop_zero] at h
    first | exact h | (simp only [List.append_nil, List.append_assoc] at h ⊢; exact h) | (simpa [AV.cells, e_runtime_errorAddressString, c_runtime_errorAddressString] using h)
  · have h := (one_piece o0 (one_piece o1 (one_end hl)))
    rw [List.drop_zero] at h
    exact h
def wf_api_Entry (x : api_Entry) : Prop := wfS x.Key ∧ (wfI .i64) x.Version ∧ (wfI .i64) x.AsOf ∧ (wfI .i64) x.Ends ∧ (wfL wfT) x.Value
theorem opens23 : Opens Tryd.prog 23 e_api_Entry wf_api_Entry := by
  intro H enc w fuel cs x hx
  obtain ⟨xs, m, _, _, hl, hn, hx⟩ := DataW.trod_struct Tryd.underlying23 hx
  rw [cellsOf_sz tk sz23 (by decide)] at hl
  obtain ⟨y0, w0, r0, o0⟩ := opens_f hx hn 0 (o := 0) (s := 1) rfl (opens_s Tryd.underlying9) rfl (cellsOf_sz tk sz9 (by decide))
  obtain ⟨y1, w1, r1, o1⟩ := opens_f hx hn 1 (o := 1) (s := 1) rfl (opens_i64 Tryd.underlying3) rfl (cellsOf_sz tk sz3 (by decide))
  obtain ⟨y2, w2, r2, o2⟩ := opens_f hx hn 2 (o := 2) (s := 1) rfl (opens_i64 Tryd.underlying3) rfl (cellsOf_sz tk sz3 (by decide))
  obtain ⟨y3, w3, r3, o3⟩ := opens_f hx hn 3 (o := 3) (s := 1) rfl (opens_i64 Tryd.underlying3) rfl (cellsOf_sz tk sz3 (by decide))
  obtain ⟨y4, w4, r4, o4⟩ := opens_f hx hn 4 (o := 4) (s := 1) rfl (opens_l tk Tryd.underlying22 (enc_u td5 sz5) (opens_u rfl rfl Tryd.underlying5)) rfl (cellsOf_sz tk sz22 (by decide))
  refine ⟨⟨y0, y1, y2, y3, y4⟩, ⟨w0, w1, w2, w3, w4⟩, ?_, ?_⟩
  · have h := (rel_piece r0 (rel_piece r1 (rel_piece r2 (rel_piece r3 (rel_piece r4 (rel_end hl))))))
    rw [List.drop_zero] at h
    first | exact h | (simp only [List.append_nil, List.append_assoc] at h ⊢; exact h) | (simpa [AV.cells, e_api_Entry, c_api_Entry] using h)
  · have h := (one_piece o0 (one_piece o1 (one_piece o2 (one_piece o3 (one_piece o4 (one_end hl))))))
    rw [List.drop_zero] at h
    exact h
theorem opens24 : Opens Tryd.prog 24 e_api_Entry wf_api_Entry := by
  intro H enc w fuel cs x hx
  obtain ⟨xs, m, _, _, hl, hn, hx⟩ := DataW.trod_struct Tryd.underlying24 hx
  rw [cellsOf_sz tk sz24 (by decide)] at hl
  obtain ⟨y0, w0, r0, o0⟩ := opens_f hx hn 0 (o := 0) (s := 1) rfl (opens_s Tryd.underlying9) rfl (cellsOf_sz tk sz9 (by decide))
  obtain ⟨y1, w1, r1, o1⟩ := opens_f hx hn 1 (o := 1) (s := 1) rfl (opens_i64 Tryd.underlying3) rfl (cellsOf_sz tk sz3 (by decide))
  obtain ⟨y2, w2, r2, o2⟩ := opens_f hx hn 2 (o := 2) (s := 1) rfl (opens_i64 Tryd.underlying3) rfl (cellsOf_sz tk sz3 (by decide))
  obtain ⟨y3, w3, r3, o3⟩ := opens_f hx hn 3 (o := 3) (s := 1) rfl (opens_i64 Tryd.underlying3) rfl (cellsOf_sz tk sz3 (by decide))
  obtain ⟨y4, w4, r4, o4⟩ := opens_f hx hn 4 (o := 4) (s := 1) rfl (opens_l tk Tryd.underlying22 (enc_u td5 sz5) (opens_u rfl rfl Tryd.underlying5)) rfl (cellsOf_sz tk sz22 (by decide))
  refine ⟨⟨y0, y1, y2, y3, y4⟩, ⟨w0, w1, w2, w3, w4⟩, ?_, ?_⟩
  · have h := (rel_piece r0 (rel_piece r1 (rel_piece r2 (rel_piece r3 (rel_piece r4 (rel_end hl))))))
    rw [List.drop_zero] at h
    first | exact h | (simp only [List.append_nil, List.append_assoc] at h ⊢; exact h) | (simpa [AV.cells, e_api_Entry, c_api_Entry] using h)
  · have h := (one_piece o0 (one_piece o1 (one_piece o2 (one_piece o3 (one_piece o4 (one_end hl))))))
    rw [List.drop_zero] at h
    exact h
def wf_api_Msg (x : api_Msg) : Prop := (wfI .i64) x.Kind ∧ (wfI .i64) x.From ∧ (wfI .i64) x.To ∧ (wfI .i64) x.Epoch ∧ (wfI .i64) x.Id ∧ wf_api_Entry x.X ∧ wfT x.Found
theorem opens25 : Opens Tryd.prog 25 e_api_Msg wf_api_Msg := by
  intro H enc w fuel cs x hx
  obtain ⟨xs, m, _, _, hl, hn, hx⟩ := DataW.trod_struct Tryd.underlying25 hx
  rw [cellsOf_sz tk sz25 (by decide)] at hl
  obtain ⟨y0, w0, r0, o0⟩ := opens_f hx hn 0 (o := 0) (s := 1) rfl (opens_i64 Tryd.underlying3) rfl (cellsOf_sz tk sz3 (by decide))
  obtain ⟨y1, w1, r1, o1⟩ := opens_f hx hn 1 (o := 1) (s := 1) rfl (opens_i64 Tryd.underlying3) rfl (cellsOf_sz tk sz3 (by decide))
  obtain ⟨y2, w2, r2, o2⟩ := opens_f hx hn 2 (o := 2) (s := 1) rfl (opens_i64 Tryd.underlying3) rfl (cellsOf_sz tk sz3 (by decide))
  obtain ⟨y3, w3, r3, o3⟩ := opens_f hx hn 3 (o := 3) (s := 1) rfl (opens_i64 Tryd.underlying3) rfl (cellsOf_sz tk sz3 (by decide))
  obtain ⟨y4, w4, r4, o4⟩ := opens_f hx hn 4 (o := 4) (s := 1) rfl (opens_i64 Tryd.underlying3) rfl (cellsOf_sz tk sz3 (by decide))
  obtain ⟨y5, w5, r5, o5⟩ := opens_f hx hn 5 (o := 5) (s := 5) rfl opens24 rfl (cellsOf_sz tk sz24 (by decide))
  obtain ⟨y6, w6, r6, o6⟩ := opens_f hx hn 6 (o := 10) (s := 1) rfl (opens_b Tryd.underlying4) rfl (cellsOf_sz tk sz4 (by decide))
  refine ⟨⟨y0, y1, y2, y3, y4, y5, y6⟩, ⟨w0, w1, w2, w3, w4, w5, w6⟩, ?_, ?_⟩
  · have h := (rel_piece r0 (rel_piece r1 (rel_piece r2 (rel_piece r3 (rel_piece r4 (rel_piece r5 (rel_piece r6 (rel_end hl))))))))
    rw [List.drop_zero] at h
    first | exact h | (simp only [List.append_nil, List.append_assoc] at h ⊢; exact h) | (simpa [AV.cells, e_api_Msg, c_api_Msg] using h)
  · have h := (one_piece o0 (one_piece o1 (one_piece o2 (one_piece o3 (one_piece o4 (one_piece o5 (one_piece o6 (one_end hl))))))))
    rw [List.drop_zero] at h
    exact h
theorem opens26 : Opens Tryd.prog 26 e_api_Msg wf_api_Msg := by
  intro H enc w fuel cs x hx
  obtain ⟨xs, m, _, _, hl, hn, hx⟩ := DataW.trod_struct Tryd.underlying26 hx
  rw [cellsOf_sz tk sz26 (by decide)] at hl
  obtain ⟨y0, w0, r0, o0⟩ := opens_f hx hn 0 (o := 0) (s := 1) rfl (opens_i64 Tryd.underlying3) rfl (cellsOf_sz tk sz3 (by decide))
  obtain ⟨y1, w1, r1, o1⟩ := opens_f hx hn 1 (o := 1) (s := 1) rfl (opens_i64 Tryd.underlying3) rfl (cellsOf_sz tk sz3 (by decide))
  obtain ⟨y2, w2, r2, o2⟩ := opens_f hx hn 2 (o := 2) (s := 1) rfl (opens_i64 Tryd.underlying3) rfl (cellsOf_sz tk sz3 (by decide))
  obtain ⟨y3, w3, r3, o3⟩ := opens_f hx hn 3 (o := 3) (s := 1) rfl (opens_i64 Tryd.underlying3) rfl (cellsOf_sz tk sz3 (by decide))
  obtain ⟨y4, w4, r4, o4⟩ := opens_f hx hn 4 (o := 4) (s := 1) rfl (opens_i64 Tryd.underlying3) rfl (cellsOf_sz tk sz3 (by decide))
  obtain ⟨y5, w5, r5, o5⟩ := opens_f hx hn 5 (o := 5) (s := 5) rfl opens24 rfl (cellsOf_sz tk sz24 (by decide))
  obtain ⟨y6, w6, r6, o6⟩ := opens_f hx hn 6 (o := 10) (s := 1) rfl (opens_b Tryd.underlying4) rfl (cellsOf_sz tk sz4 (by decide))
  refine ⟨⟨y0, y1, y2, y3, y4, y5, y6⟩, ⟨w0, w1, w2, w3, w4, w5, w6⟩, ?_, ?_⟩
  · have h := (rel_piece r0 (rel_piece r1 (rel_piece r2 (rel_piece r3 (rel_piece r4 (rel_piece r5 (rel_piece r6 (rel_end hl))))))))
    rw [List.drop_zero] at h
    first | exact h | (simp only [List.append_nil, List.append_assoc] at h ⊢; exact h) | (simpa [AV.cells, e_api_Msg, c_api_Msg] using h)
  · have h := (one_piece o0 (one_piece o1 (one_piece o2 (one_piece o3 (one_piece o4 (one_piece o5 (one_piece o6 (one_end hl))))))))
    rw [List.drop_zero] at h
    exact h
def wf_api_Foot (x : api_Foot) : Prop := (wfI .i64) x.Seq ∧ (wfI .i64) x.Bytes ∧ (wfI .i64) x.Count ∧ (wfL (wfI .i64)) x.Dead
theorem opens52 : Opens Tryd.prog 52 e_api_Foot wf_api_Foot := by
  intro H enc w fuel cs x hx
  obtain ⟨xs, m, _, _, hl, hn, hx⟩ := DataW.trod_struct Tryd.underlying52 hx
  rw [cellsOf_sz tk sz52 (by decide)] at hl
  obtain ⟨y0, w0, r0, o0⟩ := opens_f hx hn 0 (o := 0) (s := 1) rfl (opens_i64 Tryd.underlying3) rfl (cellsOf_sz tk sz3 (by decide))
  obtain ⟨y1, w1, r1, o1⟩ := opens_f hx hn 1 (o := 1) (s := 1) rfl (opens_i64 Tryd.underlying3) rfl (cellsOf_sz tk sz3 (by decide))
  obtain ⟨y2, w2, r2, o2⟩ := opens_f hx hn 2 (o := 2) (s := 1) rfl (opens_i64 Tryd.underlying3) rfl (cellsOf_sz tk sz3 (by decide))
  obtain ⟨y3, w3, r3, o3⟩ := opens_f hx hn 3 (o := 3) (s := 1) rfl (opens_l tk Tryd.underlying51 (enc_i64 td3 sz3) (opens_i64 Tryd.underlying3)) rfl (cellsOf_sz tk sz51 (by decide))
  refine ⟨⟨y0, y1, y2, y3⟩, ⟨w0, w1, w2, w3⟩, ?_, ?_⟩
  · have h := (rel_piece r0 (rel_piece r1 (rel_piece r2 (rel_piece r3 (rel_end hl)))))
    rw [List.drop_zero] at h
    first | exact h | (simp only [List.append_nil, List.append_assoc] at h ⊢; exact h) | (simpa [AV.cells, e_api_Foot, c_api_Foot] using h)
  · have h := (one_piece o0 (one_piece o1 (one_piece o2 (one_piece o3 (one_end hl)))))
    rw [List.drop_zero] at h
    exact h
theorem opens53 : Opens Tryd.prog 53 e_api_Foot wf_api_Foot := by
  intro H enc w fuel cs x hx
  obtain ⟨xs, m, _, _, hl, hn, hx⟩ := DataW.trod_struct Tryd.underlying53 hx
  rw [cellsOf_sz tk sz53 (by decide)] at hl
  obtain ⟨y0, w0, r0, o0⟩ := opens_f hx hn 0 (o := 0) (s := 1) rfl (opens_i64 Tryd.underlying3) rfl (cellsOf_sz tk sz3 (by decide))
  obtain ⟨y1, w1, r1, o1⟩ := opens_f hx hn 1 (o := 1) (s := 1) rfl (opens_i64 Tryd.underlying3) rfl (cellsOf_sz tk sz3 (by decide))
  obtain ⟨y2, w2, r2, o2⟩ := opens_f hx hn 2 (o := 2) (s := 1) rfl (opens_i64 Tryd.underlying3) rfl (cellsOf_sz tk sz3 (by decide))
  obtain ⟨y3, w3, r3, o3⟩ := opens_f hx hn 3 (o := 3) (s := 1) rfl (opens_l tk Tryd.underlying51 (enc_i64 td3 sz3) (opens_i64 Tryd.underlying3)) rfl (cellsOf_sz tk sz51 (by decide))
  refine ⟨⟨y0, y1, y2, y3⟩, ⟨w0, w1, w2, w3⟩, ?_, ?_⟩
  · have h := (rel_piece r0 (rel_piece r1 (rel_piece r2 (rel_piece r3 (rel_end hl)))))
    rw [List.drop_zero] at h
    first | exact h | (simp only [List.append_nil, List.append_assoc] at h ⊢; exact h) | (simpa [AV.cells, e_api_Foot, c_api_Foot] using h)
  · have h := (one_piece o0 (one_piece o1 (one_piece o2 (one_piece o3 (one_end hl)))))
    rw [List.drop_zero] at h
    exact h
def wf_api_Mark (x : api_Mark) : Prop := wfT x.Hash ∧ (wfI .i64) x.Off ∧ (wfI .i64) x.Size
theorem opens73 : Opens Tryd.prog 73 e_api_Mark wf_api_Mark := by
  intro H enc w fuel cs x hx
  obtain ⟨xs, m, _, _, hl, hn, hx⟩ := DataW.trod_struct Tryd.underlying73 hx
  rw [cellsOf_sz tk sz73 (by decide)] at hl
  obtain ⟨y0, w0, r0, o0⟩ := opens_f hx hn 0 (o := 0) (s := 1) rfl (opens_u rfl rfl Tryd.underlying72) rfl (cellsOf_sz tk sz72 (by decide))
  obtain ⟨y1, w1, r1, o1⟩ := opens_f hx hn 1 (o := 1) (s := 1) rfl (opens_i64 Tryd.underlying3) rfl (cellsOf_sz tk sz3 (by decide))
  obtain ⟨y2, w2, r2, o2⟩ := opens_f hx hn 2 (o := 2) (s := 1) rfl (opens_i64 Tryd.underlying3) rfl (cellsOf_sz tk sz3 (by decide))
  refine ⟨⟨y0, y1, y2⟩, ⟨w0, w1, w2⟩, ?_, ?_⟩
  · have h := (rel_piece r0 (rel_piece r1 (rel_piece r2 (rel_end hl))))
    rw [List.drop_zero] at h
    first | exact h | (simp only [List.append_nil, List.append_assoc] at h ⊢; exact h) | (simpa [AV.cells, e_api_Mark, c_api_Mark] using h)
  · have h := (one_piece o0 (one_piece o1 (one_piece o2 (one_end hl))))
    rw [List.drop_zero] at h
    exact h
theorem opens74 : Opens Tryd.prog 74 e_api_Mark wf_api_Mark := by
  intro H enc w fuel cs x hx
  obtain ⟨xs, m, _, _, hl, hn, hx⟩ := DataW.trod_struct Tryd.underlying74 hx
  rw [cellsOf_sz tk sz74 (by decide)] at hl
  obtain ⟨y0, w0, r0, o0⟩ := opens_f hx hn 0 (o := 0) (s := 1) rfl (opens_u rfl rfl Tryd.underlying72) rfl (cellsOf_sz tk sz72 (by decide))
  obtain ⟨y1, w1, r1, o1⟩ := opens_f hx hn 1 (o := 1) (s := 1) rfl (opens_i64 Tryd.underlying3) rfl (cellsOf_sz tk sz3 (by decide))
  obtain ⟨y2, w2, r2, o2⟩ := opens_f hx hn 2 (o := 2) (s := 1) rfl (opens_i64 Tryd.underlying3) rfl (cellsOf_sz tk sz3 (by decide))
  refine ⟨⟨y0, y1, y2⟩, ⟨w0, w1, w2⟩, ?_, ?_⟩
  · have h := (rel_piece r0 (rel_piece r1 (rel_piece r2 (rel_end hl))))
    rw [List.drop_zero] at h
    first | exact h | (simp only [List.append_nil, List.append_assoc] at h ⊢; exact h) | (simpa [AV.cells, e_api_Mark, c_api_Mark] using h)
  · have h := (one_piece o0 (one_piece o1 (one_piece o2 (one_end hl))))
    rw [List.drop_zero] at h
    exact h
def wf_butteryref02_Reader (x : butteryref02_Reader) : Prop := (wfL wfT) x.B ∧ (wfI .i64) x.At ∧ (wfI .i64) x.Code
theorem opens126 : Opens Tryd.prog 126 e_butteryref02_Reader wf_butteryref02_Reader := by
  intro H enc w fuel cs x hx
  obtain ⟨xs, m, _, _, hl, hn, hx⟩ := DataW.trod_struct Tryd.underlying126 hx
  rw [cellsOf_sz tk sz126 (by decide)] at hl
  obtain ⟨y0, w0, r0, o0⟩ := opens_f hx hn 0 (o := 0) (s := 1) rfl (opens_l tk Tryd.underlying22 (enc_u td5 sz5) (opens_u rfl rfl Tryd.underlying5)) rfl (cellsOf_sz tk sz22 (by decide))
  obtain ⟨y1, w1, r1, o1⟩ := opens_f hx hn 1 (o := 1) (s := 1) rfl (opens_i64 Tryd.underlying3) rfl (cellsOf_sz tk sz3 (by decide))
  obtain ⟨y2, w2, r2, o2⟩ := opens_f hx hn 2 (o := 2) (s := 1) rfl (opens_i64 Tryd.underlying33) rfl (cellsOf_sz tk sz33 (by decide))
  refine ⟨⟨y0, y1, y2⟩, ⟨w0, w1, w2⟩, ?_, ?_⟩
  · have h := (rel_piece r0 (rel_piece r1 (rel_piece r2 (rel_end hl))))
    rw [List.drop_zero] at h
    first | exact h | (simp only [List.append_nil, List.append_assoc] at h ⊢; exact h) | (simpa [AV.cells, e_butteryref02_Reader, c_butteryref02_Reader] using h)
  · have h := (one_piece o0 (one_piece o1 (one_piece o2 (one_end hl))))
    rw [List.drop_zero] at h
    exact h
theorem opens127 : Opens Tryd.prog 127 e_butteryref02_Reader wf_butteryref02_Reader := by
  intro H enc w fuel cs x hx
  obtain ⟨xs, m, _, _, hl, hn, hx⟩ := DataW.trod_struct Tryd.underlying127 hx
  rw [cellsOf_sz tk sz127 (by decide)] at hl
  obtain ⟨y0, w0, r0, o0⟩ := opens_f hx hn 0 (o := 0) (s := 1) rfl (opens_l tk Tryd.underlying22 (enc_u td5 sz5) (opens_u rfl rfl Tryd.underlying5)) rfl (cellsOf_sz tk sz22 (by decide))
  obtain ⟨y1, w1, r1, o1⟩ := opens_f hx hn 1 (o := 1) (s := 1) rfl (opens_i64 Tryd.underlying3) rfl (cellsOf_sz tk sz3 (by decide))
  obtain ⟨y2, w2, r2, o2⟩ := opens_f hx hn 2 (o := 2) (s := 1) rfl (opens_i64 Tryd.underlying33) rfl (cellsOf_sz tk sz33 (by decide))
  refine ⟨⟨y0, y1, y2⟩, ⟨w0, w1, w2⟩, ?_, ?_⟩
  · have h := (rel_piece r0 (rel_piece r1 (rel_piece r2 (rel_end hl))))
    rw [List.drop_zero] at h
    first | exact h | (simp only [List.append_nil, List.append_assoc] at h ⊢; exact h) | (simpa [AV.cells, e_butteryref02_Reader, c_butteryref02_Reader] using h)
  · have h := (one_piece o0 (one_piece o1 (one_piece o2 (one_end hl))))
    rw [List.drop_zero] at h
    exact h
def wf_octets_Reader (x : octets_Reader) : Prop := (wfL wfT) x.b ∧ (wfI .i64) x.at_ ∧ (wfI .i64) x.code
theorem opens169 : Opens Tryd.prog 169 e_octets_Reader wf_octets_Reader := by
  intro H enc w fuel cs x hx
  obtain ⟨xs, m, _, _, hl, hn, hx⟩ := DataW.trod_struct Tryd.underlying169 hx
  rw [cellsOf_sz tk sz169 (by decide)] at hl
  obtain ⟨y0, w0, r0, o0⟩ := opens_f hx hn 0 (o := 0) (s := 1) rfl (opens_l tk Tryd.underlying22 (enc_u td5 sz5) (opens_u rfl rfl Tryd.underlying5)) rfl (cellsOf_sz tk sz22 (by decide))
  obtain ⟨y1, w1, r1, o1⟩ := opens_f hx hn 1 (o := 1) (s := 1) rfl (opens_i64 Tryd.underlying3) rfl (cellsOf_sz tk sz3 (by decide))
  obtain ⟨y2, w2, r2, o2⟩ := opens_f hx hn 2 (o := 2) (s := 1) rfl (opens_i64 Tryd.underlying33) rfl (cellsOf_sz tk sz33 (by decide))
  refine ⟨⟨y0, y1, y2⟩, ⟨w0, w1, w2⟩, ?_, ?_⟩
  · have h := (rel_piece r0 (rel_piece r1 (rel_piece r2 (rel_end hl))))
    rw [List.drop_zero] at h
    first | exact h | (simp only [List.append_nil, List.append_assoc] at h ⊢; exact h) | (simpa [AV.cells, e_octets_Reader, c_octets_Reader] using h)
  · have h := (one_piece o0 (one_piece o1 (one_piece o2 (one_end hl))))
    rw [List.drop_zero] at h
    exact h
theorem opens170 : Opens Tryd.prog 170 e_octets_Reader wf_octets_Reader := by
  intro H enc w fuel cs x hx
  obtain ⟨xs, m, _, _, hl, hn, hx⟩ := DataW.trod_struct Tryd.underlying170 hx
  rw [cellsOf_sz tk sz170 (by decide)] at hl
  obtain ⟨y0, w0, r0, o0⟩ := opens_f hx hn 0 (o := 0) (s := 1) rfl (opens_l tk Tryd.underlying22 (enc_u td5 sz5) (opens_u rfl rfl Tryd.underlying5)) rfl (cellsOf_sz tk sz22 (by decide))
  obtain ⟨y1, w1, r1, o1⟩ := opens_f hx hn 1 (o := 1) (s := 1) rfl (opens_i64 Tryd.underlying3) rfl (cellsOf_sz tk sz3 (by decide))
  obtain ⟨y2, w2, r2, o2⟩ := opens_f hx hn 2 (o := 2) (s := 1) rfl (opens_i64 Tryd.underlying33) rfl (cellsOf_sz tk sz33 (by decide))
  refine ⟨⟨y0, y1, y2⟩, ⟨w0, w1, w2⟩, ?_, ?_⟩
  · have h := (rel_piece r0 (rel_piece r1 (rel_piece r2 (rel_end hl))))
    rw [List.drop_zero] at h
    first | exact h | (simp only [List.append_nil, List.append_assoc] at h ⊢; exact h) | (simpa [AV.cells, e_octets_Reader, c_octets_Reader] using h)
  · have h := (one_piece o0 (one_piece o1 (one_piece o2 (one_end hl))))
    rw [List.drop_zero] at h
    exact h
def wf_reflectlite_ValueError (x : reflectlite_ValueError) : Prop := wfS x.Method ∧ wfT x.Kind
theorem opens211 : Opens Tryd.prog 211 e_reflectlite_ValueError wf_reflectlite_ValueError := by
  intro H enc w fuel cs x hx
  obtain ⟨xs, m, _, _, hl, hn, hx⟩ := DataW.trod_struct Tryd.underlying211 hx
  rw [cellsOf_sz tk sz211 (by decide)] at hl
  obtain ⟨y0, w0, r0, o0⟩ := opens_f hx hn 0 (o := 0) (s := 1) rfl (opens_s Tryd.underlying9) rfl (cellsOf_sz tk sz9 (by decide))
  obtain ⟨y1, w1, r1, o1⟩ := opens_f hx hn 1 (o := 1) (s := 1) rfl (opens_u rfl rfl Tryd.underlying164) rfl (cellsOf_sz tk sz164 (by decide))
  refine ⟨⟨y0, y1⟩, ⟨w0, w1⟩, ?_, ?_⟩
  · have h := (rel_piece r0 (rel_piece r1 (rel_end hl)))
    rw [List.drop_zero] at h
    first | exact h | (simp only [List.append_nil, List.append_assoc] at h ⊢; exact h) | (simpa [AV.cells, e_reflectlite_ValueError, c_reflectlite_ValueError] using h)
  · have h := (one_piece o0 (one_piece o1 (one_end hl)))
    rw [List.drop_zero] at h
    exact h
theorem opens212 : Opens Tryd.prog 212 e_reflectlite_ValueError wf_reflectlite_ValueError := by
  intro H enc w fuel cs x hx
  obtain ⟨xs, m, _, _, hl, hn, hx⟩ := DataW.trod_struct Tryd.underlying212 hx
  rw [cellsOf_sz tk sz212 (by decide)] at hl
  obtain ⟨y0, w0, r0, o0⟩ := opens_f hx hn 0 (o := 0) (s := 1) rfl (opens_s Tryd.underlying9) rfl (cellsOf_sz tk sz9 (by decide))
  obtain ⟨y1, w1, r1, o1⟩ := opens_f hx hn 1 (o := 1) (s := 1) rfl (opens_u rfl rfl Tryd.underlying164) rfl (cellsOf_sz tk sz164 (by decide))
  refine ⟨⟨y0, y1⟩, ⟨w0, w1⟩, ?_, ?_⟩
  · have h := (rel_piece r0 (rel_piece r1 (rel_end hl)))
    rw [List.drop_zero] at h
    first | exact h | (simp only [List.append_nil, List.append_assoc] at h ⊢; exact h) | (simpa [AV.cells, e_reflectlite_ValueError, c_reflectlite_ValueError] using h)
  · have h := (one_piece o0 (one_piece o1 (one_end hl)))
    rw [List.drop_zero] at h
    exact h
def wf_abi_Method (x : abi_Method) : Prop := (wfI .i32) x.Name ∧ (wfI .i32) x.Mtyp ∧ (wfI .i32) x.Ifn ∧ (wfI .i32) x.Tfn
theorem opens219 : Opens Tryd.prog 219 e_abi_Method wf_abi_Method := by
  intro H enc w fuel cs x hx
  obtain ⟨xs, m, _, _, hl, hn, hx⟩ := DataW.trod_struct Tryd.underlying219 hx
  rw [cellsOf_sz tk sz219 (by decide)] at hl
  obtain ⟨y0, w0, r0, o0⟩ := opens_f hx hn 0 (o := 0) (s := 1) rfl (opens_i Tryd.underlying205) rfl (cellsOf_sz tk sz205 (by decide))
  obtain ⟨y1, w1, r1, o1⟩ := opens_f hx hn 1 (o := 1) (s := 1) rfl (opens_i Tryd.underlying206) rfl (cellsOf_sz tk sz206 (by decide))
  obtain ⟨y2, w2, r2, o2⟩ := opens_f hx hn 2 (o := 2) (s := 1) rfl (opens_i Tryd.underlying218) rfl (cellsOf_sz tk sz218 (by decide))
  obtain ⟨y3, w3, r3, o3⟩ := opens_f hx hn 3 (o := 3) (s := 1) rfl (opens_i Tryd.underlying218) rfl (cellsOf_sz tk sz218 (by decide))
  refine ⟨⟨y0, y1, y2, y3⟩, ⟨w0, w1, w2, w3⟩, ?_, ?_⟩
  · have h := (rel_piece r0 (rel_piece r1 (rel_piece r2 (rel_piece r3 (rel_end hl)))))
    rw [List.drop_zero] at h
    first | exact h | (simp only [List.append_nil, List.append_assoc] at h ⊢; exact h) | (simpa [AV.cells, e_abi_Method, c_abi_Method] using h)
  · have h := (one_piece o0 (one_piece o1 (one_piece o2 (one_piece o3 (one_end hl)))))
    rw [List.drop_zero] at h
    exact h
theorem opens220 : Opens Tryd.prog 220 e_abi_Method wf_abi_Method := by
  intro H enc w fuel cs x hx
  obtain ⟨xs, m, _, _, hl, hn, hx⟩ := DataW.trod_struct Tryd.underlying220 hx
  rw [cellsOf_sz tk sz220 (by decide)] at hl
  obtain ⟨y0, w0, r0, o0⟩ := opens_f hx hn 0 (o := 0) (s := 1) rfl (opens_i Tryd.underlying205) rfl (cellsOf_sz tk sz205 (by decide))
  obtain ⟨y1, w1, r1, o1⟩ := opens_f hx hn 1 (o := 1) (s := 1) rfl (opens_i Tryd.underlying206) rfl (cellsOf_sz tk sz206 (by decide))
  obtain ⟨y2, w2, r2, o2⟩ := opens_f hx hn 2 (o := 2) (s := 1) rfl (opens_i Tryd.underlying218) rfl (cellsOf_sz tk sz218 (by decide))
  obtain ⟨y3, w3, r3, o3⟩ := opens_f hx hn 3 (o := 3) (s := 1) rfl (opens_i Tryd.underlying218) rfl (cellsOf_sz tk sz218 (by decide))
  refine ⟨⟨y0, y1, y2, y3⟩, ⟨w0, w1, w2, w3⟩, ?_, ?_⟩
  · have h := (rel_piece r0 (rel_piece r1 (rel_piece r2 (rel_piece r3 (rel_end hl)))))
    rw [List.drop_zero] at h
    first | exact h | (simp only [List.append_nil, List.append_assoc] at h ⊢; exact h) | (simpa [AV.cells, e_abi_Method, c_abi_Method] using h)
  · have h := (one_piece o0 (one_piece o1 (one_piece o2 (one_piece o3 (one_end hl)))))
    rw [List.drop_zero] at h
    exact h
end Go.Proofs.YtkmlinaofbcbaaaDoor
namespace Go.Proofs.YtkmlinaofbcbaaaDoor
open Go Go.Va
set_option linter.unusedVariables false
set_option linter.unusedSimpArgs false
theorem num7_len1 {n : Nat} (h : n < 128) : (num7 n).length = 1 := by rw [num7_small h]; rfl
theorem num7_lenk : ∀ (k n : Nat), n < 128 ^ (k + 1) → (num7 n).length ≤ k + 1
  | 0, n, h => by rw [num7_len1 (by simpa using h)]; omega
  | k + 1, n, h => by
    have h2 := nlen_num7 (k + 2) n h
    rw [h2]
    have h3 := nlen_num7 (k + 1) (n / 128) (by rw [Nat.div_lt_iff_lt_mul (by decide)]; rw [Nat.pow_succ] at h; exact h)
    have h4 := num7_lenk k (n / 128) (by rw [Nat.div_lt_iff_lt_mul (by decide)]; rw [Nat.pow_succ] at h; exact h)
    rw [nlen]
    split
    · rw [h3] at h4; omega
    · omega
theorem ft_len {x : api_Foot} (h : fkE x = 0) : (ftE x).length ≤ 233 := by
  obtain ⟨h1, h2, h3, h4, h5, h6, h7⟩ := fk_ok h
  obtain ⟨d1, d2⟩ := fk_dead h
  have k1 := num7_len (n := x.Seq.toNat) (by omega)
  have k2 := num7_len (n := x.Bytes.toNat) (by omega)
  have k3 := num7_len (n := x.Count.toNat) (by omega)
  have k4 : (x.Dead.flatMap fun n => num7 n.toNat).length ≤ x.Dead.length := by
    clear h7 d1
    generalize x.Dead = l at d2
    induction l with
    | nil => simp
    | cons n l ih =>
      have := ih (fun m hm => d2 m (List.mem_cons_of_mem _ hm))
      have hn := d2 n List.mem_cons_self
      have := num7_len1 (n := n.toNat) (by omega)
      simp only [List.flatMap_cons, List.length_append, List.length_cons]
      omega
  simp only [ftE, List.length_append]
  omega
theorem RegionBack_pure (x : api_Foot) (b : List (BitVec 8)) (_ : wf_api_Foot x) (_ : wfL wfT b) : butterylaw14_RegionBack x b = some true := by
  unfold butterylaw14_RegionBack
  simp only [lt_eq]
  by_cases h1 : (x.Dead.length : Int) > 200
  · simp [h1, works14]
  · by_cases h2 : (b.length : Int) > 600
    · simp [h1, h2, works14]
    · simp only [decide_eq_false h1, decide_eq_false h2, Bool.false_eq_true, if_false, Option.bind_some, refCheck_eq14 x (by omega)]
      have tail : ((region_Get b).bind fun v53 => if (!v53.2.isNil) = true then (butterylaw14_works).bind fun v64 => some v64
          else (region_Put v53.1).bind fun v66 => if v66.2.isNil = true then (butteryref02_Same v66.1 b).bind fun v71 => if v71 = true then (butterylaw14_works).bind fun v74 => some v74 else some false else some false) = some true := by
        obtain ⟨e, g1, g2, g3⟩ := get_eq14 (b := b) (by omega)
        simp only [g1, Option.bind_some, g3]
        by_cases hg : (fgE b).2 = 0
        · obtain ⟨k1, k2⟩ := ft_fg hg
          have hdl := (fk_dead k1).1
          rw [if_neg (by simp [hg]), (put_eq14 _ (by omega)).1 k1, k2]
          simp only [Option.bind_some, isNil_nil14, if_true, same_eq b b (by omega), decide_true, works14]
        · rw [if_pos (by simp [hg])]
          simp only [works14, Option.bind_some]
      by_cases hx : fkE x = 0
      · have hl := ft_len hx
        obtain ⟨e, g1, g2, g3⟩ := get_eq14 (b := ftE x) (by omega)
        rw [fg_ft hx] at g1 g2 g3
        have hdd : decide (((ftE x).length : Int) > 233) = false := decide_eq_false (by omega)
        simp only [hx, beq_self_eq_true, if_true, (put_eq14 x (by omega)).1 hx, g1, Option.bind_some, isNil_nil14, g3, Bool.not_true, Bool.false_eq_true, if_false, same_refl14 x (by omega), decide_true, hdd, Sum.elim_inl]
        exact tail
      · rw [if_neg (by simpa using hx)]
        exact tail
end Go.Proofs.YtkmlinaofbcbaaaDoor
namespace Go.Proofs.YtkmlinaofbcbaaaDoor
open Go.ChangeShapes Go.WideShapes Go.RowKit
theorem own : ownKnob Tryd.prog.godebug = none := by kernel_rfl
theorem laidEt : Tryd.prog.globalNamed "errors.errorType" = some 0 := by kernel_rfl
theorem laidRt : (Tryd.prog.cutTypes.find? (·.1 == "internal/reflectlite.rtype")).map (·.2) = some 181 := by kernel_rfl
theorem laidRow : ((List.range 222).filter fun t => Tryd.prog.rowNamed t [101, 114, 114, 111, 114]) = [30] := by kernel_rfl
theorem laidSize : Tryd.prog.types.size = 222 := by kernel_rfl
def laidL {H : Type} : List (String × DataW H) := [("errors.errorType", Rows.laid_errors_errorType)]
theorem handle_of_laid {W : World} (h : laidMetH Tryd.prog laidL W) : W.cell? ⟨0, 0, none⟩ = some (.iface 181 (.agg #[.pointer (some ⟨1, 30, none⟩)])) := by
  have h' : laidMet Tryd.prog [] W ∧ handlesMet Tryd.prog laidL W := h
  obtain ⟨name, u, ty, e1, e2, e3, e4, e5⟩ := h'.2 _ (List.mem_singleton.2 rfl)
  have en : name = [101, 114, 114, 111, 114] := (Option.some.inj e1).symm
  subst en
  obtain rfl := Option.some.inj (laidRt.symm.trans e2)
  have hm : ty ∈ (List.range 222).filter fun t => Tryd.prog.rowNamed t [101, 114, 114, 111, 114] := List.mem_filter.2 ⟨List.mem_range.2 (by rw [← laidSize]; exact e3), e4⟩
  rw [laidRow] at hm
  obtain rfl := List.mem_singleton.1 hm
  have hh : typeHandle Tryd.prog 30 = .pointer (some ⟨1, 30, none⟩) := by kernel_rfl
  rw [hh] at e5
  simpa using World.var?_cell laidEt e5 0
/-- A world that meets the condition. -/
noncomputable def laidWorld (os : Os) : World :=
  let w0 := World.holding Tryd.prog os ⟨#[], #[], []⟩
  { w0 with heap := w0.heap.modify 0 fun
      | .cells _ t frozen => .cells #[.iface 181 (.agg #[.pointer (some ⟨1, 30, none⟩)])] t frozen
      | o => o }
theorem laidWorld_met (os : Os) (args : Array Value) : laidMetH Tryd.prog laidL ((laidWorld os).forCall (fun _ _ => 0) ⟨#[], args, []⟩).memory :=
  laidMetH_of_parts (laidMet_nil _ _) (by kernel_rfl)
theorem gls_met {W : World} (h : laidMetH Tryd.prog laidL W) : ∀ p ∈ gls, W.cell? p.1 = some p.2 := by
  intro p hp
  obtain rfl := List.mem_singleton.1 hp
  exact handle_of_laid h
theorem laidOut : laidOutB Tryd.prog = true := by kernel_rfl
end Go.Proofs.YtkmlinaofbcbaaaDoor
