/- THERE AND BACK: entries that may be are read from their bytes as they were; bytes that are read are those of what they are. (part 5 of 6) -/
import Derived.Test.YtgfedohhkbmobaaDoorKItemBack4
import Derived.ChangeSame
import Derived.ChangeVars
import Derived.JoinedOf
import Derived.LaidHandle
import Derived.LaidLaws
import Derived.RowKit
import Derived.RowKitTokens
import Derived.Stop.Joined
import Derived.Test.YtgfedohhkbmobaaDoorRows
namespace Go.Proofs.YtgfedohhkbmobaaDoor
open Go Go.Va
set_option linter.unusedVariables false
set_option linter.unusedSimpArgs false
set_option maxRecDepth 20000
noncomputable def butteryref02_Put_b0 (x1 : List Int) (c5 : List (BitVec 8)) (c6 : Int) : Option (((List (BitVec 8)) × Int) ⊕ ((List (BitVec 8)))) :=
  lt (((x1).length : Int)) fun v17 =>
  lt (decide (c6 < v17)) fun v19 =>
  if v19 = true then
    (ix x1 c6).bind fun v22 =>
    (butteryref02_num v22).bind fun v24 =>
    (app 1 c5 v24).bind fun v26 =>
    lt (w64 (c6 + (1 : Int))) fun v30 =>
    some (.inl (v26, v30))
  else
    some (.inr c5)
noncomputable def butteryref02_Put_l0 (x1 : List Int) (s : (List (BitVec 8)) × Int) : Option ((List (BitVec 8))) := loopO (fun s => butteryref02_Put_b0 x1 s.1 s.2) s
noncomputable def butteryref02_Put (x0 : List (BitVec 8)) (x1 : List Int) : Option ((List (BitVec 8))) :=
  (app 1 ([] : List (BitVec 8)) x0).bind fun v2 =>
  (butteryref02_Put_l0 x1 (v2, (0 : Int))).bind fun s14 =>
    some s14
end Go.Proofs.YtgfedohhkbmobaaDoor
namespace Go.Proofs.YtgfedohhkbmobaaDoor
open Go Go.Va
set_option linter.unusedVariables false
set_option linter.unusedSimpArgs false
set_option maxRecDepth 20000
noncomputable def butteryref02_Bytes (x0 : List (BitVec 8)) (x1 : List (BitVec 8)) : Option ((List (BitVec 8))) :=
  lt (((x1).length : Int)) fun v2 =>
  lt (([v2] : List Int)) fun v4 =>
  (butteryref02_Put x0 v4).bind fun v6 =>
  (app 1 v6 x1).bind fun v9 =>
  some v9
end Go.Proofs.YtgfedohhkbmobaaDoor
namespace Go.Proofs.YtgfedohhkbmobaaDoor
open Go Go.Va
set_option linter.unusedVariables false
set_option linter.unusedSimpArgs false
set_option maxRecDepth 20000
noncomputable def butteryref02_Word_b0 (x1 : BitVec 64) (c5 : List (BitVec 8)) (c6 : BitVec 64) (c7 : Int) : Option (((List (BitVec 8)) × (BitVec 64) × Int) ⊕ ((List (BitVec 8)))) :=
  lt (decide (c7 < (8 : Int))) fun v18 =>
  if v18 = true then
    ((dvU c6).map fun m => x1 / m).bind fun v21 =>
    lt (v21 % 256#64) fun v23 =>
    lt (BitVec.setWidth 8 v23) fun v25 =>
    lt (([v25] : List (BitVec 8))) fun v27 =>
    (app 1 c5 v27).bind fun v29 =>
    lt (c6 / 256#64) fun v33 =>
    lt (w64 (c7 + (1 : Int))) fun v35 =>
    some (.inl (v29, v33, v35))
  else
    some (.inr c5)
noncomputable def butteryref02_Word_l0 (x1 : BitVec 64) (s : (List (BitVec 8)) × (BitVec 64) × Int) : Option ((List (BitVec 8))) := loopO (fun s => butteryref02_Word_b0 x1 s.1 s.2.1 s.2.2) s
noncomputable def butteryref02_Word (x0 : List (BitVec 8)) (x1 : BitVec 64) : Option ((List (BitVec 8))) :=
  (app 1 ([] : List (BitVec 8)) x0).bind fun v2 =>
  (butteryref02_Word_l0 x1 (v2, 72057594037927936#64, (0 : Int))).bind fun s15 =>
    some s15
end Go.Proofs.YtgfedohhkbmobaaDoor
namespace Go.Proofs.YtgfedohhkbmobaaDoor
open Go Go.Va
set_option linter.unusedVariables false
set_option linter.unusedSimpArgs false
theorem same_eq (x y : List (BitVec 8)) (hx : x.length < 9223372036854775807) : butteryref02_Same x y = some (decide (x = y)) := by
  unfold butteryref02_Same
  simp only [lt_eq]
  by_cases hl : x.length = y.length
  · rw [if_neg (by simp [hl])]
    have h := loopO_find (body := fun s => butteryref02_Same_b0 x y s) (fun i : Nat => (i : Int)) x.length (fun i => if x[i]? ≠ y[i]? then some (Sum.inr false) else none) (x := .inl ()) (fun i hi => by
      simp only [butteryref02_Same_b0, lt_eq, ix_nat hi, ix_nat (show i < y.length by omega), Option.bind_some]
      rw [if_pos (by simpa using hi)]
      by_cases he : x[i] = y[i]
      · rw [if_neg (by simp [he]), if_neg (by simp [hi, show i < y.length by omega, he]), w64_nat (by omega)]; rfl
      · rw [if_pos (by simpa using he), if_pos (by simp [hi, show i < y.length by omega, he])]; rfl) (by simp [butteryref02_Same_b0, lt_eq])
    rw [show ((0 : Nat) : Int) = 0 from rfl] at h
    simp only [butteryref02_Same_l0, h, Option.bind_some]
    by_cases he : x = y
    · rw [List.findSome?_eq_none_iff.2 (fun i _ => by rw [if_neg (by simp [he])])]
      simp [he]
    · cases hf : (List.range x.length).findSome? (fun i => if x[i]? ≠ y[i]? then some (Sum.inr (α := Unit) false) else none) with
      | none =>
        refine absurd (List.ext_getElem? fun i => ?_) he
        have h1 := List.findSome?_eq_none_iff.1 hf
        rcases Nat.lt_or_ge i x.length with hi | hi
        · have := h1 i (by simpa using hi)
          by_cases hne : x[i]? = y[i]?
          · exact hne
          · rw [if_pos hne] at this; cases this
        · rw [List.getElem?_eq_none hi, List.getElem?_eq_none (by omega)]
      | some w =>
        obtain ⟨i, _, h2⟩ := List.exists_of_findSome?_eq_some hf
        split at h2
        · cases h2; simp [he]
        · cases h2
  · rw [if_pos (by simpa using fun e => hl (by exact_mod_cast e))]
    rw [decide_eq_false (fun e => hl (by rw [e]))]
theorem refnum_l : ∀ (k m : Nat) (out : List (BitVec 8)), m < 128 ^ k → m < 9223372036854775808 → out.length + k ≤ 1000 → butteryref02_num_l0 (out, (m : Int)) = some (pre m ++ out)
  | 0, m, out, h, h2, hl => by
    have : m = 0 := by simpa using h
    subst this
    rw [pre_zero]
    exact loopO_out (by simp [butteryref02_num_b0, lt_eq])
  | k + 1, m, out, h, h2, hl => by
    by_cases h0 : m = 0
    · subst h0
      rw [pre_zero]
      exact loopO_out (by simp [butteryref02_num_b0, lt_eq])
    · have hb : butteryref02_num_b0 out (m : Int) = some (.inl (BitVec.ofNat 8 (m % 128 + 128) :: out, ((m / 128 : Nat) : Int))) := by
        simp only [butteryref02_num_b0, lt_eq]
        rw [if_pos (by simp; omega)]
        have e1 : Int.tmod (m : Int) 128 = ((m % 128 : Nat) : Int) := tmod_nat m 128
        have e2 : quo64 (m : Int) 128 = ((m / 128 : Nat) : Int) := quo64_nat h2
        rw [e1, e2, w64_eq (by omega) (by omega), app_eq (by simp; omega)]
        rw [show (((m % 128 : Nat) : Int) + 128) = ((m % 128 + 128 : Nat) : Int) by omega, byte_int]
        rfl
      have := loopO_in (body := fun s => butteryref02_num_b0 s.1 s.2) (s := (out, (m : Int))) hb
      rw [butteryref02_num_l0, this]
      have ih := refnum_l k (m / 128) (BitVec.ofNat 8 (m % 128 + 128) :: out) (by rw [Nat.div_lt_iff_lt_mul (by decide)]; rw [Nat.pow_succ] at h; exact h) (by omega) (by simp; omega)
      rw [butteryref02_num_l0] at ih
      rw [ih, pre_pos (m := m) (by omega)]
      simp
theorem refnum_eq {n : Nat} (h : n < 9223372036854775808) : butteryref02_num (n : Int) = some (num7 n) := by
  simp only [butteryref02_num, lt_eq]
  have e1 : Int.tmod (n : Int) 128 = ((n % 128 : Nat) : Int) := tmod_nat n 128
  have e2 : quo64 (n : Int) 128 = ((n / 128 : Nat) : Int) := quo64_nat h
  rw [e1, e2, byte_int, refnum_l 9 (n / 128) _ (by omega) (by omega) (by simp)]
  rfl
/-- Numbers one behind the other. -/
def nums (l : List Int) : List (BitVec 8) := l.flatMap fun n => num7 n.toNat
def okN (l : List Int) : Prop := l.length ≤ 1000 ∧ ∀ n ∈ l, 0 ≤ n ∧ n ≤ 9223372036854775807
theorem nums_len : ∀ {l : List Int}, (∀ n ∈ l, 0 ≤ n ∧ n ≤ 9223372036854775807) → (nums l).length ≤ 9 * l.length
  | [], _ => Nat.le_refl _
  | n :: l, h => by
    have h1 := nums_len (l := l) (fun m hm => h m (List.mem_cons_of_mem _ hm))
    have h2 := h n List.mem_cons_self
    have h3 := num7_len (n := n.toNat) (by omega)
    simp only [nums, List.flatMap_cons, List.length_append, List.length_cons] at h1 ⊢
    omega
theorem nums_snoc (l : List Int) (n : Int) : nums (l ++ [n]) = nums l ++ num7 n.toNat := by simp [nums]
theorem refPut_eq (b : List (BitVec 8)) {l : List Int} (hb : b.length ≤ 1000000) (hl : okN l) : butteryref02_Put b l = some (b ++ nums l) := by
  simp only [butteryref02_Put]
  rw [app_eq (by simp; omega)]
  simp only [List.nil_append, Option.bind_some]
  have h := loopO_up (body := fun s => butteryref02_Put_b0 l s.1 s.2) (fun i => (b ++ nums (l.take i), (i : Int))) l.length (x := b ++ nums l) (fun i hi => by
    obtain ⟨hn0, hn1⟩ := hl.2 _ (List.getElem_mem hi)
    have hn : butteryref02_num l[i] = some (num7 l[i].toNat) := by
      have := refnum_eq (n := l[i].toNat) (by omega)
      rwa [Int.toNat_of_nonneg hn0] at this
    have h1 := nums_len (l := l.take i) (fun m hm => hl.2 m (List.mem_of_mem_take hm))
    have h2 := num7_len (n := l[i].toNat) (by omega)
    have h3 := hl.1
    simp only [List.length_take] at h1
    simp only [butteryref02_Put_b0, lt_eq, ix_nat hi, Option.bind_some, hn]
    rw [if_pos (by simpa using hi), app_eq (by simp only [List.length_append]; omega), w64_nat (by omega)]
    simp only [Option.bind_some]
    rw [List.take_succ_eq_append_getElem hi, nums_snoc, List.append_assoc]) (by simp [butteryref02_Put_b0, lt_eq])
  simp only [butteryref02_Put_l0]
  have h0 : b ++ nums (l.take 0) = b := by simp [nums]
  rw [h0] at h
  rw [show ((0 : Nat) : Int) = 0 from rfl] at h
  rw [h]; rfl
theorem oct_l1 (l : List Int) (v6 : Int) (c7 : List (BitVec 8)) (c8 : Int) {n : Nat} (hn : n < 9223372036854775808) : ∃ h : Nat, octets_Put_l1 l v6 c7 c8 (n : Int) 0 = some (h : Int) ∧ h ≤ 9 ∧ n / 128 ^ h < 128 ∧ ∀ j, j < h → 128 ≤ n / 128 ^ j := by
  have key := loopO_inv (body := fun s => octets_Put_b1 l v6 c7 c8 (n : Int) s) (fun s => ∃ h : Nat, s = (h : Int) ∧ h ≤ 9 ∧ ∀ j, j < h → 128 ≤ n / 128 ^ j) (fun s => 10 - s.toNat) (fun x => ∃ h : Nat, x = (h : Int) ∧ h ≤ 9 ∧ n / 128 ^ h < 128 ∧ ∀ j, j < h → 128 ≤ n / 128 ^ j) (fun s => by
    rintro ⟨h, rfl, h9, hj⟩
    have ew : w64 (7 * (h : Int)) = ((7 * h : Nat) : Int) := by rw [w64_eq (by omega) (by omega)]; omega
    have es : shr64 (n : Int) (7 * h) = ((n / 128 ^ h : Nat) : Int) := by
      rw [shr64_nat (by omega), Nat.pow_mul]
    simp only [octets_Put_b1, lt_eq, ew, sc_eq (Int.natCast_nonneg _), Int.toNat_natCast, Option.map_some, Option.bind_some, es]
    by_cases hc : 128 ≤ n / 128 ^ h
    · left
      have h8 : h ≤ 8 := by
        rcases Nat.lt_or_ge 8 h with h8 | h8
        · have : h = 9 := by omega
          subst this
          omega
        · exact h8
      refine ⟨((h + 1 : Nat) : Int), ?_, ⟨h + 1, rfl, by omega, fun j hj' => ?_⟩, by omega⟩
      · rw [if_pos (decide_eq_true (show ((n / 128 ^ h : Nat) : Int) ≥ 128 by omega)), w64_nat (by omega)]
      · by_cases e : j = h
        · subst e; exact hc
        · exact hj j (by omega)
    · right
      exact ⟨_, by rw [if_neg (by rw [decide_eq_false (show ¬ ((n / 128 ^ h : Nat) : Int) ≥ 128 by omega)]; simp)], h, rfl, h9, by omega, hj⟩) (s := 0) ⟨0, rfl, by omega, fun j hj => by omega⟩
  obtain ⟨x, h1, h, rfl, h2⟩ := key
  exact ⟨h, h1, h2⟩
theorem oct_l2 (l : List Int) (v6 : Int) (c8 : Int) {n : Nat} : ∀ (h : Nat) (out : List (BitVec 8)), h ≤ 9 → out.length + h ≤ 100000000 → octets_Put_l2 l v6 c8 (n : Int) (out, (h : Int)) = some (out ++ seq7 n h)
  | 0, out, h9, hl => by
    simp only [seq7, List.append_nil]
    exact loopO_out (by simp [octets_Put_b2, lt_eq])
  | h + 1, out, h9, hl => by
    have ew : w64 (7 * ((h + 1 : Nat) : Int)) = ((7 * (h + 1) : Nat) : Int) := by rw [w64_eq (by omega) (by omega)]; omega
    have es : shr64 (n : Int) (7 * (h + 1)) = ((n / 128 ^ (h + 1) : Nat) : Int) := by
      rw [shr64_nat (by omega), Nat.pow_mul]
    have hb : octets_Put_b2 l v6 c8 (n : Int) out ((h + 1 : Nat) : Int) = some (.inl (out ++ [BitVec.ofNat 8 (n / 128 ^ (h + 1) % 128 + 128)], (h : Int))) := by
      simp only [octets_Put_b2, lt_eq, ew, sc_eq (Int.natCast_nonneg _), Int.toNat_natCast, Option.map_some, Option.bind_some, es]
      rw [if_pos (decide_eq_true (by omega)), app_eq (by simp; omega), byte_hi, w64_eq (by omega) (by omega)]
      simp only [Option.bind_some]
      rw [show (((h + 1 : Nat) : Int) - 1) = (h : Int) by omega]
    have := loopO_in (body := fun s => octets_Put_b2 l v6 c8 (n : Int) s.1 s.2) (s := (out, ((h + 1 : Nat) : Int))) hb
    rw [octets_Put_l2, this]
    have ih := oct_l2 l v6 c8 (n := n) h (out ++ [BitVec.ofNat 8 (n / 128 ^ (h + 1) % 128 + 128)]) (by omega) (by simp; omega)
    rw [octets_Put_l2] at ih
    rw [ih, seq7, List.append_assoc]; rfl
theorem octPut_eq (b : List (BitVec 8)) {l : List Int} (hb : b.length ≤ 1000000) (hl : okN l) : octets_Put b l = some (b ++ nums l) := by
  simp only [octets_Put]
  rw [app_eq (by simp; omega)]
  simp only [List.nil_append, Option.bind_some, lt_eq]
  have h := loopO_up (body := fun s => octets_Put_b0 l (l.length : Int) s.1 s.2) (fun i => (b ++ nums (l.take i), (i : Int))) l.length (x := b ++ nums l) (fun i hi => by
    obtain ⟨hn0, hn1⟩ := hl.2 _ (List.getElem_mem hi)
    obtain ⟨n, hn⟩ : ∃ n : Nat, l[i] = (n : Int) := ⟨l[i].toNat, by omega⟩
    have hlt : n < 9223372036854775808 := by omega
    have h1 := nums_len (l := l.take i) (fun m hm => hl.2 m (List.mem_of_mem_take hm))
    have h3 := hl.1
    simp only [List.length_take] at h1
    obtain ⟨h, k1, k2, k3, k4⟩ := oct_l1 l (l.length : Int) (b ++ nums (l.take i)) (i : Int) hlt
    have h2 := num7_len hlt
    have hs := seq7_pre h n k3 k4
    simp only [octets_Put_b0, lt_eq, ix_nat hi, Option.bind_some, hn, k1]
    rw [oct_l2 l _ _ h _ k2 (by simp only [List.length_append]; omega), hs]
    have h2' : (pre (n / 128)).length ≤ 9 := by simp [num7] at h2; omega
    simp only [Option.bind_some, byte_lo]
    rw [if_pos (by simpa using hi), app_eq (by simp only [List.length_append, List.length_cons, List.length_nil]; omega), w64_nat (by omega)]
    simp only [Option.bind_some]
    rw [List.take_succ_eq_append_getElem hi, nums_snoc, hn, Int.toNat_natCast, num7]
    simp only [List.append_assoc]) (by simp [octets_Put_b0, lt_eq])
  simp only [octets_Put_l0]
  have h0 : b ++ nums (l.take 0) = b := by simp [nums]
  rw [h0] at h
  rw [show ((0 : Nat) : Int) = 0 from rfl] at h
  rw [h]; rfl
theorem okN_one {n : Nat} (h : n < 9223372036854775808) : okN [(n : Int)] := ⟨by simp, fun m hm => by simp at hm; omega⟩
theorem octBytes_eq (b t : List (BitVec 8)) (hb : b.length ≤ 1000000) (ht : t.length ≤ 1000000) : octets_Bytes b t = some (b ++ num7 t.length ++ t) := by
  have h2 := num7_len (n := t.length) (by omega)
  simp only [octets_Bytes, lt_eq, octPut_eq b hb (okN_one (n := t.length) (by omega)), Option.bind_some, nums, List.flatMap_cons, List.flatMap_nil, List.append_nil, Int.toNat_natCast]
  rw [app_eq (by simp only [List.length_append]; omega)]; rfl
theorem refBytes_eq (b t : List (BitVec 8)) (hb : b.length ≤ 1000000) (ht : t.length ≤ 1000000) : butteryref02_Bytes b t = some (b ++ num7 t.length ++ t) := by
  have h2 := num7_len (n := t.length) (by omega)
  simp only [butteryref02_Bytes, lt_eq, refPut_eq b hb (okN_one (n := t.length) (by omega)), Option.bind_some, nums, List.flatMap_cons, List.flatMap_nil, List.append_nil, Int.toNat_natCast]
  rw [app_eq (by simp only [List.length_append]; omega)]; rfl
end Go.Proofs.YtgfedohhkbmobaaDoor
namespace Go.Proofs.YtgfedohhkbmobaaDoor
open Go Go.Va
set_option linter.unusedVariables false
set_option linter.unusedSimpArgs false
/-- The first i bytes of a word. -/
def wd (n : BitVec 64) (i : Nat) : List (BitVec 8) := (List.range i).map fun j => (n >>> (56 - 8 * j)).setWidth 8
theorem wd_succ (n : BitVec 64) (i : Nat) : wd n (i + 1) = wd n i ++ [(n >>> (56 - 8 * i)).setWidth 8] := by
  simp [wd, List.range_succ]
theorem wd_len (n : BitVec 64) (i : Nat) : (wd n i).length = i := by simp [wd]
theorem octWord_eq (b : List (BitVec 8)) (n : BitVec 64) (hb : b.length ≤ 1000000) : octets_Word b n = some (b ++ wd n 8) := by
  simp only [octets_Word]
  rw [app_eq (by simp; omega)]
  simp only [List.nil_append, Option.bind_some]
  have h := loopO_up (body := fun s => octets_Word_b0 n s.1 s.2) (fun i => (b ++ wd n i, 56 - 8 * (i : Int))) 8 (x := b ++ wd n 8) (fun i hi => by
    have hs : sc (56 - 8 * (i : Int)) = some (56 - 8 * i) := by rw [sc_eq (by omega)]; congr 1; omega
    simp only [octets_Word_b0, lt_eq, hs, Option.map_some, Option.bind_some]
    rw [if_pos (decide_eq_true (by omega)), app_eq (by simp only [List.length_append, wd_len, List.length_cons, List.length_nil]; omega), w64_eq (by omega) (by omega)]
    simp only [Option.bind_some]
    rw [wd_succ, List.append_assoc, show (56 - 8 * (i : Int) - 8) = 56 - 8 * ((i + 1 : Nat) : Int) by omega]) (by simp [octets_Word_b0, lt_eq])
  have h0 : b ++ wd n 0 = b := by simp [wd]
  rw [h0, show (56 - 8 * ((0 : Nat) : Int)) = 56 by omega] at h
  simp only [octets_Word_l0, h, Option.bind_some]
theorem refWord_eq (b : List (BitVec 8)) (n : BitVec 64) (hb : b.length ≤ 1000000) : butteryref02_Word b n = some (b ++ wd n 8) := by
  simp only [butteryref02_Word]
  rw [app_eq (by simp; omega)]
  simp only [List.nil_append, Option.bind_some]
  have h := loopO_up (body := fun s => butteryref02_Word_b0 n s.1 s.2.1 s.2.2) (fun i => (b ++ wd n i, BitVec.ofNat 64 (2 ^ 56 / 256 ^ i), (i : Int))) 8 (x := b ++ wd n 8) (fun i hi => by
    have hx : ∀ i : Fin 8, BitVec.ofNat 64 (2 ^ 56 / 256 ^ i.val) ≠ 0#64 ∧ BitVec.ofNat 64 (2 ^ 56 / 256 ^ i.val) / 256#64 = BitVec.ofNat 64 (2 ^ 56 / 256 ^ (i.val + 1)) ∧ 2 ^ 56 / 256 ^ i.val = 2 ^ (56 - 8 * i.val) := by decide
    obtain ⟨k1, k2, k3⟩ := hx ⟨i, hi⟩
    simp only [butteryref02_Word_b0, lt_eq, dvU_eq k1, Option.map_some, Option.bind_some]
    rw [if_pos (decide_eq_true (by omega)), app_eq (by simp only [List.length_append, wd_len, List.length_cons, List.length_nil]; omega), w64_nat (by omega)]
    simp only [Option.bind_some]
    rw [wd_succ, List.append_assoc, k2]
    have : BitVec.setWidth 8 (n / BitVec.ofNat 64 (2 ^ 56 / 256 ^ i) % 256#64) = (n >>> (56 - 8 * i)).setWidth 8 := by
      apply BitVec.eq_of_toNat_eq
      simp only at k3
      rw [k3]
      have h2 : 2 ^ (56 - 8 * i) < 2 ^ 64 := Nat.pow_lt_pow_right (by decide) (by omega)
      simp only [BitVec.toNat_setWidth, BitVec.toNat_umod, BitVec.toNat_udiv, BitVec.toNat_ofNat, BitVec.toNat_ushiftRight, Nat.shiftRight_eq_div_pow]
      rw [Nat.mod_eq_of_lt h2]
      generalize n.toNat / 2 ^ (56 - 8 * i) = q
      rw [show 256 % 2 ^ 64 = 256 by decide]
      omega
    rw [this]) (by simp [butteryref02_Word_b0, lt_eq])
  have h0 : b ++ wd n 0 = b := by simp [wd]
  rw [h0, show BitVec.ofNat 64 (2 ^ 56 / 256 ^ 0) = 72057594037927936#64 by decide, show ((0 : Nat) : Int) = 0 from rfl] at h
  simp only [butteryref02_Word_l0, h, Option.bind_some]
theorem shr35 {n : Nat} : shr64 (n : Int) 35 = ((n / 34359738368 : Nat) : Int) := by rw [shr64_nat (by omega)]
theorem octLen_n {n : Nat} (h : n < 9223372036854775808) : ∀ k, octets_Len_n (k + 3) (n : Int) = some (nlen n : Int) := by
  have hs : ∀ (rec : Int → Option Int) {n : Nat}, n < 34359738368 → octets_Len_F rec (n : Int) = some (nlen n : Int) := by
    intro rec n hn
    simp only [octets_Len_F, lt_eq]
    rw [if_neg (by rw [decide_eq_false (by omega)]; simp)]
    by_cases h4 : 268435456 ≤ n
    · rw [if_pos (decide_eq_true (by omega)), nlen_ge (by omega), nlen_ge (by omega), nlen_ge (by omega), nlen_ge (by omega), nlen_lt (by omega)]; rfl
    rw [if_neg (by rw [decide_eq_false (by omega)]; simp)]
    by_cases h3 : 2097152 ≤ n
    · rw [if_pos (decide_eq_true (by omega)), nlen_ge (by omega), nlen_ge (by omega), nlen_ge (by omega), nlen_lt (by omega)]; rfl
    rw [if_neg (by rw [decide_eq_false (by omega)]; simp)]
    by_cases h2 : 16384 ≤ n
    · rw [if_pos (decide_eq_true (by omega)), nlen_ge (by omega), nlen_ge (by omega), nlen_lt (by omega)]; rfl
    rw [if_neg (by rw [decide_eq_false (by omega)]; simp)]
    by_cases h1 : 128 ≤ n
    · rw [if_pos (decide_eq_true (by omega)), nlen_ge (by omega), nlen_lt (by omega)]; rfl
    rw [if_neg (by rw [decide_eq_false (by omega)]; simp), nlen_lt (by omega)]; rfl
  intro k
  by_cases hn : n < 34359738368
  · exact hs (octets_Len_n (k + 2)) hn
  · show octets_Len_F (octets_Len_n (k + 2)) (n : Int) = _
    simp only [octets_Len_F, lt_eq]
    rw [if_pos (decide_eq_true (by omega)), shr35]
    have : octets_Len_n (k + 2) ((n / 34359738368 : Nat) : Int) = _ := hs (octets_Len_n (k + 1)) (by omega)
    rw [this, Option.bind_some]
    have hq : nlen n = nlen (n / 34359738368) + 5 := by
      rw [nlen_ge (n := n) (by omega), nlen_ge (n := n / 128) (by omega), nlen_ge (n := n / 128 / 128) (by omega), nlen_ge (n := n / 128 / 128 / 128) (by omega), nlen_ge (n := n / 128 / 128 / 128 / 128) (by omega)]
      rw [show n / 128 / 128 / 128 / 128 / 128 = n / 34359738368 by omega]
    have hb : nlen (n / 34359738368) ≤ 10 := by
      have : n / 34359738368 < 268435456 := by omega
      generalize n / 34359738368 = m at this
      rcases Nat.lt_or_ge m 128 with h1 | h1
      · rw [nlen_lt h1]; omega
      rw [nlen_ge h1]
      rcases Nat.lt_or_ge (m / 128) 128 with h2 | h2
      · rw [nlen_lt h2]; omega
      rw [nlen_ge h2]
      rcases Nat.lt_or_ge (m / 128 / 128) 128 with h3 | h3
      · rw [nlen_lt h3]; omega
      rw [nlen_ge h3, nlen_lt (by omega)]; omega
    rw [w64_eq (by omega) (by omega), hq]
    congr 1; omega
theorem octLen_eq {n : Nat} (h : n < 9223372036854775808) : octets_Len (n : Int) = some (nlen n : Int) := octLen_n h 999997
theorem key_eq (x : List (BitVec 8)) : octets_Key x = butteryref02_Key x := by
  simp only [octets_Key, butteryref02_Key, lt_eq]
  cases x with
  | nil => rfl
  | cons a x => rw [if_neg (show ¬ ((((a :: x).length : Int) == 0) = true) by simp; omega), if_neg (show ¬ ((a :: x == []) = true) by simp)]
theorem key_some (x : List (BitVec 8)) : ∃ v, octets_Key x = some v := by
  simp only [octets_Key, lt_eq]
  split
  · exact ⟨_, rfl⟩
  · split <;> exact ⟨_, rfl⟩
end Go.Proofs.YtgfedohhkbmobaaDoor
namespace Go.Proofs.YtgfedohhkbmobaaDoor
open Go Go.Va
set_option linter.unusedVariables false
set_option linter.unusedSimpArgs false
set_option maxRecDepth 20000
noncomputable def octets_Reader_Word_b0 (s13 : octets_Reader) (v27 : List (BitVec 8)) (v29 : Int) (c30 : BitVec 64) (c31 : Int) : Option (((BitVec 64) × Int) ⊕ ((BitVec 64))) :=
  lt (decide (c31 < v29)) fun v42 =>
  if v42 = true then
    (ix v27 c31).bind fun v45 =>
    lt (c30 <<< 8) fun v47 =>
    lt (BitVec.setWidth 64 v45) fun v49 =>
    lt (v47 ||| v49) fun v51 =>
    lt (w64 (c31 + (1 : Int))) fun v53 =>
    some (.inl (v51, v53))
  else
    some (.inr c30)
noncomputable def octets_Reader_Word_l0 (s13 : octets_Reader) (v27 : List (BitVec 8)) (v29 : Int) (s : (BitVec 64) × Int) : Option ((BitVec 64)) := loopO (fun s => octets_Reader_Word_b0 s13 v27 v29 s.1 s.2) s
noncomputable def octets_Reader_Word (x0 : octets_Reader) : Option ((BitVec 64) × octets_Reader) :=
  (
    lt (x0.code == (0 : Int)) fun v6 =>
    if v6 = true then
      (octets_Reader_Left x0).bind fun v9 =>
      lt (decide (v9 < (8 : Int))) fun v11 =>
      some v11
    else
      some false
   : Option (Bool)).bind fun s1 =>
    (
      if s1 = true then
        (octets_Reader_Fail x0 (6 : Int)).bind fun v19 =>
        some v19
      else
        some x0
     : Option (octets_Reader)).bind fun s13 =>
      lt (s13.code != (0 : Int)) fun v22 =>
      if v22 = true then
        some (0#64, s13)
      else
        lt (w64 (s13.at_ + (8 : Int))) fun v25 =>
        (cutO s13.b s13.at_ v25).bind fun v27 =>
        lt (((v27).length : Int)) fun v29 =>
        (octets_Reader_Word_l0 s13 v27 v29 (0#64, (0 : Int))).bind fun s39 =>
          lt (w64 (s13.at_ + (8 : Int))) fun v56 =>
          lt (({ s13 with at_ := v56 } : octets_Reader)) fun c58 =>
          some (s39, c58)
end Go.Proofs.YtgfedohhkbmobaaDoor
namespace Go.Proofs.YtgfedohhkbmobaaDoor
open Go Go.Va
set_option linter.unusedVariables false
set_option linter.unusedSimpArgs false
set_option maxRecDepth 20000
noncomputable def butteryref02_fail (x0 : butteryref02_Reader) (x1 : Int) : Option (butteryref02_Reader) :=
  lt (x0.Code == (0 : Int)) fun v7 =>
  if v7 = true then
    lt (({ (x0 : butteryref02_Reader) with Code := x1 } : butteryref02_Reader)) fun c10 =>
    some (c10 : butteryref02_Reader)
  else
    some ((x0 : butteryref02_Reader) : butteryref02_Reader)
end Go.Proofs.YtgfedohhkbmobaaDoor
namespace Go.Proofs.YtgfedohhkbmobaaDoor
open Go Go.Va
set_option linter.unusedVariables false
set_option linter.unusedSimpArgs false
set_option maxRecDepth 20000
noncomputable def butteryref02_Number_b0 (x0 : butteryref02_Reader) (x1 : Int) (c7 : Int) (c8 : Int) : Option ((Int × Int) ⊕ (Unit ⊕ (butteryref02_Reader × Int))) :=
  lt (((x0.B).length : Int)) fun v19 =>
  lt (decide (c8 < v19)) fun v21 =>
  if v21 = true then
    (ix x0.B c8).bind fun v24 =>
    lt ((BitVec.toNat v24 : Int)) fun v26 =>
    (
      lt (v26 == (128 : Int)) fun v32 =>
      if v32 = true then
        lt (c8 == x0.At) fun v35 =>
        some v35
      else
        some false
     : Option (Bool)).bind fun s27 =>
      if s27 = true then
        (butteryref02_fail x0 (5 : Int)).bind fun v39 =>
        some (.inr (.inr ((v39 : butteryref02_Reader), (0 : Int))))
      else
        lt (quo64 x1 (128 : Int)) fun v43 =>
        lt (decide (c7 > v43)) fun v45 =>
        if v45 = true then
          (butteryref02_fail x0 (2 : Int)).bind fun v48 =>
          some (.inr (.inr ((v48 : butteryref02_Reader), (0 : Int))))
        else
          lt (w64 (c7 * (128 : Int))) fun v52 =>
          lt (Int.tmod v26 (128 : Int)) fun v54 =>
          lt (w64 (v52 + v54)) fun v56 =>
          lt (decide (v26 ≥ (128 : Int))) fun v58 =>
          if v58 = true then
            lt (w64 (c8 + (1 : Int))) fun v61 =>
            some (.inl (v56, v61))
          else
            lt (decide (v56 > x1)) fun v63 =>
            if v63 = true then
              (butteryref02_fail x0 (2 : Int)).bind fun v66 =>
              some (.inr (.inr ((v66 : butteryref02_Reader), (0 : Int))))
            else
              lt (w64 (c8 + (1 : Int))) fun v73 =>
              lt (({ (x0 : butteryref02_Reader) with At := v73 } : butteryref02_Reader)) fun c75 =>
              some (.inr (.inr ((c75 : butteryref02_Reader), v56)))
  else
    some (.inr (.inl ()))
noncomputable def butteryref02_Number_l0 (x0 : butteryref02_Reader) (x1 : Int) (s : Int × Int) : Option (Unit ⊕ (butteryref02_Reader × Int)) := loopO (fun s => butteryref02_Number_b0 x0 x1 s.1 s.2) s
noncomputable def butteryref02_Number (x0 : butteryref02_Reader) (x1 : Int) : Option (butteryref02_Reader × Int) :=
  lt (x0.Code != (0 : Int)) fun v4 =>
  if v4 = true then
    some ((x0 : butteryref02_Reader), (0 : Int))
  else
    (butteryref02_Number_l0 x0 x1 ((0 : Int), x0.At)).bind fun o9 =>
      Sum.elim (fun s16 : Unit =>
        (butteryref02_fail x0 (6 : Int)).bind fun v81 =>
        some ((v81 : butteryref02_Reader), (0 : Int))
        ) (fun y => some y) o9
end Go.Proofs.YtgfedohhkbmobaaDoor
namespace Go.Proofs.YtgfedohhkbmobaaDoor
open Go Go.Va
set_option linter.unusedVariables false
set_option linter.unusedSimpArgs false
set_option maxRecDepth 20000
noncomputable def butteryref02_Text (x0 : butteryref02_Reader) (x1 : Int) : Option (butteryref02_Reader × (List (BitVec 8))) :=
  (butteryref02_Number x0 x1).bind fun v4 =>
  lt (((v4.1 : butteryref02_Reader).Code) != (0 : Int)) fun v9 =>
  if v9 = true then
    some (((v4.1 : butteryref02_Reader) : butteryref02_Reader), [])
  else
    lt ((((v4.1 : butteryref02_Reader).B).length : Int)) fun v13 =>
    lt (w64 (v13 - ((v4.1 : butteryref02_Reader).At))) fun v15 =>
    lt (decide (v4.2 > v15)) fun v17 =>
    if v17 = true then
      (butteryref02_fail x0 (6 : Int)).bind fun v20 =>
      some ((v20 : butteryref02_Reader), [])
    else
      lt (w64 (((v4.1 : butteryref02_Reader).At) + v4.2)) fun v23 =>
      (cutO ((v4.1 : butteryref02_Reader).B) ((v4.1 : butteryref02_Reader).At) v23).bind fun v25 =>
      (app 1 ([] : List (BitVec 8)) v25).bind fun v27 =>
      lt (w64 (((v4.1 : butteryref02_Reader).At) + v4.2)) fun v31 =>
      lt (({ (v4.1 : butteryref02_Reader) with At := v31 } : butteryref02_Reader)) fun c33 =>
      some ((c33 : butteryref02_Reader), v27)
end Go.Proofs.YtgfedohhkbmobaaDoor
namespace Go.Proofs.YtgfedohhkbmobaaDoor
open Go Go.Va
set_option linter.unusedVariables false
set_option linter.unusedSimpArgs false
set_option maxRecDepth 20000
noncomputable def butteryref02_Eight_b0 (x0 : butteryref02_Reader) (c17 : BitVec 64) (c18 : Int) : Option (((BitVec 64) × Int) ⊕ ((BitVec 64))) :=
  lt (decide (c18 < (8 : Int))) fun v29 =>
  if v29 = true then
    lt (c17 * 256#64) fun v32 =>
    lt (w64 (x0.At + c18)) fun v34 =>
    (ix x0.B v34).bind fun v36 =>
    lt (BitVec.setWidth 64 v36) fun v38 =>
    lt (v32 + v38) fun v40 =>
    lt (w64 (c18 + (1 : Int))) fun v42 =>
    some (.inl (v40, v42))
  else
    some (.inr c17)
noncomputable def butteryref02_Eight_l0 (x0 : butteryref02_Reader) (s : (BitVec 64) × Int) : Option ((BitVec 64)) := loopO (fun s => butteryref02_Eight_b0 x0 s.1 s.2) s
noncomputable def butteryref02_Eight (x0 : butteryref02_Reader) : Option (butteryref02_Reader × (BitVec 64)) :=
  lt (x0.Code != (0 : Int)) fun v4 =>
  if v4 = true then
    some ((x0 : butteryref02_Reader), 0#64)
  else
    lt (((x0.B).length : Int)) fun v8 =>
    lt (w64 (v8 - x0.At)) fun v10 =>
    lt (decide (v10 < (8 : Int))) fun v12 =>
    if v12 = true then
      (butteryref02_fail x0 (6 : Int)).bind fun v15 =>
      some ((v15 : butteryref02_Reader), 0#64)
    else
      (butteryref02_Eight_l0 x0 (0#64, (0 : Int))).bind fun s26 =>
        lt (w64 (x0.At + (8 : Int))) fun v48 =>
        lt (({ (x0 : butteryref02_Reader) with At := v48 } : butteryref02_Reader)) fun c50 =>
        some ((c50 : butteryref02_Reader), s26)
end Go.Proofs.YtgfedohhkbmobaaDoor
namespace Go.Proofs.YtgfedohhkbmobaaDoor
open Go Go.Va
set_option linter.unusedVariables false
set_option linter.unusedSimpArgs false
theorem drop_cons {b l : List (BitVec 8)} {c : BitVec 8} {pos : Nat} (h : b.drop pos = c :: l) : ∃ hp : pos < b.length, b[pos] = c ∧ b.drop (pos + 1) = l := by
  have hp : pos < b.length := by
    rcases Nat.lt_or_ge pos b.length with h1 | h1
    · exact h1
    · rw [List.drop_of_length_le h1] at h; cases h
  rw [List.drop_eq_getElem_cons hp] at h
  simp only [List.cons.injEq] at h
  exact ⟨hp, h.1, h.2⟩
theorem fail_eq (b : List (BitVec 8)) (a e : Int) : octets_Reader_Fail ⟨b, a, 0⟩ e = some ⟨b, a, e⟩ := rfl
theorem rfail_eq (b : List (BitVec 8)) (a e : Int) : butteryref02_fail ⟨b, a, 0⟩ e = some ⟨b, a, e⟩ := rfl
def oOut (b : List (BitVec 8)) (a pos : Nat) : Int ⊕ (Nat × Nat) → octets_Reader ⊕ (Int × octets_Reader)
  | .inl e => .inl ⟨b, a, e⟩
  | .inr (m, k) => .inr ((m : Int), ⟨b, ((pos + k : Nat) : Int), 0⟩)
theorem oOut_go (b : List (BitVec 8)) (a pos : Nat) (r : Int ⊕ (Nat × Nat)) : oOut b a pos (up7 r) = oOut b a (pos + 1) r := by
  cases r with
  | inl e => rfl
  | inr p => simp only [up7, oOut]; rw [show pos + (p.2 + 1) = pos + 1 + p.2 by omega]
theorem rd7_err {most : Nat} : ∀ {l : List (BitVec 8)} {f : Bool} {n : Nat} {e : Int}, rd7 most l f n = .inl e → e = 2 ∨ e = 5 ∨ e = 6
  | [], f, n, e, h => by simp [rd7] at h; omega
  | c :: l, f, n, e, h => by
    simp only [rd7] at h
    split at h
    · cases h; simp
    · split at h
      · cases h; simp
      · split at h
        · cases hr : rd7 most l false (n * 128 + c.toNat % 128) with
          | inl e' => rw [hr] at h; cases h; exact rd7_err hr
          | inr p => rw [hr] at h; cases h
        · split at h
          · cases h; simp
          · cases h
theorem octNum_stop (most : Int) (b : List (BitVec 8)) (n pos a e : Int) (he : e ≠ 0) : octets_Reader_Number_l0 most (n, pos, ⟨b, a, e⟩) = some (.inl ⟨b, a, e⟩) :=
  loopO_out (by simp [octets_Reader_Number_b0, lt_eq, he])
theorem le_byte (c : BitVec 8) : (128#8 ≤ c) ↔ 128 ≤ c.toNat := by rw [BitVec.le_def]; rfl
theorem octNum_l {b : List (BitVec 8)} {most a : Nat} (hb : b.length ≤ 1000000) (hm : most < 9223372036854775808) : ∀ (l : List (BitVec 8)) (pos n : Nat) (f : Bool), b.drop pos = l → pos ≤ b.length → (f = true → n = 0 ∧ pos = a) → (f = false → a < pos) → n < 9223372036854775808 →
    octets_Reader_Number_l0 (most : Int) ((n : Int), (pos : Int), ⟨b, (a : Int), 0⟩) = some (oOut b a pos (rd7 most l f n))
  | [], pos, n, f, hl, hp, _, _, _ => by
    have hlen : pos = b.length := by
      have := congrArg List.length hl
      simp at this; omega
    refine loopO_out ?_
    simp only [octets_Reader_Number_b0, lt_eq]
    rw [if_pos (by rfl), if_pos (decide_eq_true (by omega)), fail_eq]
    rfl
  | c :: l, pos, n, f, hl, hp, hf, hg, hn => by
    obtain ⟨hlt, hc, hd⟩ := drop_cons hl
    have e0 : w64 ((pos : Int) + 1) = ((pos + 1 : Nat) : Int) := w64_nat (by omega)
    have e1 : w64 ((a : Int) + 1) = ((a + 1 : Nat) : Int) := by
      have : a ≤ pos := by cases f with | true => have := (hf rfl).2; omega | false => have := hg rfl; omega
      exact w64_nat (by omega)
    have e2 : shr64 (most : Int) 7 = ((most / 128 : Nat) : Int) := by rw [shr64_nat (by omega)]
    have hcl := c.isLt
    have hcond : (if (c == 128#8) = true then (if ((n : Int) == 0) = true then some (((pos + 1 : Nat) : Int) == ((a + 1 : Nat) : Int)) else some false) else some false) = some (decide (c = 128#8 ∧ f = true)) := by
      by_cases h1 : c = 128#8
      · rw [if_pos (by simp [h1])]
        cases f with
        | true =>
          obtain ⟨rfl, rfl⟩ := hf rfl
          simp [h1]
        | false =>
          have := hg rfl
          split
          · have : (((pos + 1 : Nat) : Int) == ((a + 1 : Nat) : Int)) = false := by simp; omega
            rw [this]; simp
          · simp
      · rw [if_neg (by simpa using h1)]; simp [h1]
    have hb0 : octets_Reader_Number_b0 (most : Int) (n : Int) (pos : Int) ⟨b, (a : Int), 0⟩ =
        if c = 128#8 ∧ f = true then some (.inl ((n : Int), ((pos + 1 : Nat) : Int), ⟨b, (a : Int), 5⟩)) else if most / 128 < n then some (.inl ((n : Int), ((pos + 1 : Nat) : Int), ⟨b, (a : Int), 2⟩)) else
        if 128 ≤ c.toNat then some (.inl (((n * 128 + c.toNat % 128 : Nat) : Int), ((pos + 1 : Nat) : Int), ⟨b, (a : Int), 0⟩)) else
        if most < n * 128 + c.toNat then some (.inl (((n * 128 + c.toNat : Nat) : Int), ((pos + 1 : Nat) : Int), ⟨b, (a : Int), 2⟩)) else some (.inr (.inr (((n * 128 + c.toNat : Nat) : Int), ⟨b, ((pos + 1 : Nat) : Int), 0⟩))) := by
      simp only [octets_Reader_Number_b0, lt_eq]
      rw [if_pos (by rfl), if_neg (by rw [decide_eq_false (by omega)]; simp), ix_nat hlt, hc]
      simp only [Option.bind_some, e0, e1, e2]
      rw [hcond]
      simp only [Option.bind_some, decide_eq_true_eq]
      by_cases h1 : c = 128#8 ∧ f = true
      · rw [if_pos h1, if_pos h1, fail_eq]; rfl
      · rw [if_neg h1, if_neg h1]
        by_cases h2 : most / 128 < n
        · rw [if_pos (by omega), if_pos h2, fail_eq]; rfl
        · rw [if_neg (by omega), if_neg h2]
          by_cases h3 : 128 ≤ c.toNat
          · rw [if_pos ((le_byte c).2 h3), if_pos h3, byte_and, or64_7 (by omega) (by omega)]
          · rw [if_neg (fun h => h3 ((le_byte c).1 h)), if_neg h3, or64_7 (by omega) (by omega)]
            by_cases h4 : most < n * 128 + c.toNat
            · rw [if_pos (by omega), if_pos h4, fail_eq]; rfl
            · rw [if_neg (by omega), if_neg h4]
    have step : ∀ (s' : Int × Int × octets_Reader), octets_Reader_Number_b0 (most : Int) (n : Int) (pos : Int) ⟨b, (a : Int), 0⟩ = some (.inl s') → octets_Reader_Number_l0 (most : Int) ((n : Int), (pos : Int), ⟨b, (a : Int), 0⟩) = octets_Reader_Number_l0 (most : Int) s' := fun s' h => loopO_in (body := fun s => octets_Reader_Number_b0 (most : Int) s.1 s.2.1 s.2.2) h
    simp only [rd7]
    by_cases h1 : c = 128#8 ∧ f = true
    · rw [if_pos h1] at hb0 ⊢
      rw [step _ hb0, octNum_stop _ _ _ _ _ _ (by decide)]; rfl
    · rw [if_neg h1] at hb0 ⊢
      by_cases h2 : most / 128 < n
      · rw [if_pos h2] at hb0 ⊢
        rw [step _ hb0, octNum_stop _ _ _ _ _ _ (by decide)]; rfl
      · rw [if_neg h2] at hb0 ⊢
        by_cases h3 : 128 ≤ c.toNat
        · rw [if_pos h3] at hb0 ⊢
          rw [step _ hb0, octNum_l hb hm l (pos + 1) (n * 128 + c.toNat % 128) false hd (by omega) (by simp) (fun _ => by cases f with | true => have := (hf rfl).2; omega | false => have := hg rfl; omega) (by omega), oOut_go]
        · rw [if_neg h3] at hb0 ⊢
          by_cases h4 : most < n * 128 + c.toNat
          · rw [if_pos h4] at hb0 ⊢
            rw [step _ hb0, octNum_stop _ _ _ _ _ _ (by decide)]; rfl
          · rw [if_neg h4] at hb0 ⊢
            exact loopO_out (body := fun s => octets_Reader_Number_b0 (most : Int) s.1 s.2.1 s.2.2) hb0
def rOut (b : List (BitVec 8)) (a pos : Nat) : Int ⊕ (Nat × Nat) → Unit ⊕ (butteryref02_Reader × Int)
  | .inl e => if e = 6 then .inl () else .inr (⟨b, a, e⟩, 0)
  | .inr (m, k) => .inr (⟨b, ((pos + k : Nat) : Int), 0⟩, (m : Int))
theorem rOut_go (b : List (BitVec 8)) (a pos : Nat) (r : Int ⊕ (Nat × Nat)) : rOut b a pos (up7 r) = rOut b a (pos + 1) r := by
  cases r with
  | inl e => rfl
  | inr p => simp only [up7, rOut]; rw [show pos + (p.2 + 1) = pos + 1 + p.2 by omega]
theorem refNum_l {b : List (BitVec 8)} {most a : Nat} (hb : b.length ≤ 1000000) (hm : most < 9223372036854775808) : ∀ (l : List (BitVec 8)) (pos n : Nat) (f : Bool), b.drop pos = l → pos ≤ b.length → (f = true → n = 0 ∧ pos = a) → (f = false → a < pos) → n < 9223372036854775808 →
    butteryref02_Number_l0 ⟨b, (a : Int), 0⟩ (most : Int) ((n : Int), (pos : Int)) = some (rOut b a pos (rd7 most l f n))
  | [], pos, n, f, hl, hp, _, _, _ => by
    have hlen : pos = b.length := by
      have := congrArg List.length hl
      simp at this; omega
    refine loopO_out ?_
    simp only [butteryref02_Number_b0, lt_eq]
    rw [if_neg (by rw [decide_eq_false (by omega)]; simp)]
    rfl
  | c :: l, pos, n, f, hl, hp, hf, hg, hn => by
    obtain ⟨hlt, hc, hd⟩ := drop_cons hl
    have e0 : w64 ((pos : Int) + 1) = ((pos + 1 : Nat) : Int) := w64_nat (by omega)
    have e2 : quo64 (most : Int) 128 = ((most / 128 : Nat) : Int) := quo64_nat hm
    have e3 : Int.tmod (c.toNat : Int) 128 = ((c.toNat % 128 : Nat) : Int) := tmod_nat _ 128
    have hcl := c.isLt
    have e4 : ((c.toNat : Int) == 128) = decide (c = 128#8) := by
      rw [Bool.eq_iff_iff]; simp only [beq_iff_eq, decide_eq_true_eq]
      constructor
      · intro h; apply BitVec.eq_of_toNat_eq; show _ = 128; omega
      · rintro rfl; rfl
    have hcond : (if decide (c = 128#8) = true then some ((pos : Int) == (a : Int)) else some false) = some (decide (c = 128#8 ∧ f = true)) := by
      by_cases h1 : c = 128#8
      · rw [if_pos (by simp [h1])]
        cases f with
        | true =>
          obtain ⟨rfl, rfl⟩ := hf rfl
          simp [h1]
        | false =>
          have := hg rfl
          have : ((pos : Int) == (a : Int)) = false := by simp; omega
          rw [this]; simp
      · rw [if_neg (by simpa using h1)]; simp [h1]
    have hb0 : butteryref02_Number_b0 ⟨b, (a : Int), 0⟩ (most : Int) (n : Int) (pos : Int) =
        if c = 128#8 ∧ f = true then some (.inr (.inr (⟨b, (a : Int), 5⟩, 0))) else if most / 128 < n then some (.inr (.inr (⟨b, (a : Int), 2⟩, 0))) else
        if 128 ≤ c.toNat then some (.inl (((n * 128 + c.toNat % 128 : Nat) : Int), ((pos + 1 : Nat) : Int))) else
        if most < n * 128 + c.toNat then some (.inr (.inr (⟨b, (a : Int), 2⟩, 0))) else some (.inr (.inr (⟨b, ((pos + 1 : Nat) : Int), 0⟩, ((n * 128 + c.toNat : Nat) : Int)))) := by
      simp only [butteryref02_Number_b0, lt_eq]
      rw [if_pos (decide_eq_true (by omega)), ix_nat hlt, hc]
      simp only [Option.bind_some, e0, e2, e3, e4]
      rw [hcond]
      simp only [Option.bind_some, decide_eq_true_eq]
      by_cases h1 : c = 128#8 ∧ f = true
      · rw [if_pos h1, if_pos h1, rfail_eq]; rfl
      · rw [if_neg h1, if_neg h1]
        by_cases h2 : most / 128 < n
        · rw [if_pos (by omega), if_pos h2, rfail_eq]; rfl
        · rw [if_neg (by omega), if_neg h2, w64_eq (n := (n : Int) * 128) (by omega) (by omega), w64_eq (by omega) (by omega)]
          by_cases h3 : 128 ≤ c.toNat
          · rw [if_pos (by omega), if_pos h3]
            rw [show ((n : Int) * 128 + ((c.toNat % 128 : Nat) : Int)) = ((n * 128 + c.toNat % 128 : Nat) : Int) by omega]
          · rw [if_neg (by omega), if_neg h3]
            rw [show ((n : Int) * 128 + ((c.toNat % 128 : Nat) : Int)) = ((n * 128 + c.toNat : Nat) : Int) by omega]
            by_cases h4 : most < n * 128 + c.toNat
            · rw [if_pos (by omega), if_pos h4, rfail_eq]; rfl
            · rw [if_neg (by omega), if_neg h4]
    have hout : ∀ x, butteryref02_Number_b0 ⟨b, (a : Int), 0⟩ (most : Int) (n : Int) (pos : Int) = some (.inr x) → butteryref02_Number_l0 ⟨b, (a : Int), 0⟩ (most : Int) ((n : Int), (pos : Int)) = some x := fun x h => loopO_out (body := fun s => butteryref02_Number_b0 ⟨b, (a : Int), 0⟩ (most : Int) s.1 s.2) h
    have step : ∀ (s' : Int × Int), butteryref02_Number_b0 ⟨b, (a : Int), 0⟩ (most : Int) (n : Int) (pos : Int) = some (.inl s') → butteryref02_Number_l0 ⟨b, (a : Int), 0⟩ (most : Int) ((n : Int), (pos : Int)) = butteryref02_Number_l0 ⟨b, (a : Int), 0⟩ (most : Int) s' := fun s' h => loopO_in (body := fun s => butteryref02_Number_b0 ⟨b, (a : Int), 0⟩ (most : Int) s.1 s.2) h
    simp only [rd7]
    by_cases h1 : c = 128#8 ∧ f = true
    · rw [if_pos h1] at hb0 ⊢
      exact hout _ hb0
    · rw [if_neg h1] at hb0 ⊢
      by_cases h2 : most / 128 < n
      · rw [if_pos h2] at hb0 ⊢
        exact hout _ hb0
      · rw [if_neg h2] at hb0 ⊢
        by_cases h3 : 128 ≤ c.toNat
        · rw [if_pos h3] at hb0 ⊢
          rw [step _ hb0, refNum_l hb hm l (pos + 1) (n * 128 + c.toNat % 128) false hd (by omega) (by simp) (fun _ => by cases f with | true => have := (hf rfl).2; omega | false => have := hg rfl; omega) (by omega), rOut_go]
        · rw [if_neg h3] at hb0 ⊢
          by_cases h4 : most < n * 128 + c.toNat
          · rw [if_pos h4] at hb0 ⊢
            exact hout _ hb0
          · rw [if_neg h4] at hb0 ⊢
            exact hout _ hb0
/-- What is read, and where the reader stands then. -/
def rdN (b : List (BitVec 8)) (a most : Nat) : Nat × Nat × Int := match rd7 most (b.drop a) true 0 with
  | .inl e => (0, a, e)
  | .inr (m, k) => (m, a + k, 0)
theorem octNum_eq {b : List (BitVec 8)} {a most : Nat} (hb : b.length ≤ 1000000) (ha : a ≤ b.length) (hm : most < 9223372036854775808) : octets_Reader_Number ⟨b, a, 0⟩ most = some (((rdN b a most).1 : Int), ⟨b, ((rdN b a most).2.1 : Int), (rdN b a most).2.2⟩) := by
  simp only [octets_Reader_Number]
  have := octNum_l hb hm (b.drop a) a 0 true rfl ha (fun _ => ⟨rfl, rfl⟩) (fun h => by cases h) (by omega)
  rw [show ((0 : Nat) : Int) = 0 from rfl] at this
  rw [this]
  unfold rdN
  cases rd7 most (b.drop a) true 0 with
  | inl e => rfl
  | inr p => rfl
theorem refNum_eq {b : List (BitVec 8)} {a most : Nat} (hb : b.length ≤ 1000000) (ha : a ≤ b.length) (hm : most < 9223372036854775808) : butteryref02_Number ⟨b, a, 0⟩ most = some (⟨b, ((rdN b a most).2.1 : Int), (rdN b a most).2.2⟩, ((rdN b a most).1 : Int)) := by
  simp only [butteryref02_Number, lt_eq]
  rw [if_neg (by simp)]
  have := refNum_l hb hm (b.drop a) a 0 true rfl ha (fun _ => ⟨rfl, rfl⟩) (fun h => by cases h) (by omega)
  rw [show ((0 : Nat) : Int) = 0 from rfl] at this
  rw [this]
  unfold rdN
  cases h : rd7 most (b.drop a) true 0 with
  | inl e =>
    rcases rd7_err h with rfl | rfl | rfl <;> rfl
  | inr p => rfl
theorem rdN_le {b : List (BitVec 8)} {a most : Nat} (ha : a ≤ b.length) : (rdN b a most).2.1 ≤ b.length ∧ a ≤ (rdN b a most).2.1 ∧ (rdN b a most).1 ≤ most ∧ ((rdN b a most).2.2 ≠ 0 → (rdN b a most).1 = 0 ∧ (rdN b a most).2.1 = a) := by
  unfold rdN
  cases h : rd7 most (b.drop a) true 0 with
  | inl e => exact ⟨ha, Nat.le_refl _, Nat.zero_le _, fun _ => ⟨rfl, rfl⟩⟩
  | inr p =>
    have := rd7_le h
    simp only [List.length_drop] at this
    exact ⟨by simp only; omega, by simp only; omega, this.1, fun h => absurd rfl h⟩
theorem rdN_off {b : List (BitVec 8)} {a : Int} {most e : Int} (he : e ≠ 0) : octets_Reader_Number ⟨b, a, e⟩ most = some (0, ⟨b, a, e⟩) := by
  simp only [octets_Reader_Number, octNum_stop _ _ _ _ _ _ he]; rfl
theorem refN_off {b : List (BitVec 8)} {a : Int} {most e : Int} (he : e ≠ 0) : butteryref02_Number ⟨b, a, e⟩ most = some (⟨b, a, e⟩, 0) := by
  simp [butteryref02_Number, lt_eq, he]
theorem left_eq {b : List (BitVec 8)} {a : Nat} {e : Int} (hb : b.length ≤ 1000000) (ha : a ≤ b.length) : octets_Reader_Left ⟨b, a, e⟩ = some ((b.length - a : Nat) : Int) := by
  simp only [octets_Reader_Left, lt_eq]
  rw [w64_eq (by omega) (by omega)]
  congr 1; omega
end Go.Proofs.YtgfedohhkbmobaaDoor
namespace Go.Proofs.YtgfedohhkbmobaaDoor
open Go Go.Va
set_option linter.unusedVariables false
set_option linter.unusedSimpArgs false
def stp (a : BitVec 64) (c : BitVec 8) : BitVec 64 := a <<< 8 ||| c.setWidth 64
def word (l : List (BitVec 8)) : BitVec 64 := l.foldl stp 0#64
theorem stp_add (a : BitVec 64) (c : BitVec 8) : a * 256#64 + c.setWidth 64 = stp a c := by
  have h1 : a * 256#64 = a <<< 8 := by
    apply BitVec.eq_of_toNat_eq
    simp [Nat.shiftLeft_eq]
  have h2 : a <<< 8 &&& c.setWidth 64 = 0#64 := by
    apply BitVec.eq_of_getLsbD_eq
    intro i hi
    simp only [BitVec.getLsbD_and, BitVec.getLsbD_shiftLeft, BitVec.getLsbD_setWidth, BitVec.getLsbD_zero]
    by_cases h : i < 8
    · simp [h]
    · rw [BitVec.getLsbD_of_ge c i (by omega)]; simp
  rw [h1, BitVec.add_eq_or_of_and_eq_zero _ _ h2]; rfl
theorem word_wd (n : BitVec 64) : ∀ i, i ≤ 8 → word (wd n i) = n >>> (64 - 8 * i)
  | 0, _ => by
    apply BitVec.eq_of_getLsbD_eq
    intro j hj
    rw [BitVec.getLsbD_ushiftRight, BitVec.getLsbD_of_ge n _ (by omega)]; simp [word, wd]
  | i + 1, h => by
    rw [wd_succ, word, List.foldl_append]
    have ih := word_wd n i (by omega)
    rw [word] at ih
    rw [ih]
    simp only [List.foldl_cons, List.foldl_nil, stp]
    apply BitVec.eq_of_getLsbD_eq
    intro j hj
    simp only [BitVec.getLsbD_or, BitVec.getLsbD_shiftLeft, BitVec.getLsbD_ushiftRight, BitVec.getLsbD_setWidth]
    by_cases h8 : j < 8
    · simp [h8, hj, show 64 - 8 * (i + 1) = 56 - 8 * i by omega]
    · simp only [h8, hj, decide_true, decide_false, Bool.not_false, Bool.and_true, Bool.true_and, Bool.false_and, Bool.and_false, Bool.or_false]
      congr 1; omega
theorem word_full (n : BitVec 64) : word (wd n 8) = n := by
  rw [word_wd n 8 (by omega)]; simp
/-- Eight bytes. -/
def cut8 (b : List (BitVec 8)) (a : Nat) : List (BitVec 8) := (b.take (a + 8)).drop a
theorem cut8_len {b : List (BitVec 8)} {a : Nat} (h : a + 8 ≤ b.length) : (cut8 b a).length = 8 := by simp [cut8]; omega
theorem octWord_l (R : octets_Reader) (l : List (BitVec 8)) (hl : l.length < 9223372036854775807) : octets_Reader_Word_l0 R l (l.length : Int) (0#64, 0) = some (word l) :=
  loopO_foldl l stp id (body := fun s => octets_Reader_Word_b0 R l (l.length : Int) s.1 s.2) (fun s i hi => by
    simp only [octets_Reader_Word_b0, lt_eq, ix_nat hi, Option.bind_some, w64_nat (show i < 9223372036854775807 by omega)]
    rw [if_pos (by simpa using hi)]; rfl) (fun s => by simp [octets_Reader_Word_b0, lt_eq]) 0#64
theorem octWordR_eq {b : List (BitVec 8)} {a : Nat} (hb : b.length ≤ 1000000) (ha : a ≤ b.length) : octets_Reader_Word ⟨b, a, 0⟩ = some (if a + 8 ≤ b.length then (word (cut8 b a), ⟨b, ((a + 8 : Nat) : Int), 0⟩) else (0#64, ⟨b, a, 6⟩)) := by
  simp only [octets_Reader_Word, lt_eq]
  rw [if_pos (by rfl), left_eq hb ha]
  simp only [Option.bind_some]
  by_cases h : a + 8 ≤ b.length
  · rw [if_pos h, if_neg (by rw [decide_eq_false (by omega)]; simp)]
    simp only [Option.bind_some]
    rw [if_neg (by simp), w64_eq (by omega) (by omega), show (a : Int) + 8 = ((a + 8 : Nat) : Int) by omega, cutO_eq (by omega) h]
    have := octWord_l ⟨b, a, 0⟩ (cut8 b a) (by rw [cut8_len h]; omega)
    unfold cut8 at this
    simp only [Option.bind_some, this]
    rfl
  · rw [if_neg h, if_pos (decide_eq_true (by omega)), fail_eq]
    rfl
theorem octWordR_off {b : List (BitVec 8)} {a e : Int} (he : e ≠ 0) : octets_Reader_Word ⟨b, a, e⟩ = some (0#64, ⟨b, a, e⟩) := by
  simp [octets_Reader_Word, lt_eq, he]
theorem eight_eq {b : List (BitVec 8)} {a : Nat} (hb : b.length ≤ 1000000) (ha : a ≤ b.length) : butteryref02_Eight ⟨b, a, 0⟩ = some (if a + 8 ≤ b.length then (⟨b, ((a + 8 : Nat) : Int), 0⟩, word (cut8 b a)) else (⟨b, a, 6⟩, 0#64)) := by
  simp only [butteryref02_Eight, lt_eq]
  rw [if_neg (by simp), w64_eq (by omega) (by omega)]
  by_cases h : a + 8 ≤ b.length
  · rw [if_pos h, if_neg (by rw [decide_eq_false (by omega)]; simp)]
    have hl := cut8_len h
    have k := loopO_foldl (cut8 b a) stp id (body := fun s => butteryref02_Eight_b0 ⟨b, a, 0⟩ s.1 s.2) (fun s i hi => by
      have hi8 : i < 8 := by omega
      have e1 : w64 ((a : Int) + (i : Int)) = ((a + i : Nat) : Int) := by rw [w64_eq (by omega) (by omega)]; omega
      simp only [butteryref02_Eight_b0, lt_eq, e1, ix_nat (show a + i < b.length by omega), Option.bind_some, w64_nat (show i < 9223372036854775807 by omega)]
      rw [if_pos (decide_eq_true (by omega)), stp_add]
      have : (cut8 b a)[i] = b[a + i] := by simp [cut8]
      rw [this]) (fun s => by rw [hl]; simp [butteryref02_Eight_b0, lt_eq]) 0#64
    simp only [butteryref02_Eight_l0, k, Option.bind_some]
    rw [w64_eq (n := (a : Int) + 8) (by omega) (by omega), show (a : Int) + 8 = ((a + 8 : Nat) : Int) by omega]
    rfl
  · rw [if_neg h, if_pos (decide_eq_true (by omega)), rfail_eq]
    rfl
theorem eight_off {b : List (BitVec 8)} {a e : Int} (he : e ≠ 0) : butteryref02_Eight ⟨b, a, e⟩ = some (⟨b, a, e⟩, 0#64) := by
  simp [butteryref02_Eight, lt_eq, he]
/-- What bytes are read: they, where the reader stands then, what is wrong. -/
def rdB (b : List (BitVec 8)) (a most : Nat) : List (BitVec 8) × Nat × Int :=
  if (rdN b a most).2.2 ≠ 0 then ([], (rdN b a most).2.1, (rdN b a most).2.2) else
  if b.length < (rdN b a most).2.1 + (rdN b a most).1 then ([], a, 6) else ((b.take ((rdN b a most).2.1 + (rdN b a most).1)).drop (rdN b a most).2.1, (rdN b a most).2.1 + (rdN b a most).1, 0)
theorem octBytesR_eq {b : List (BitVec 8)} {a most : Nat} (hb : b.length ≤ 1000000) (ha : a ≤ b.length) (hm : most < 9223372036854775808) : octets_Reader_Bytes ⟨b, a, 0⟩ most = some ((rdB b a most).1, ⟨b, ((rdB b a most).2.1 : Int), (rdB b a most).2.2⟩) := by
  simp only [octets_Reader_Bytes, octNum_eq hb ha hm, Option.bind_some, lt_eq]
  obtain ⟨h1, h2, h3, h4⟩ := rdN_le (most := most) ha
  unfold rdB
  generalize rdN b a most = z at *
  obtain ⟨n, p, e⟩ := z
  simp only at *
  by_cases he : e = 0
  · subst he
    rw [if_neg (by simp), if_neg (by simp), left_eq hb h1]
    simp only [Option.bind_some]
    by_cases hc : b.length < p + n
    · rw [if_pos hc, if_pos (decide_eq_true (by omega)), fail_eq]; rfl
    · rw [if_neg hc, if_neg (by rw [decide_eq_false (by omega)]; simp), w64_eq (by omega) (by omega), show (p : Int) + (n : Int) = ((p + n : Nat) : Int) by omega, cutO_eq (by omega) (by omega)]
      simp only [Option.bind_some]
      rw [app_eq (by simp; omega)]; rfl
  · rw [if_pos (by simpa using he), if_pos he]
theorem octBytesR_off {b : List (BitVec 8)} {a e most : Int} (he : e ≠ 0) : octets_Reader_Bytes ⟨b, a, e⟩ most = some ([], ⟨b, a, e⟩) := by
  simp [octets_Reader_Bytes, rdN_off he, lt_eq, he]
theorem text_eq {b : List (BitVec 8)} {a most : Nat} (hb : b.length ≤ 1000000) (ha : a ≤ b.length) (hm : most < 9223372036854775808) : butteryref02_Text ⟨b, a, 0⟩ most = some (⟨b, ((rdB b a most).2.1 : Int), (rdB b a most).2.2⟩, (rdB b a most).1) := by
  simp only [butteryref02_Text, refNum_eq hb ha hm, Option.bind_some, lt_eq]
  obtain ⟨h1, h2, h3, h4⟩ := rdN_le (most := most) ha
  unfold rdB
  generalize rdN b a most = z at *
  obtain ⟨n, p, e⟩ := z
  simp only at *
  by_cases he : e = 0
  · subst he
    rw [if_neg (show ¬ (((0 : Int) != 0) = true) by simp), if_neg (show ¬ ((0 : Int) ≠ 0) by simp), w64_eq (n := (b.length : Int) - (p : Int)) (by omega) (by omega)]
    by_cases hc : b.length < p + n
    · rw [if_pos hc, if_pos (decide_eq_true (by omega)), rfail_eq]; rfl
    · rw [if_neg hc, if_neg (by rw [decide_eq_false (by omega)]; simp), w64_eq (by omega) (by omega), show (p : Int) + (n : Int) = ((p + n : Nat) : Int) by omega, cutO_eq (by omega) (by omega)]
      simp only [Option.bind_some]
      rw [app_eq (by simp; omega)]; rfl
  · rw [if_pos (by simpa using he), if_pos he]
theorem text_off {b : List (BitVec 8)} {a e most : Int} (he : e ≠ 0) : butteryref02_Text ⟨b, a, e⟩ most = some (⟨b, a, e⟩, []) := by
  simp [butteryref02_Text, refN_off he, lt_eq, he]
theorem rdB_le {b : List (BitVec 8)} {a most : Nat} (ha : a ≤ b.length) : (rdB b a most).2.1 ≤ b.length ∧ a ≤ (rdB b a most).2.1 ∧ (rdB b a most).1.length ≤ b.length := by
  obtain ⟨h1, h2, h3, h4⟩ := rdN_le (most := most) ha
  unfold rdB
  generalize rdN b a most = z at *
  obtain ⟨n, p, e⟩ := z
  simp only at *
  split
  · exact ⟨h1, h2, by simp⟩
  · split
    · exact ⟨ha, Nat.le_refl _, by simp⟩
    · exact ⟨by simp only; omega, by simp only; omega, by simp; omega⟩
theorem read_eq {b : List (BitVec 8)} (hb : b.length ≤ 1000000) : octets_Read b = some ⟨b, 0, 0⟩ := by
  simp only [octets_Read, lt_eq]
  rw [app_eq (by simp; omega)]; rfl
end Go.Proofs.YtgfedohhkbmobaaDoor
namespace Go.Proofs.YtgfedohhkbmobaaDoor
open Go Go.Va
set_option linter.unusedVariables false
set_option linter.unusedSimpArgs false
def upN (k : Nat) : Int ⊕ (Nat × Nat) → Int ⊕ (Nat × Nat)
  | .inl e => .inl e
  | .inr (m, j) => .inr (m, k + j)
theorem upN_up (k : Nat) (r : Int ⊕ (Nat × Nat)) : upN k (up7 r) = upN (k + 1) r := by
  cases r with
  | inl e => rfl
  | inr p => simp only [up7, upN]; rw [show k + (p.2 + 1) = k + 1 + p.2 by omega]
theorem rd7_pre {most : Nat} : ∀ (k q : Nat), q < 128 ^ k → q ≤ most / 128 → ∀ l, rd7 most (pre q ++ l) true 0 = upN (pre q).length (rd7 most l (decide (q = 0)) q)
  | 0, q, h, hq, l => by
    have : q = 0 := by simpa using h
    subst this
    rw [pre_zero]
    simp only [List.nil_append, List.length_nil, decide_true]
    cases rd7 most l true 0 with
    | inl e => rfl
    | inr p => simp [upN]
  | k + 1, q, h, hq, l => by
    by_cases h0 : q = 0
    · subst h0
      rw [pre_zero]
      simp only [List.nil_append, List.length_nil, decide_true]
      cases rd7 most l true 0 with
      | inl e => rfl
      | inr p => simp [upN]
    · rw [pre_pos (by omega), List.append_assoc, rd7_pre k (q / 128) (by rw [Nat.div_lt_iff_lt_mul (by decide)]; rw [Nat.pow_succ] at h; exact h) (by omega)]
      have hc : (BitVec.ofNat 8 (q % 128 + 128)).toNat = q % 128 + 128 := by simp; omega
      simp only [List.singleton_append, rd7]
      rw [if_neg (by
        rintro ⟨h1, h2⟩
        have h1 := congrArg BitVec.toNat h1
        rw [hc] at h1
        have h1 : q % 128 + 128 = 128 := h1
        have h2 : q / 128 = 0 := by simpa using h2
        omega), if_neg (by omega), if_pos (by omega), hc, upN_up]
      rw [show q / 128 * 128 + (q % 128 + 128) % 128 = q by omega, decide_eq_false h0]
      simp
theorem rd7_num {most m : Nat} (hm : m ≤ most) (hm2 : m < 9223372036854775808) (l : List (BitVec 8)) : rd7 most (num7 m ++ l) true 0 = .inr (m, (num7 m).length) := by
  rw [num7, List.append_assoc, rd7_pre 9 (m / 128) (by omega) (by omega)]
  have hc : (BitVec.ofNat 8 (m % 128)).toNat = m % 128 := by simp; omega
  simp only [List.singleton_append, rd7]
  rw [if_neg (by
    rintro ⟨h1, h2⟩
    have h1 := congrArg BitVec.toNat h1
    rw [hc] at h1
    have h1 : m % 128 = 128 := h1
    omega), if_neg (by omega), if_neg (by omega), if_neg (by omega), hc, show m / 128 * 128 + m % 128 = m by omega]
  simp [upN]
theorem rdN_num {b l : List (BitVec 8)} {a most m : Nat} (h : b.drop a = num7 m ++ l) (hm : m ≤ most) (hm2 : m < 9223372036854775808) : rdN b a most = (m, a + (num7 m).length, 0) := by
  rw [rdN, h, rd7_num hm hm2]
/-- Bytes that are read as a number, all but the first ones: they are its last bytes. -/
theorem rd7_one {most : Nat} (hm : most < 9223372036854775808) : ∀ {l : List (BitVec 8)} {f : Bool} {n m k : Nat}, (f = true → n = 0) → (f = false → 0 < n) → rd7 most l f n = .inr (m, k) → num7 m = pre n ++ l.take k
  | [], f, n, m, k, _, _, h => by simp [rd7] at h
  | c :: l, f, n, m, k, hf, hg, h => by
    have hc := c.isLt
    simp only [rd7] at h
    split at h
    · cases h
    · rename_i h1
      split at h
      · cases h
      · split at h
        · rename_i h3
          cases hr : rd7 most l false (n * 128 + c.toNat % 128) with
          | inl e => rw [hr] at h; cases h
          | inr p =>
            obtain ⟨m', k'⟩ := p
            rw [hr] at h
            simp only [up7, Sum.inr.injEq, Prod.mk.injEq] at h
            obtain ⟨rfl, rfl⟩ := h
            have hpos : 0 < n * 128 + c.toNat % 128 := by
              cases f with
              | true =>
                have : c ≠ 128#8 := fun e => h1 ⟨e, rfl⟩
                have : c.toNat ≠ 128 := fun e => this (BitVec.eq_of_toNat_eq e)
                omega
              | false => have := hg rfl; omega
            have ih := rd7_one hm (f := false) (fun e => by cases e) (fun _ => hpos) hr
            rw [ih, pre_pos hpos]
            rw [show (n * 128 + c.toNat % 128) / 128 = n by omega, show (n * 128 + c.toNat % 128) % 128 + 128 = c.toNat by omega]
            simp
        · rename_i h3
          split at h
          · cases h
          · simp only [Sum.inr.injEq, Prod.mk.injEq] at h
            obtain ⟨rfl, rfl⟩ := h
            rw [num7, show (n * 128 + c.toNat) / 128 = n by omega, show (n * 128 + c.toNat) % 128 = c.toNat by omega]
            simp
/-- What a reader is, and the program's reader beside it. -/
structure rdr where
  a : Nat
  e : Int
def rdr.x (r : rdr) (b : List (BitVec 8)) : butteryref02_Reader := ⟨b, r.a, r.e⟩
def rdr.o (r : rdr) (b : List (BitVec 8)) : octets_Reader := ⟨b, r.a, r.e⟩
theorem num_both {b : List (BitVec 8)} (hb : b.length ≤ 1000000) (r : rdr) (hr : r.a ≤ b.length) {m : Int} (h0 : 0 ≤ m) (h1 : m ≤ 9223372036854775807) : ∃ (s : rdr) (n : Int), s.a ≤ b.length ∧ butteryref02_Number (r.x b) m = some (s.x b, n) ∧ octets_Reader_Number (r.o b) m = some (n, s.o b) := by
  obtain ⟨m, rfl⟩ : ∃ n : Nat, m = (n : Int) := ⟨m.toNat, by omega⟩
  obtain ⟨a, e⟩ := r
  by_cases he : e = 0
  · subst he
    exact ⟨⟨(rdN b a m).2.1, (rdN b a m).2.2⟩, _, (rdN_le hr).1, refNum_eq hb hr (by omega), octNum_eq hb hr (by omega)⟩
  · exact ⟨⟨a, e⟩, 0, hr, refN_off he, rdN_off he⟩
theorem text_both {b : List (BitVec 8)} (hb : b.length ≤ 1000000) (r : rdr) (hr : r.a ≤ b.length) {m : Int} (h0 : 0 ≤ m) (h1 : m ≤ 9223372036854775807) : ∃ (s : rdr) (n : List (BitVec 8)), s.a ≤ b.length ∧ n.length ≤ b.length ∧ butteryref02_Text (r.x b) m = some (s.x b, n) ∧ octets_Reader_Bytes (r.o b) m = some (n, s.o b) := by
  obtain ⟨m, rfl⟩ : ∃ n : Nat, m = (n : Int) := ⟨m.toNat, by omega⟩
  obtain ⟨a, e⟩ := r
  by_cases he : e = 0
  · subst he
    exact ⟨⟨(rdB b a m).2.1, (rdB b a m).2.2⟩, _, (rdB_le hr).1, (rdB_le hr).2.2, text_eq hb hr (by omega), octBytesR_eq hb hr (by omega)⟩
  · exact ⟨⟨a, e⟩, [], hr, by simp, text_off he, octBytesR_off he⟩
/-- What is read as a number. -/
def rN (b : List (BitVec 8)) (r : rdr) (m : Nat) : Nat × rdr := if r.e = 0 then ((rdN b r.a m).1, ⟨(rdN b r.a m).2.1, (rdN b r.a m).2.2⟩) else (0, r)
def rB (b : List (BitVec 8)) (r : rdr) (m : Nat) : List (BitVec 8) × rdr := if r.e = 0 then ((rdB b r.a m).1, ⟨(rdB b r.a m).2.1, (rdB b r.a m).2.2⟩) else ([], r)
theorem octN_r {b : List (BitVec 8)} (hb : b.length ≤ 1000000) {r : rdr} (hr : r.a ≤ b.length) {m : Nat} (hm : m < 9223372036854775808) : octets_Reader_Number (r.o b) (m : Int) = some (((rN b r m).1 : Int), (rN b r m).2.o b) := by
  obtain ⟨a, e⟩ := r
  unfold rN
  by_cases he : e = 0
  · subst he; rw [if_pos rfl]; exact octNum_eq hb hr hm
  · rw [if_neg he]; exact rdN_off he
theorem refN_r {b : List (BitVec 8)} (hb : b.length ≤ 1000000) {r : rdr} (hr : r.a ≤ b.length) {m : Nat} (hm : m < 9223372036854775808) : butteryref02_Number (r.x b) (m : Int) = some ((rN b r m).2.x b, ((rN b r m).1 : Int)) := by
  obtain ⟨a, e⟩ := r
  unfold rN
  by_cases he : e = 0
  · subst he; rw [if_pos rfl]; exact refNum_eq hb hr hm
  · rw [if_neg he]; exact refN_off he
theorem octB_r {b : List (BitVec 8)} (hb : b.length ≤ 1000000) {r : rdr} (hr : r.a ≤ b.length) {m : Nat} (hm : m < 9223372036854775808) : octets_Reader_Bytes (r.o b) (m : Int) = some ((rB b r m).1, (rB b r m).2.o b) := by
  obtain ⟨a, e⟩ := r
  unfold rB
  by_cases he : e = 0
  · subst he; rw [if_pos rfl]; exact octBytesR_eq hb hr hm
  · rw [if_neg he]; exact octBytesR_off he
theorem refB_r {b : List (BitVec 8)} (hb : b.length ≤ 1000000) {r : rdr} (hr : r.a ≤ b.length) {m : Nat} (hm : m < 9223372036854775808) : butteryref02_Text (r.x b) (m : Int) = some ((rB b r m).2.x b, (rB b r m).1) := by
  obtain ⟨a, e⟩ := r
  unfold rB
  by_cases he : e = 0
  · subst he; rw [if_pos rfl]; exact text_eq hb hr hm
  · rw [if_neg he]; exact text_off he
theorem rN_le {b : List (BitVec 8)} {r : rdr} (hr : r.a ≤ b.length) (m : Nat) : (rN b r m).2.a ≤ b.length ∧ r.a ≤ (rN b r m).2.a ∧ (rN b r m).1 ≤ m := by
  unfold rN
  split
  · have := rdN_le (most := m) hr; exact ⟨this.1, this.2.1, this.2.2.1⟩
  · exact ⟨hr, Nat.le_refl _, Nat.zero_le _⟩
theorem rB_le {b : List (BitVec 8)} {r : rdr} (hr : r.a ≤ b.length) (m : Nat) : (rB b r m).2.a ≤ b.length ∧ r.a ≤ (rB b r m).2.a ∧ (rB b r m).1.length ≤ b.length := by
  unfold rB
  split
  · exact rdB_le hr
  · exact ⟨hr, Nat.le_refl _, by simp⟩
theorem rN_off {b : List (BitVec 8)} {r : rdr} {m : Nat} (h : (rN b r m).2.e = 0) : r.e = 0 := by
  unfold rN at h
  split at h
  · assumption
  · exact h
theorem rB_off {b : List (BitVec 8)} {r : rdr} {m : Nat} (h : (rB b r m).2.e = 0) : r.e = 0 := by
  unfold rB at h
  split at h
  · assumption
  · exact h
/-- A number that is there is read. -/
theorem rN_is {b l : List (BitVec 8)} {r : rdr} {m n : Nat} (he : r.e = 0) (h : b.drop r.a = num7 n ++ l) (hm : n ≤ m) (hn : n < 9223372036854775808) : rN b r m = (n, ⟨r.a + (num7 n).length, 0⟩) := by
  unfold rN
  rw [if_pos he, rdN_num h hm hn]
theorem drop_app {b x l : List (BitVec 8)} {a : Nat} (h : b.drop a = x ++ l) : b.drop (a + x.length) = l := by
  rw [← List.drop_drop, h, List.drop_left' rfl]
/-- Bytes that are there are read. -/
theorem rB_is {b t l : List (BitVec 8)} {r : rdr} {m : Nat} (he : r.e = 0) (hr : r.a ≤ b.length) (h : b.drop r.a = num7 t.length ++ (t ++ l)) (hm : t.length ≤ m) (hn : t.length < 9223372036854775808) : rB b r m = (t, ⟨r.a + (num7 t.length).length + t.length, 0⟩) := by
  have h2 := drop_app h
  have h3 := congrArg List.length h2
  have h4 := congrArg List.length h
  simp only [List.length_drop, List.length_append] at h3 h4
  unfold rB rdB
  rw [if_pos he, rdN_num h hm hn]
  simp only
  rw [if_neg (by simp), if_neg (by omega)]
  refine Prod.ext ?_ rfl
  simp only
  rw [List.drop_take, h2, show r.a + (num7 t.length).length + t.length - (r.a + (num7 t.length).length) = t.length by omega, List.take_left' rfl]
/-- What was read as a number is its bytes. -/
theorem rN_one {b : List (BitVec 8)} {r : rdr} {m : Nat} (hm : m < 9223372036854775808) (h : (rN b r m).2.e = 0) : b.drop r.a = num7 (rN b r m).1 ++ b.drop (rN b r m).2.a ∧ r.a < (rN b r m).2.a := by
  have he := rN_off h
  unfold rN at h ⊢
  rw [if_pos he] at h ⊢
  unfold rdN at h ⊢
  cases hr : rd7 m (b.drop r.a) true 0 with
  | inl e =>
    rw [hr] at h
    simp only at h
    rcases rd7_err hr with rfl | rfl | rfl <;> cases h
  | inr p =>
    obtain ⟨n, k⟩ := p
    have h1 := rd7_one hm (fun _ => rfl) (fun h => by cases h) hr
    rw [pre_zero, List.nil_append] at h1
    have h2 := rd7_le hr
    simp only
    rw [h1, ← List.drop_drop, List.take_append_drop]
    exact ⟨rfl, by omega⟩
/-- What was read as bytes is their number and they. -/
theorem rB_one {b : List (BitVec 8)} {r : rdr} {m : Nat} (hr : r.a ≤ b.length) (hm : m < 9223372036854775808) (h : (rB b r m).2.e = 0) : b.drop r.a = num7 (rB b r m).1.length ++ ((rB b r m).1 ++ b.drop (rB b r m).2.a) ∧ r.a < (rB b r m).2.a ∧ (rB b r m).1.length ≤ m := by
  have he := rB_off h
  have hN := rN_one (b := b) (r := r) hm
  have hle := rN_le hr m
  unfold rN at hN hle
  rw [if_pos he] at hN hle
  simp only at hN hle
  unfold rB at h ⊢
  rw [if_pos he] at h ⊢
  unfold rdB at h ⊢
  generalize rdN b r.a m = z at *
  obtain ⟨n, p, e⟩ := z
  simp only at *
  by_cases h1 : e = 0
  · subst h1
    rw [if_neg (by simp)] at h ⊢
    by_cases h2 : b.length < p + n
    · rw [if_pos h2] at h; cases h
    · rw [if_neg h2]
      obtain ⟨k1, k2⟩ := hN rfl
      have hl : ((b.take (p + n)).drop p).length = n := by simp; omega
      simp only
      rw [hl]
      refine ⟨?_, by omega, hle.2.2⟩
      rw [k1, List.drop_take, show p + n - p = n by omega, ← List.drop_drop, List.take_append_drop]
  · rw [if_pos h1] at h; exact absurd h h1
end Go.Proofs.YtgfedohhkbmobaaDoor
namespace Go.Proofs.YtgfedohhkbmobaaDoor
open Go Go.Va
set_option linter.unusedVariables false
set_option linter.unusedSimpArgs false
set_option maxRecDepth 20000
noncomputable def butteryref06_From (x0 : butteryref02_Reader) : Option (butteryref02_Reader × api_Entry) :=
  (butteryref02_Text x0 (40 : Int)).bind fun v6 =>
  (butteryref02_Number (v6.1 : butteryref02_Reader) (1099511627776 : Int)).bind fun v11 =>
  (butteryref02_Number (v11.1 : butteryref02_Reader) (1099511627776 : Int)).bind fun v16 =>
  (butteryref02_Number (v16.1 : butteryref02_Reader) (1099511627776 : Int)).bind fun v21 =>
  (butteryref02_Text (v21.1 : butteryref02_Reader) (4096 : Int)).bind fun v26 =>
  lt ((⟨v6.2, v11.2, v16.2, v21.2, v26.2⟩ : api_Entry)) fun v31 =>
  lt (((v26.1 : butteryref02_Reader).Code) == (0 : Int)) fun v36 =>
  (
    if v36 = true then
      (butteryref06_Check (v31 : api_Entry)).bind fun v43 =>
      lt (({ (v26.1 : butteryref02_Reader) with Code := v43 } : butteryref02_Reader)) fun c45 =>
      some c45
    else
      some (v26.1 : butteryref02_Reader)
   : Option (butteryref02_Reader)).bind fun s37 =>
    lt (s37.Code != (0 : Int)) fun v49 =>
    if v49 = true then
      some ((s37 : butteryref02_Reader), ((⟨([] : List (BitVec 8)), (0 : Int), (0 : Int), (0 : Int), ([] : List (BitVec 8))⟩ : api_Entry) : api_Entry))
    else
      some ((s37 : butteryref02_Reader), ((v31 : api_Entry) : api_Entry))
end Go.Proofs.YtgfedohhkbmobaaDoor
namespace Go.Proofs.YtgfedohhkbmobaaDoor
open Go Go.Va
set_option linter.unusedVariables false
set_option linter.unusedSimpArgs false
set_option maxRecDepth 20000
noncomputable def butteryref06_Put (x0 : List (BitVec 8)) (x1 : api_Entry) : Option ((List (BitVec 8))) :=
  (toBytes x1.Key).bind fun v2 =>
  (butteryref02_Bytes x0 v2).bind fun v4 =>
  lt (([x1.Version, x1.AsOf, x1.Ends] : List Int)) fun v6 =>
  (butteryref02_Put v4 v6).bind fun v8 =>
  (butteryref02_Bytes v8 x1.Value).bind fun v10 =>
  some v10
end Go.Proofs.YtgfedohhkbmobaaDoor
namespace Go.Proofs.YtgfedohhkbmobaaDoor
open Go Go.Va
set_option linter.unusedVariables false
set_option linter.unusedSimpArgs false
set_option maxRecDepth 20000
noncomputable def butteryref06_Size (x0 : api_Entry) : Option (Int) :=
  (butteryref06_Put [] x0).bind fun v2 =>
  lt (((v2).length : Int)) fun v4 =>
  some v4
end Go.Proofs.YtgfedohhkbmobaaDoor
namespace Go.Proofs.YtgfedohhkbmobaaDoor
open Go Go.Va
set_option linter.unusedVariables false
set_option linter.unusedSimpArgs false
set_option maxRecDepth 20000
noncomputable def butteryref06_Read_b0 (x0 : List (BitVec 8)) (c6 : List api_Entry) (c7 : butteryref02_Reader) : Option (((List api_Entry) × butteryref02_Reader) ⊕ (((List api_Entry) × butteryref02_Reader) ⊕ ((List api_Entry) × Int))) :=
  lt (((x0).length : Int)) fun v19 =>
  lt (decide (c7.At < v19)) fun v21 =>
  if v21 = true then
    (butteryref06_From c7).bind fun v24 =>
    lt (((v24.1 : butteryref02_Reader).Code) != (0 : Int)) fun v32 =>
    if v32 = true then
      some (.inr (.inr ([], (v24.1 : butteryref02_Reader).Code)))
    else
      lt (((v24.1 : butteryref02_Reader) : butteryref02_Reader)) fun c36 =>
      lt (([(v24.2 : api_Entry)] : List api_Entry)) fun v39 =>
      (app 64 c6 v39).bind fun v41 =>
      some (.inl (v41, c36))
  else
    some (.inr (.inl (c6, c7)))
noncomputable def butteryref06_Read_l0 (x0 : List (BitVec 8)) (s : (List api_Entry) × butteryref02_Reader) : Option (((List api_Entry) × butteryref02_Reader) ⊕ ((List api_Entry) × Int)) := loopO (fun s => butteryref06_Read_b0 x0 s.1 s.2) s
noncomputable def butteryref06_Read (x0 : List (BitVec 8)) : Option ((List api_Entry) × Int) :=
  lt ((⟨x0, (0 : Int), (0 : Int)⟩ : butteryref02_Reader)) fun v2 =>
  (butteryref06_Read_l0 x0 ([], (v2 : butteryref02_Reader))).bind fun o9 =>
    Sum.elim (fun s16 : (List api_Entry) × butteryref02_Reader =>
      some (s16.1, (0 : Int))
      ) (fun y => some y) o9
end Go.Proofs.YtgfedohhkbmobaaDoor
namespace Go.Proofs.YtgfedohhkbmobaaDoor
open Go Go.Va
set_option linter.unusedVariables false
set_option linter.unusedSimpArgs false
set_option maxRecDepth 20000
noncomputable def butteryref06_All_b0 (x0 : List api_Entry) (c1 : List (BitVec 8)) (c2 : Int) : Option (((List (BitVec 8)) × Int) ⊕ ((List (BitVec 8)))) :=
  lt (((x0).length : Int)) fun v14 =>
  lt (decide (c2 < v14)) fun v16 =>
  if v16 = true then
    (ix x0 c2).bind fun v19 =>
    (butteryref06_Put c1 v19).bind fun v21 =>
    lt (w64 (c2 + (1 : Int))) fun v24 =>
    some (.inl (v21, v24))
  else
    some (.inr c1)
noncomputable def butteryref06_All_l0 (x0 : List api_Entry) (s : (List (BitVec 8)) × Int) : Option ((List (BitVec 8))) := loopO (fun s => butteryref06_All_b0 x0 s.1 s.2) s
noncomputable def butteryref06_All (x0 : List api_Entry) : Option ((List (BitVec 8))) :=
  (butteryref06_All_l0 x0 ([], (0 : Int))).bind fun s11 =>
    some s11
end Go.Proofs.YtgfedohhkbmobaaDoor
namespace Go.Proofs.YtgfedohhkbmobaaDoor
open Go Go.Va
set_option linter.unusedVariables false
set_option linter.unusedSimpArgs false
set_option maxRecDepth 20000
noncomputable def butteryref06_Live (x0 : api_Entry) (x1 : Int) : Option (Bool) :=
  lt (x0.Ends == (0 : Int)) fun v2 =>
  if v2 = true then
    some true
  else
    lt (decide (x0.Ends > x1)) fun v5 =>
    some v5
end Go.Proofs.YtgfedohhkbmobaaDoor
namespace Go.Proofs.YtgfedohhkbmobaaDoor
open Go Go.Va
set_option linter.unusedVariables false
set_option linter.unusedSimpArgs false
/-- What is wrong with an entry. -/
def ckK (k : List (BitVec 8)) : Int := if k.length = 0 then 1 else if 40 < k.length then 3 else 0
def ckE (x : api_Entry) : Int :=
  if ckK x.Key ≠ 0 then ckK x.Key else
  if (x.Version < 1 ∨ x.Version > 1099511627776) ∨ (x.AsOf < x.Version ∨ x.AsOf > 1099511627776) ∨ (x.Ends < 0 ∨ x.Ends > 1099511627776) then 2 else
  if 4096 < x.Value.length then 3 else 0
theorem octKey_eq (k : List (BitVec 8)) : octets_Key k = some (ckK k) := by
  unfold octets_Key ckK
  simp only [lt_eq]
  by_cases h0 : k.length = 0
  · rw [if_pos h0, if_pos (by simp [h0])]
  · rw [if_neg h0, if_neg (by simp; intro h; subst h; simp at h0)]
    by_cases h1 : 40 < k.length
    · rw [if_pos h1, if_pos (decide_eq_true (by omega))]
    · rw [if_neg h1, if_neg (by rw [decide_eq_false (by omega)]; simp)]
theorem refKey_eq (k : List (BitVec 8)) : butteryref02_Key k = some (ckK k) := by rw [← key_eq, octKey_eq]
theorem new_eq (op : List (BitVec 8)) (n c : Int) (hc : c ≠ 0) : trouble_New op n c = some (.fault op n c .nil) := by
  simp [trouble_New, lt_eq, hc]
theorem wrap_eq (op : List (BitVec 8)) (n : Int) (e : Err) (he : e.isNil = false) : trouble_Wrap op n e = some (.fault op n 0 e) := by
  simp [trouble_Wrap, lt_eq, he]
theorem num_ck (op : List (BitVec 8)) (n low : Int) (e : Err) : ∃ e', item_Check_1_c op n low e = some e' ∧ (e.isNil = false → e' = e) ∧ (e = .nil → (n < low ∨ n > 1099511627776) → ∃ o a, e' = .fault o a 2 .nil) ∧ (e = .nil → ¬ (n < low ∨ n > 1099511627776) → e' = .nil) := by
  unfold item_Check_1_c
  simp only [lt_eq]
  cases e with
  | fault o a c u => exact ⟨_, rfl, fun _ => rfl, (fun h => by cases h), (fun h => by cases h)⟩
  | nil =>
    simp only [Err.isNil, if_true]
    by_cases h1 : n < low
    · rw [if_pos (decide_eq_true h1)]
      exact ⟨_, rfl, (fun h => by cases h), fun _ _ => ⟨_, _, rfl⟩, fun _ h => absurd (.inl h1) h⟩
    · rw [if_neg (by rw [decide_eq_false h1]; simp)]
      by_cases h2 : n > 1099511627776
      · rw [decide_eq_true h2]
        exact ⟨_, rfl, (fun h => by cases h), fun _ _ => ⟨_, _, rfl⟩, fun _ h => absurd (.inr h2) h⟩
      · rw [decide_eq_false h2]
        exact ⟨_, rfl, (fun h => by cases h), fun _ h => absurd h (by omega), fun _ _ => rfl⟩
theorem check_eq (x : api_Entry) : ∃ e, item_Check x = some e ∧ codeOf e = ckE x ∧ e.isNil = decide (ckE x = 0) := by
  unfold item_Check ckE
  rw [octKey_eq]
  simp only [Option.bind_some, lt_eq]
  by_cases hk : ckK x.Key = 0
  · rw [if_neg (show ¬ ((ckK x.Key != 0) = true) by simpa using hk), if_neg (show ¬ (ckK x.Key ≠ 0) by simpa using hk)]
    obtain ⟨e1, a1, a2, a3, a4⟩ := num_ck [118#8, 101#8, 114#8, 115#8, 105#8, 111#8, 110#8] x.Version 1 .nil
    obtain ⟨e2, b1, b2, b3, b4⟩ := num_ck [97#8, 115#8, 111#8, 102#8] x.AsOf x.Version e1
    obtain ⟨e3, c1, c2, c3, c4⟩ := num_ck [101#8, 110#8, 100#8, 115#8] x.Ends 0 e2
    simp only [a1, b1, c1, Option.bind_some]
    by_cases h : (x.Version < 1 ∨ x.Version > 1099511627776) ∨ (x.AsOf < x.Version ∨ x.AsOf > 1099511627776) ∨ (x.Ends < 0 ∨ x.Ends > 1099511627776)
    · rw [if_pos h]
      have key : ∃ o a, e3 = .fault o a 2 .nil := by
        by_cases h1 : x.Version < 1 ∨ x.Version > 1099511627776
        · obtain ⟨o, a, rfl⟩ := a3 rfl h1
          have := b2 rfl; subst this
          have := c2 rfl; subst this
          exact ⟨o, a, rfl⟩
        · have := a4 rfl h1; subst this
          by_cases h2 : x.AsOf < x.Version ∨ x.AsOf > 1099511627776
          · obtain ⟨o, a, rfl⟩ := b3 rfl h2
            have := c2 rfl; subst this
            exact ⟨o, a, rfl⟩
          · have := b4 rfl h2; subst this
            have h3 : x.Ends < 0 ∨ x.Ends > 1099511627776 := by
              rcases h with h | h | h
              · exact absurd h h1
              · exact absurd h h2
              · exact h
            exact c3 rfl h3
      obtain ⟨o, a, rfl⟩ := key
      exact ⟨_, rfl, rfl, rfl⟩
    · rw [if_neg h]
      simp only [not_or] at h
      have := a4 rfl (by omega); subst this
      have := b4 rfl (by omega); subst this
      have := c4 rfl (by omega); subst this
      simp only [Err.isNil, if_true, Option.bind_some]
      by_cases hv : 4096 < x.Value.length
      · rw [if_pos (decide_eq_true (by omega)), if_pos hv, new_eq _ _ _ (by decide)]
        exact ⟨_, rfl, rfl, rfl⟩
      · rw [if_neg (by rw [decide_eq_false (by omega)]; simp), if_neg hv]
        exact ⟨_, rfl, rfl, rfl⟩
  · rw [if_pos (by simpa using hk), if_pos hk, new_eq _ _ _ hk]
    exact ⟨_, rfl, by simp [codeOf, hk], by simp [Err.isNil, hk]⟩
theorem refCheck_eq (x : api_Entry) : butteryref06_Check x = some (ckE x) := by
  unfold butteryref06_Check ckE
  rw [refKey_eq]
  simp only [Option.bind_some, lt_eq]
  by_cases hk : ckK x.Key = 0
  · rw [if_neg (show ¬ ((ckK x.Key != 0) = true) by simpa using hk), if_neg (show ¬ (ckK x.Key ≠ 0) by simpa using hk)]
    have hb : (if decide (x.Version < 1) = true then some true else if decide (x.Version > 1099511627776) = true then some true else if decide (x.AsOf < x.Version) = true then some true else if decide (x.AsOf > 1099511627776) = true then some true else if decide (x.Ends < 0) = true then some true else some (decide (x.Ends > 1099511627776))) = some (decide ((x.Version < 1 ∨ x.Version > 1099511627776) ∨ (x.AsOf < x.Version ∨ x.AsOf > 1099511627776) ∨ (x.Ends < 0 ∨ x.Ends > 1099511627776))) := by
      by_cases h1 : x.Version < 1
      · simp [h1]
      by_cases h2 : x.Version > 1099511627776
      · simp [h1, h2]
      by_cases h3 : x.AsOf < x.Version
      · simp [h1, h2, h3]
      by_cases h4 : x.AsOf > 1099511627776
      · simp [h1, h2, h3, h4]
      by_cases h5 : x.Ends < 0
      · simp [h1, h2, h3, h4, h5]
      · simp [h1, h2, h3, h4, h5]
    rw [hb]
    simp only [Option.bind_some, decide_eq_true_eq]
    split
    · rfl
    · by_cases hv : 4096 < x.Value.length
      · rw [if_pos (by omega), if_pos hv]
      · rw [if_neg (by omega), if_neg hv]
  · rw [if_pos (show (ckK x.Key != 0) = true by simpa using hk), if_pos (show ckK x.Key ≠ 0 from hk)]
/-- An entry that may be. -/
theorem ck_ok {x : api_Entry} (h : ckE x = 0) : 1 ≤ x.Key.length ∧ x.Key.length ≤ 40 ∧ 1 ≤ x.Version ∧ x.Version ≤ 1099511627776 ∧ x.Version ≤ x.AsOf ∧ x.AsOf ≤ 1099511627776 ∧ 0 ≤ x.Ends ∧ x.Ends ≤ 1099511627776 ∧ x.Value.length ≤ 4096 := by
  unfold ckE ckK at h
  by_cases h1 : x.Key.length = 0
  · simp [h1] at h
  by_cases h2 : 40 < x.Key.length
  · simp [h1, h2] at h
  simp only [if_neg h1, if_neg h2] at h
  rw [if_neg (by simp)] at h
  by_cases h3 : (x.Version < 1 ∨ x.Version > 1099511627776) ∨ (x.AsOf < x.Version ∨ x.AsOf > 1099511627776) ∨ (x.Ends < 0 ∨ x.Ends > 1099511627776)
  · rw [if_pos h3] at h; cases h
  rw [if_neg h3] at h
  by_cases h4 : 4096 < x.Value.length
  · rw [if_pos h4] at h; cases h
  omega
/-- The bytes of an entry. -/
def encE (x : api_Entry) : List (BitVec 8) := num7 x.Key.length ++ (x.Key ++ (num7 x.Version.toNat ++ (num7 x.AsOf.toNat ++ (num7 x.Ends.toNat ++ (num7 x.Value.length ++ x.Value)))))
theorem okN_ck {x : api_Entry} (h : ckE x = 0) : okN [x.Version, x.AsOf, x.Ends] := by
  obtain ⟨h1, h2, h3, h4, h5, h6, h7, h8, h9⟩ := ck_ok h
  refine ⟨by simp, fun n hn => ?_⟩
  simp only [List.mem_cons, List.not_mem_nil, or_false] at hn
  rcases hn with rfl | rfl | rfl <;> omega
theorem num7_le {n : Nat} (h : n < 9223372036854775808) : (num7 n).length ≤ 9 := num7_len h
theorem encE_len {x : api_Entry} (h : ckE x = 0) : (encE x).length ≤ 4181 ∧ 1 ≤ (encE x).length := by
  obtain ⟨h1, h2, h3, h4, h5, h6, h7, h8, h9⟩ := ck_ok h
  have a1 := num7_len (n := x.Key.length) (by omega)
  have a2 := num7_len (n := x.Version.toNat) (by omega)
  have a3 := num7_len (n := x.AsOf.toNat) (by omega)
  have a4 := num7_len (n := x.Ends.toNat) (by omega)
  have a5 := num7_len (n := x.Value.length) (by omega)
  simp only [encE, List.length_append]
  omega
theorem put_eq {b : List (BitVec 8)} {x : api_Entry} (hb : b.length ≤ 900000) (h : ckE x = 0) : item_Put b x = some (b ++ encE x) := by
  obtain ⟨h1, h2, h3, h4, h5, h6, h7, h8, h9⟩ := ck_ok h
  have a1 := num7_len (n := x.Key.length) (by omega)
  have a2 := num7_len (n := x.Version.toNat) (by omega)
  have a3 := num7_len (n := x.AsOf.toNat) (by omega)
  have a4 := num7_len (n := x.Ends.toNat) (by omega)
  unfold item_Put
  rw [show toBytes x.Key = some x.Key by unfold toBytes; rw [if_pos (by omega)]]
  simp only [Option.bind_some, lt_eq]
  rw [octBytes_eq _ _ (by omega) (by omega)]
  simp only [Option.bind_some]
  rw [octPut_eq _ (by simp only [List.length_append]; omega) (okN_ck h)]
  simp only [Option.bind_some]
  rw [octBytes_eq _ _ (by simp only [List.length_append, nums, List.flatMap_cons, List.flatMap_nil, List.length_nil]; omega) (by omega)]
  simp [encE, nums]
theorem refPutE_eq {b : List (BitVec 8)} {x : api_Entry} (hb : b.length ≤ 900000) (h : ckE x = 0) : butteryref06_Put b x = some (b ++ encE x) := by
  obtain ⟨h1, h2, h3, h4, h5, h6, h7, h8, h9⟩ := ck_ok h
  have a1 := num7_len (n := x.Key.length) (by omega)
  have a2 := num7_len (n := x.Version.toNat) (by omega)
  have a3 := num7_len (n := x.AsOf.toNat) (by omega)
  have a4 := num7_len (n := x.Ends.toNat) (by omega)
  unfold butteryref06_Put
  rw [show toBytes x.Key = some x.Key by unfold toBytes; rw [if_pos (by omega)]]
  simp only [Option.bind_some, lt_eq]
  rw [refBytes_eq _ _ (by omega) (by omega)]
  simp only [Option.bind_some]
  rw [refPut_eq _ (by simp only [List.length_append]; omega) (okN_ck h)]
  simp only [Option.bind_some]
  rw [refBytes_eq _ _ (by simp only [List.length_append, nums, List.flatMap_cons, List.flatMap_nil, List.length_nil]; omega) (by omega)]
  simp [encE, nums]
theorem nlen_num7 : ∀ (k n : Nat), n < 128 ^ k → (num7 n).length = nlen n
  | 0, n, h => by
    have : n = 0 := by simpa using h
    subst this
    rw [num7_small (by omega), nlen_lt (by omega)]; rfl
  | k + 1, n, h => by
    by_cases h1 : n < 128
    · rw [num7_small h1, nlen_lt h1]; rfl
    · rw [nlen_ge (by omega), ← nlen_num7 k (n / 128) (by rw [Nat.div_lt_iff_lt_mul (by decide)]; rw [Nat.pow_succ] at h; exact h)]
      simp only [num7, List.length_append, List.length_cons, List.length_nil]
      rw [pre_pos (m := n / 128) (by omega)]
      simp
theorem nlen_eq {n : Nat} (h : n < 9223372036854775808) : (num7 n).length = nlen n := nlen_num7 9 n (by omega)
theorem size_eq6 {x : api_Entry} (h : ckE x = 0) : item_Size x = some ((encE x).length : Int) := by
  obtain ⟨h1, h2, h3, h4, h5, h6, h7, h8, h9⟩ := ck_ok h
  have a1 := num7_len (n := x.Key.length) (by omega)
  have a2 := num7_len (n := x.Version.toNat) (by omega)
  have a3 := num7_len (n := x.AsOf.toNat) (by omega)
  have a4 := num7_len (n := x.Ends.toNat) (by omega)
  have a5 := num7_len (n := x.Value.length) (by omega)
  have e2 : x.Version = (x.Version.toNat : Int) := by omega
  have e3 : x.AsOf = (x.AsOf.toNat : Int) := by omega
  have e4 : x.Ends = (x.Ends.toNat : Int) := by omega
  have hl : (encE x).length = (num7 x.Key.length).length + (x.Key.length + ((num7 x.Version.toNat).length + ((num7 x.AsOf.toNat).length + ((num7 x.Ends.toNat).length + ((num7 x.Value.length).length + x.Value.length))))) := by simp [encE]
  rw [hl]
  rw [nlen_eq (by omega), nlen_eq (by omega), nlen_eq (by omega), nlen_eq (by omega), nlen_eq (by omega)] at *
  unfold item_Size
  rw [e2, e3, e4]
  simp only [lt_eq, octLen_eq (n := x.Key.length) (by omega), octLen_eq (n := x.Value.length) (by omega), octLen_eq (n := x.Version.toNat) (by omega), octLen_eq (n := x.AsOf.toNat) (by omega), octLen_eq (n := x.Ends.toNat) (by omega), Option.bind_some, Int.toNat_natCast]
  generalize nlen x.Key.length = n1 at *
  generalize nlen x.Value.length = n2 at *
  generalize nlen x.Version.toNat = n3 at *
  generalize nlen x.AsOf.toNat = n4 at *
  generalize nlen x.Ends.toNat = n5 at *
  rw [w64_eq (n := (n1 : Int) + (x.Key.length : Int)) (by omega) (by omega), w64_eq (n := (n1 : Int) + (x.Key.length : Int) + (n2 : Int)) (by omega) (by omega), w64_eq (n := (n1 : Int) + (x.Key.length : Int) + (n2 : Int) + (x.Value.length : Int)) (by omega) (by omega)]
  rw [w64_eq (n := (n1 : Int) + (x.Key.length : Int) + (n2 : Int) + (x.Value.length : Int) + (n3 : Int)) (by omega) (by omega), w64_eq (n := (n1 : Int) + (x.Key.length : Int) + (n2 : Int) + (x.Value.length : Int) + (n3 : Int) + (n4 : Int)) (by omega) (by omega), w64_eq (n := (n1 : Int) + (x.Key.length : Int) + (n2 : Int) + (x.Value.length : Int) + (n3 : Int) + (n4 : Int) + (n5 : Int)) (by omega) (by omega)]
  congr 1
  omega
theorem refSize_eq6 {x : api_Entry} (h : ckE x = 0) : butteryref06_Size x = some ((encE x).length : Int) := by
  unfold butteryref06_Size
  rw [refPutE_eq (b := []) (by simp) h]
  simp [lt_eq]
def zeroE : api_Entry := ⟨[], 0, 0, 0, []⟩
/-- What is read as an entry. -/
def frE (b : List (BitVec 8)) (r : rdr) : api_Entry × rdr :=
  let k := rB b r 40
  let v := rN b k.2 1099511627776
  let a := rN b v.2 1099511627776
  let n := rN b a.2 1099511627776
  let w := rB b n.2 4096
  let x : api_Entry := ⟨k.1, v.1, a.1, n.1, w.1⟩
  if w.2.e = 0 then (if ckE x = 0 then (x, w.2) else (zeroE, ⟨w.2.a, ckE x⟩)) else (zeroE, w.2)
theorem from_eq {b : List (BitVec 8)} (hb : b.length ≤ 1000000) {r : rdr} (hr : r.a ≤ b.length) : item_From (r.o b) = some ((frE b r).1, (frE b r).2.o b) := by
  unfold item_From frE
  have h1 := rB_le hr 40
  rw [show (40 : Int) = ((40 : Nat) : Int) from rfl, octB_r hb hr (by omega)]
  simp only [Option.bind_some]
  have h2 := rN_le h1.1 1099511627776
  rw [show (1099511627776 : Int) = ((1099511627776 : Nat) : Int) from rfl, octN_r hb h1.1 (by omega)]
  simp only [Option.bind_some]
  have h3 := rN_le h2.1 1099511627776
  rw [octN_r hb h2.1 (by omega)]
  simp only [Option.bind_some]
  have h4 := rN_le h3.1 1099511627776
  rw [octN_r hb h3.1 (by omega)]
  simp only [Option.bind_some]
  rw [show (4096 : Int) = ((4096 : Nat) : Int) from rfl, octB_r hb h4.1 (by omega)]
  simp only [Option.bind_some, lt_eq]
  generalize rN b (rN b (rN b (rB b r 40).2 1099511627776).2 1099511627776).2 1099511627776 = n at *
  generalize rN b (rN b (rB b r 40).2 1099511627776).2 1099511627776 = a at *
  generalize rN b (rB b r 40).2 1099511627776 = v at *
  generalize rB b r 40 = k at *
  generalize rB b n.2 4096 = w
  obtain ⟨wv, wa, we⟩ := w
  simp only [octets_Reader_Code, rdr.o, Option.bind_some]
  by_cases he : we = 0
  · subst he
    obtain ⟨e, c1, c2, c3⟩ := check_eq ⟨k.1, v.1, a.1, n.1, wv⟩
    rw [if_pos (by rfl), c1, if_pos rfl]
    simp only [Option.bind_some, c3]
    by_cases hc : ckE ⟨k.1, v.1, a.1, n.1, wv⟩ = 0
    · rw [if_pos hc]
      simp [hc]
    · rw [if_neg hc]
      simp only [hc, decide_false, Bool.not_false, if_true, trouble_Of, c2, Option.bind_some, fail_eq]
      rw [if_pos (by simpa using hc)]
      rfl
  · rw [if_neg (by simpa using he), if_neg he]
    simp only [Option.bind_some]
    rw [if_pos (by simpa using he)]
    rfl
theorem refFrom_eq {b : List (BitVec 8)} (hb : b.length ≤ 1000000) {r : rdr} (hr : r.a ≤ b.length) : butteryref06_From (r.x b) = some ((frE b r).2.x b, (frE b r).1) := by
  unfold butteryref06_From frE
  have h1 := rB_le hr 40
  rw [show (40 : Int) = ((40 : Nat) : Int) from rfl, refB_r hb hr (by omega)]
  simp only [Option.bind_some]
  have h2 := rN_le h1.1 1099511627776
  rw [show (1099511627776 : Int) = ((1099511627776 : Nat) : Int) from rfl, refN_r hb h1.1 (by omega)]
  simp only [Option.bind_some]
  have h3 := rN_le h2.1 1099511627776
  rw [refN_r hb h2.1 (by omega)]
  simp only [Option.bind_some]
  have h4 := rN_le h3.1 1099511627776
  rw [refN_r hb h3.1 (by omega)]
  simp only [Option.bind_some]
  rw [show (4096 : Int) = ((4096 : Nat) : Int) from rfl, refB_r hb h4.1 (by omega)]
  simp only [Option.bind_some, lt_eq]
  generalize rN b (rN b (rN b (rB b r 40).2 1099511627776).2 1099511627776).2 1099511627776 = n at *
  generalize rN b (rN b (rB b r 40).2 1099511627776).2 1099511627776 = a at *
  generalize rN b (rB b r 40).2 1099511627776 = v at *
  generalize rB b r 40 = k at *
  generalize rB b n.2 4096 = w
  obtain ⟨wv, wa, we⟩ := w
  simp only [rdr.x]
  by_cases he : we = 0
  · subst he
    rw [refCheck_eq]
    simp only [Option.bind_some, beq_self_eq_true, if_true]
    by_cases hc : ckE ⟨k.1, v.1, a.1, n.1, wv⟩ = 0
    · rw [if_pos hc]
      simp [hc]
    · rw [if_neg hc]
      rw [if_pos (by simpa using hc)]
      rfl
  · have hf : (we == 0) = false := by simpa using he
    simp only [hf, if_neg he, Option.bind_some, Bool.false_eq_true, if_false]
    simp [he]
    rfl
theorem frE_le {b : List (BitVec 8)} {r : rdr} (hr : r.a ≤ b.length) : (frE b r).2.a ≤ b.length := by
  unfold frE
  have h1 := rB_le hr 40
  have h2 := rN_le h1.1 1099511627776
  have h3 := rN_le h2.1 1099511627776
  have h4 := rN_le h3.1 1099511627776
  have h5 := rB_le h4.1 4096
  simp only
  split
  · split
    · exact h5.1
    · exact h5.1
  · exact h5.1
/-- An entry that is there is read. -/
theorem frE_is {b l : List (BitVec 8)} {r : rdr} {x : api_Entry} (he : r.e = 0) (hr : r.a ≤ b.length) (h : b.drop r.a = encE x ++ l) (hc : ckE x = 0) : frE b r = (x, ⟨r.a + (encE x).length, 0⟩) := by
  obtain ⟨h1, h2, h3, h4, h5, h6, h7, h8, h9⟩ := ck_ok hc
  simp only [encE, List.append_assoc] at h
  have k1 := rB_is he hr h (m := 40) (by omega) (by omega)
  have d1 : b.drop (r.a + (num7 x.Key.length).length + x.Key.length) = _ := drop_app (drop_app h)
  have l1 : r.a + (num7 x.Key.length).length + x.Key.length ≤ b.length := by have := (rB_le hr 40).1; rw [k1] at this; exact this
  have k2 := rN_is (r := ⟨r.a + (num7 x.Key.length).length + x.Key.length, 0⟩) rfl d1 (m := 1099511627776) (by omega) (by omega)
  have d2 := drop_app d1
  have l2 := (rN_le (b := b) (r := ⟨r.a + (num7 x.Key.length).length + x.Key.length, 0⟩) l1 1099511627776).1
  rw [k2] at l2
  have k3 := rN_is (r := ⟨r.a + (num7 x.Key.length).length + x.Key.length + (num7 x.Version.toNat).length, 0⟩) rfl d2 (m := 1099511627776) (by omega) (by omega)
  have d3 := drop_app d2
  have l3 := (rN_le (b := b) (r := ⟨r.a + (num7 x.Key.length).length + x.Key.length + (num7 x.Version.toNat).length, 0⟩) l2 1099511627776).1
  rw [k3] at l3
  have k4 := rN_is (r := ⟨r.a + (num7 x.Key.length).length + x.Key.length + (num7 x.Version.toNat).length + (num7 x.AsOf.toNat).length, 0⟩) rfl d3 (m := 1099511627776) (by omega) (by omega)
  have d4 := drop_app d3
  have l4 := (rN_le (b := b) (r := ⟨r.a + (num7 x.Key.length).length + x.Key.length + (num7 x.Version.toNat).length + (num7 x.AsOf.toNat).length, 0⟩) l3 1099511627776).1
  rw [k4] at l4
  have k5 := rB_is (r := ⟨r.a + (num7 x.Key.length).length + x.Key.length + (num7 x.Version.toNat).length + (num7 x.AsOf.toNat).length + (num7 x.Ends.toNat).length, 0⟩) rfl l4 d4 (m := 4096) (by omega) (by omega)
  have e2 : (x.Version.toNat : Int) = x.Version := by omega
  have e3 : (x.AsOf.toNat : Int) = x.AsOf := by omega
  have e4 : (x.Ends.toNat : Int) = x.Ends := by omega
  unfold frE
  simp only [k1, k2, k3, k4, k5, if_true, e2, e3, e4]
  rw [if_pos hc]
  refine Prod.ext rfl ?_
  simp only [encE, List.length_append, rdr.mk.injEq, and_true]
  omega
/-- What was read as an entry is its bytes. -/
theorem frE_one {b : List (BitVec 8)} {r : rdr} (hr : r.a ≤ b.length) (h : (frE b r).2.e = 0) : ckE (frE b r).1 = 0 ∧ b.drop r.a = encE (frE b r).1 ++ b.drop (frE b r).2.a ∧ r.a < (frE b r).2.a := by
  unfold frE at h ⊢
  have h1 := rB_le hr 40
  have h2 := rN_le h1.1 1099511627776
  have h3 := rN_le h2.1 1099511627776
  have h4 := rN_le h3.1 1099511627776
  have h5 := rB_le h4.1 4096
  have o5 := rB_one (b := b) h4.1 (m := 4096) (by omega)
  have f5 := rB_off (b := b) (r := (rN b (rN b (rN b (rB b r 40).2 1099511627776).2 1099511627776).2 1099511627776).2) (m := 4096)
  have o4 := rN_one (b := b) (r := (rN b (rN b (rB b r 40).2 1099511627776).2 1099511627776).2) (m := 1099511627776) (by omega)
  have f4 := rN_off (b := b) (r := (rN b (rN b (rB b r 40).2 1099511627776).2 1099511627776).2) (m := 1099511627776)
  have o3 := rN_one (b := b) (r := (rN b (rB b r 40).2 1099511627776).2) (m := 1099511627776) (by omega)
  have f3 := rN_off (b := b) (r := (rN b (rB b r 40).2 1099511627776).2) (m := 1099511627776)
  have o2 := rN_one (b := b) (r := (rB b r 40).2) (m := 1099511627776) (by omega)
  have f2 := rN_off (b := b) (r := (rB b r 40).2) (m := 1099511627776)
  have o1 := rB_one (b := b) hr (m := 40) (by omega)
  simp only at h ⊢
  generalize rB b (rN b (rN b (rN b (rB b r 40).2 1099511627776).2 1099511627776).2 1099511627776).2 4096 = w at *
  generalize rN b (rN b (rN b (rB b r 40).2 1099511627776).2 1099511627776).2 1099511627776 = n at *
  generalize rN b (rN b (rB b r 40).2 1099511627776).2 1099511627776 = a at *
  generalize rN b (rB b r 40).2 1099511627776 = v at *
  generalize rB b r 40 = k at *
  by_cases he : w.2.e = 0
  · rw [if_pos he] at h ⊢
    by_cases hc : ckE ⟨k.1, v.1, a.1, n.1, w.1⟩ = 0
    · rw [if_pos hc]
      have g4 := f5 he
      have g3 := f4 g4
      have g2 := f3 g3
      have g1 := f2 g2
      refine ⟨hc, ?_, ?_⟩
      · simp only [encE, Int.toNat_natCast, List.append_assoc]
        rw [(o1 g1).1, (o2 g2).1, (o3 g3).1, (o4 g4).1, (o5 he).1]
      · have := (o1 g1).2.1
        simp only
        omega
    · rw [if_neg hc] at h
      exact absurd h hc
  · rw [if_neg he] at h
    exact absurd h he
end Go.Proofs.YtgfedohhkbmobaaDoor
namespace Go.Proofs.YtgfedohhkbmobaaDoor
open Go Go.Va
set_option linter.unusedVariables false
set_option linter.unusedSimpArgs false
/-- What bytes are as entries, from a place on; or what is wrong first. -/
def rdE (b : List (BitVec 8)) : Nat → Nat → List api_Entry ⊕ Int
  | 0, _ => .inl []
  | k + 1, a => if a < b.length then (if (frE b ⟨a, 0⟩).2.e = 0 then (match rdE b k (frE b ⟨a, 0⟩).2.a with
      | .inl l => .inl ((frE b ⟨a, 0⟩).1 :: l)
      | .inr c => .inr c) else .inr (frE b ⟨a, 0⟩).2.e) else .inl []
theorem rdE_ne {b : List (BitVec 8)} : ∀ {k a : Nat} {c : Int}, rdE b k a = .inr c → c ≠ 0
  | 0, a, c, h => by simp [rdE] at h
  | k + 1, a, c, h => by
    simp only [rdE] at h
    split at h
    · split at h
      · split at h
        · cases h
        · rename_i hc; cases h; exact rdE_ne hc
      · rename_i he; cases h; exact he
    · cases h
theorem rdE_len {b : List (BitVec 8)} : ∀ {k a : Nat} {l : List api_Entry}, rdE b k a = .inl l → l.length ≤ k
  | 0, a, l, h => by simp [rdE] at h; subst h; simp
  | k + 1, a, l, h => by
    simp only [rdE] at h
    split at h
    · split at h
      · split at h
        · rename_i l' hl; cases h; have := rdE_len hl; simp; omega
        · cases h
      · cases h
    · cases h; simp
theorem frE_val {b : List (BitVec 8)} {r : rdr} (hr : r.a ≤ b.length) : (frE b r).1.Value.length ≤ b.length := by
  unfold frE
  have h1 := rB_le hr 40
  have h2 := rN_le h1.1 1099511627776
  have h3 := rN_le h2.1 1099511627776
  have h4 := rN_le h3.1 1099511627776
  have h5 := rB_le h4.1 4096
  simp only
  split
  · split
    · exact h5.2.2
    · simp [zeroE]
  · simp [zeroE]
theorem rdE_val {b : List (BitVec 8)} : ∀ {k a : Nat} {l : List api_Entry}, a ≤ b.length → rdE b k a = .inl l → ∀ x ∈ l, x.Value.length ≤ b.length
  | 0, a, l, ha, h, x, hx => by simp [rdE] at h; subst h; simp at hx
  | k + 1, a, l, ha, h, x, hx => by
    simp only [rdE] at h
    split at h
    · split at h
      · split at h
        · rename_i l' hl
          cases h
          rcases List.mem_cons.1 hx with rfl | hx
          · exact frE_val (r := ⟨a, 0⟩) ha
          · exact rdE_val (frE_le (r := ⟨a, 0⟩) ha) hl x hx
        · cases h
      · cases h
    · cases h; simp at hx
theorem o_code (r : rdr) (b : List (BitVec 8)) : (r.o b).code = r.e := rfl
theorem o_at (r : rdr) (b : List (BitVec 8)) : (r.o b).at_ = r.a := rfl
theorem x_code (r : rdr) (b : List (BitVec 8)) : (r.x b).Code = r.e := rfl
theorem x_at (r : rdr) (b : List (BitVec 8)) : (r.x b).At = r.a := rfl
theorem read_l {b : List (BitVec 8)} (hb : b.length ≤ 900000) : ∀ (k a : Nat) (acc : List api_Entry), b.length < k + a → a ≤ b.length → acc.length + k ≤ 1000000 →
    ∃ y, item_Read_l0 (acc, (⟨a, 0⟩ : rdr).o b) = some y ∧ (∀ l, rdE b k a = .inl l → ∃ r, y = .inl (acc ++ l, r)) ∧ (∀ c, rdE b k a = .inr c → ∃ e, y = .inr ([], e) ∧ codeOf e = c ∧ e.isNil = false)
  | 0, a, acc, h1, h2, h3 => absurd h1 (by omega)
  | k + 1, a, acc, h1, h2, h3 => by
    have hL : octets_Reader_Left (rdr.o ⟨a, 0⟩ b) = some ((b.length - a : Nat) : Int) := left_eq (by omega) h2
    have hf := from_eq (b := b) (r := ⟨a, 0⟩) (by omega) h2
    have hle := frE_le (b := b) (r := ⟨a, 0⟩) h2
    by_cases ha : a < b.length
    · by_cases he : (frE b ⟨a, 0⟩).2.e = 0
      · obtain ⟨c1, c2, c3⟩ := frE_one (b := b) (r := ⟨a, 0⟩) h2 he
        simp only at c3
        obtain ⟨y, i1, i2, i3⟩ := read_l hb k (frE b ⟨a, 0⟩).2.a (acc ++ [(frE b ⟨a, 0⟩).1]) (by omega) hle (by simp; omega)
        have e1 : item_Read_l0 (acc, (⟨a, 0⟩ : rdr).o b) = item_Read_l0 (acc ++ [(frE b ⟨a, 0⟩).1], (⟨(frE b ⟨a, 0⟩).2.a, 0⟩ : rdr).o b) := by
          refine loopO_in (body := fun s => item_Read_b0 s.1 s.2) ?_
          have hd : decide (((b.length - a : Nat) : Int) > 0) = true := decide_eq_true (by omega)
          simp only [item_Read_b0, hL, hf, octets_Reader_Code, octets_Reader_At, Option.bind_some, lt_eq, o_code, o_at, beq_self_eq_true, if_true, hd, he, bne_self_eq_false, Bool.false_eq_true, if_false]
          rw [app_eq (by simp; omega)]
          simp only [Option.bind_some, rdr.o, he]
        refine ⟨y, by rw [e1]; exact i1, fun l hl => ?_, fun c hc => ?_⟩
        · simp only [rdE, if_pos ha, if_pos he] at hl
          split at hl
          · rename_i l' hl'
            cases hl
            obtain ⟨r, hr⟩ := i2 _ hl'
            exact ⟨r, by rw [hr]; simp⟩
          · cases hl
        · simp only [rdE, if_pos ha, if_pos he] at hc
          split at hc
          · cases hc
          · rename_i c' hc'
            cases hc
            exact i3 _ hc'
      · refine ⟨.inr ([], .fault [101#8, 110#8, 116#8, 114#8, 105#8, 101#8, 115#8] acc.length 0 (.fault [101#8, 110#8, 116#8, 114#8, 121#8] a (frE b ⟨a, 0⟩).2.e .nil)), ?_, fun l hl => ?_, fun c hc => ?_⟩
        · refine loopO_out ?_
          have hd : decide (((b.length - a : Nat) : Int) > 0) = true := decide_eq_true (by omega)
          simp only [item_Read_b0, hL, hf, octets_Reader_Code, octets_Reader_At, Option.bind_some, lt_eq, o_code, o_at, beq_self_eq_true, if_true, hd]
          show (if ((frE b ⟨a, 0⟩).2.e != 0) = true then _ else _) = _
          rw [if_pos (by simpa using he), new_eq _ _ _ he]
          simp only [Option.bind_some]
          rw [wrap_eq _ _ _ rfl]
          rfl
        · simp only [rdE, if_pos ha, if_neg he] at hl
          cases hl
        · simp only [rdE, if_pos ha, if_neg he] at hc
          cases hc
          exact ⟨_, rfl, by simp [codeOf, he], rfl⟩
    · refine ⟨.inl (acc, (⟨a, 0⟩ : rdr).o b), ?_, fun l hl => ?_, fun c hc => ?_⟩
      · refine loopO_out ?_
        have hd : decide (((b.length - a : Nat) : Int) > 0) = false := decide_eq_false (by omega)
        simp only [item_Read_b0, hL, octets_Reader_Code, Option.bind_some, lt_eq, o_code, beq_self_eq_true, if_true, hd, Bool.false_eq_true, if_false]
      · simp only [rdE, if_neg ha] at hl
        cases hl
        exact ⟨_, by simp; rfl⟩
      · simp only [rdE, if_neg ha] at hc
        cases hc
theorem read_eq6 {b : List (BitVec 8)} (hb : b.length ≤ 900000) : (∀ l, rdE b (b.length + 1) 0 = .inl l → item_Read b = some (l, .nil)) ∧ (∀ c, rdE b (b.length + 1) 0 = .inr c → ∃ e, item_Read b = some ([], e) ∧ codeOf e = c ∧ e.isNil = false) := by
  obtain ⟨y, h1, h2, h3⟩ := read_l hb (b.length + 1) 0 [] (by omega) (by omega) (by simp; omega)
  unfold item_Read
  rw [read_eq (by omega)]
  have h1' : item_Read_l0 ([], ⟨b, 0, 0⟩) = some y := h1
  simp only [Option.bind_some, h1']
  refine ⟨fun l hl => ?_, fun c hc => ?_⟩
  · obtain ⟨r, rfl⟩ := h2 l hl
    rfl
  · obtain ⟨e, rfl, he⟩ := h3 c hc
    exact ⟨e, rfl, he⟩
theorem refRead_l {b : List (BitVec 8)} (hb : b.length ≤ 900000) : ∀ (k a : Nat) (acc : List api_Entry), b.length < k + a → a ≤ b.length → acc.length + k ≤ 1000000 →
    ∃ y, butteryref06_Read_l0 b (acc, (⟨a, 0⟩ : rdr).x b) = some y ∧ (∀ l, rdE b k a = .inl l → ∃ r, y = .inl (acc ++ l, r)) ∧ (∀ c, rdE b k a = .inr c → y = .inr ([], c))
  | 0, a, acc, h1, h2, h3 => absurd h1 (by omega)
  | k + 1, a, acc, h1, h2, h3 => by
    have hf := refFrom_eq (b := b) (r := ⟨a, 0⟩) (by omega) h2
    have hle := frE_le (b := b) (r := ⟨a, 0⟩) h2
    by_cases ha : a < b.length
    · by_cases he : (frE b ⟨a, 0⟩).2.e = 0
      · obtain ⟨c1, c2, c3⟩ := frE_one (b := b) (r := ⟨a, 0⟩) h2 he
        simp only at c3
        obtain ⟨y, i1, i2, i3⟩ := refRead_l hb k (frE b ⟨a, 0⟩).2.a (acc ++ [(frE b ⟨a, 0⟩).1]) (by omega) hle (by simp; omega)
        have e1 : butteryref06_Read_l0 b (acc, (⟨a, 0⟩ : rdr).x b) = butteryref06_Read_l0 b (acc ++ [(frE b ⟨a, 0⟩).1], (⟨(frE b ⟨a, 0⟩).2.a, 0⟩ : rdr).x b) := by
          refine loopO_in (body := fun s => butteryref06_Read_b0 b s.1 s.2) ?_
          have hd : decide ((a : Int) < (b.length : Int)) = true := decide_eq_true (by omega)
          simp only [butteryref06_Read_b0, hf, lt_eq, Option.bind_some]
          show (if decide ((a : Int) < (b.length : Int)) = true then (if ((frE b ⟨a, 0⟩).2.e != 0) = true then _ else _) else _) = _
          rw [if_pos hd, if_neg (by simp [he]), app_eq (by simp; omega)]
          simp only [Option.bind_some, rdr.x, he]
        refine ⟨y, by rw [e1]; exact i1, fun l hl => ?_, fun c hc => ?_⟩
        · simp only [rdE, if_pos ha, if_pos he] at hl
          split at hl
          · rename_i l' hl'
            cases hl
            obtain ⟨r, hr⟩ := i2 _ hl'
            exact ⟨r, by rw [hr]; simp⟩
          · cases hl
        · simp only [rdE, if_pos ha, if_pos he] at hc
          split at hc
          · cases hc
          · rename_i c' hc'
            cases hc
            exact i3 _ hc'
      · refine ⟨.inr ([], (frE b ⟨a, 0⟩).2.e), ?_, fun l hl => ?_, fun c hc => ?_⟩
        · refine loopO_out ?_
          have hd : decide ((a : Int) < (b.length : Int)) = true := decide_eq_true (by omega)
          simp only [butteryref06_Read_b0, hf, lt_eq, Option.bind_some]
          show (if decide ((a : Int) < (b.length : Int)) = true then (if ((frE b ⟨a, 0⟩).2.e != 0) = true then _ else _) else _) = _
          rw [if_pos hd, if_pos (by simpa using he)]
          rfl
        · simp only [rdE, if_pos ha, if_neg he] at hl
          cases hl
        · simp only [rdE, if_pos ha, if_neg he] at hc
          cases hc
          rfl
    · refine ⟨.inl (acc, (⟨a, 0⟩ : rdr).x b), ?_, fun l hl => ?_, fun c hc => ?_⟩
      · refine loopO_out ?_
        have hd : ¬decide ((a : Int) < (b.length : Int)) = true := by simpa using (by omega : b.length ≤ a)
        simp only [butteryref06_Read_b0, lt_eq]
        show (if decide ((a : Int) < (b.length : Int)) = true then _ else _) = _
        rw [if_neg hd]
      · simp only [rdE, if_neg ha] at hl
        cases hl
        exact ⟨_, by simp; rfl⟩
      · simp only [rdE, if_neg ha] at hc
        cases hc
theorem refRead_eq6 {b : List (BitVec 8)} (hb : b.length ≤ 900000) : (∀ l, rdE b (b.length + 1) 0 = .inl l → butteryref06_Read b = some (l, 0)) ∧ (∀ c, rdE b (b.length + 1) 0 = .inr c → butteryref06_Read b = some ([], c)) := by
  obtain ⟨y, h1, h2, h3⟩ := refRead_l hb (b.length + 1) 0 [] (by omega) (by omega) (by simp; omega)
  unfold butteryref06_Read
  have h1' : butteryref06_Read_l0 b ([], ⟨b, 0, 0⟩) = some y := h1
  simp only [lt_eq, h1', Option.bind_some]
  refine ⟨fun l hl => ?_, fun c hc => ?_⟩
  · obtain ⟨r, rfl⟩ := h2 l hl
    rfl
  · obtain rfl := h3 c hc
    rfl
/-- Entries that were read are their bytes. -/
theorem rdE_one {b : List (BitVec 8)} : ∀ {k a : Nat} {l : List api_Entry}, b.length < k + a → a ≤ b.length → rdE b k a = .inl l → b.drop a = l.flatMap encE ∧ ∀ x ∈ l, ckE x = 0
  | 0, a, l, h1, h2, h => absurd h1 (by omega)
  | k + 1, a, l, h1, h2, h => by
    simp only [rdE] at h
    split at h
    · rename_i ha
      split at h
      · rename_i he
        obtain ⟨c1, c2, c3⟩ := frE_one (b := b) (r := ⟨a, 0⟩) h2 he
        simp only at c2 c3
        split at h
        · rename_i l' hl
          cases h
          obtain ⟨i1, i2⟩ := rdE_one (by omega) (frE_le (b := b) (r := ⟨a, 0⟩) h2) hl
          refine ⟨by rw [c2, i1]; simp, fun x hx => ?_⟩
          rcases List.mem_cons.1 hx with rfl | hx
          · exact c1
          · exact i2 x hx
        · cases h
      · cases h
    · cases h
      exact ⟨by rw [List.drop_of_length_le (by omega)]; rfl, fun x hx => by cases hx⟩
/-- Entries that may be are read from their bytes. -/
theorem rdE_is {b : List (BitVec 8)} : ∀ {k a : Nat} {l : List api_Entry}, b.length < k + a → a ≤ b.length → b.drop a = l.flatMap encE → (∀ x ∈ l, ckE x = 0) → rdE b k a = .inl l
  | 0, a, l, h1, h2, _, _ => absurd h1 (by omega)
  | k + 1, a, [], h1, h2, h3, h4 => by
    have h5 := congrArg List.length h3
    simp at h5
    rw [rdE, if_neg (by omega)]
  | k + 1, a, x :: l, h1, h2, h3, h4 => by
    have hx := h4 x List.mem_cons_self
    rw [List.flatMap_cons] at h3
    have hr := frE_is (r := ⟨a, 0⟩) rfl h2 h3 hx
    have h5 := congrArg List.length h3
    have hp := (encE_len hx).2
    simp only [List.length_drop, List.length_append] at h5
    have ih := rdE_is (k := k) (a := a + (encE x).length) (l := l) (by omega) (by omega) (drop_app h3) (fun y hy => h4 y (List.mem_cons_of_mem _ hy))
    rw [rdE, if_pos (by omega), hr]
    simp only [if_true, ih]
theorem all_len {l : List api_Entry} (h : ∀ x ∈ l, ckE x = 0) : (l.flatMap encE).length ≤ 4181 * l.length := by
  induction l with
  | nil => simp
  | cons x l ih =>
    have := ih (fun y hy => h y (List.mem_cons_of_mem _ hy))
    have := (encE_len (h x List.mem_cons_self)).1
    simp only [List.flatMap_cons, List.length_append, List.length_cons]
    omega
theorem all_eq6' {l : List api_Entry} (hl : l.length ≤ 1000000) (hn : (l.flatMap encE).length ≤ 900000) (h : ∀ x ∈ l, ckE x = 0) : item_All l = some (l.flatMap encE) := by
  have k := loopO_up (body := fun s => item_All_b0 l (l.length : Int) s.1 s.2) (fun i : Nat => ((l.take i).flatMap encE, (i : Int))) l.length (x := l.flatMap encE) (fun i hi => by
    simp only [item_All_b0, lt_eq]
    have hb : ((l.take i).flatMap encE).length ≤ 900000 := by
      have e : l.flatMap encE = (l.take i).flatMap encE ++ (l.drop i).flatMap encE := by rw [← List.flatMap_append, List.take_append_drop]
      rw [e, List.length_append] at hn
      omega
    rw [if_pos (decide_eq_true (by omega)), ix_nat hi]
    simp only [Option.bind_some]
    rw [put_eq (by omega) (h _ (List.getElem_mem hi))]
    simp only [Option.bind_some]
    rw [w64_nat (by omega), List.take_add_one, List.getElem?_eq_getElem hi, List.flatMap_append]
    simp) (by
    simp only [item_All_b0, lt_eq, List.take_length]
    rw [if_neg (by rw [decide_eq_false (by omega)]; simp)])
  have k' : item_All_l0 l (l.length : Int) ([], 0) = some (l.flatMap encE) := k
  unfold item_All
  simp only [lt_eq, k', Option.bind_some]
theorem all_eq6 {l : List api_Entry} (hl : l.length ≤ 200) (h : ∀ x ∈ l, ckE x = 0) : item_All l = some (l.flatMap encE) :=
  all_eq6' (by omega) (by have := all_len h; omega) h
theorem refAll_eq6 {l : List api_Entry} (hl : l.length ≤ 200) (h : ∀ x ∈ l, ckE x = 0) : butteryref06_All l = some (l.flatMap encE) := by
  have k := loopO_up (body := fun s => butteryref06_All_b0 l s.1 s.2) (fun i : Nat => ((l.take i).flatMap encE, (i : Int))) l.length (x := l.flatMap encE) (fun i hi => by
    simp only [butteryref06_All_b0, lt_eq]
    have hb := all_len (l := l.take i) (fun x hx => h x (List.mem_of_mem_take hx))
    rw [List.length_take] at hb
    rw [if_pos (decide_eq_true (by omega)), ix_nat hi]
    simp only [Option.bind_some]
    rw [refPutE_eq (by omega) (h _ (List.getElem_mem hi))]
    simp only [Option.bind_some]
    rw [w64_nat (by omega), List.take_add_one, List.getElem?_eq_getElem hi, List.flatMap_append]
    simp) (by
    simp only [butteryref06_All_b0, lt_eq, List.take_length]
    rw [if_neg (by rw [decide_eq_false (by omega)]; simp)])
  have k' : butteryref06_All_l0 l ([], 0) = some (l.flatMap encE) := k
  unfold butteryref06_All
  simp only [k', Option.bind_some]
theorem same_eq6 (x y : api_Entry) (hx : x.Value.length < 9223372036854775807) : butteryref06_Same x y = some (decide (x = y)) := by
  obtain ⟨k, v, a, n, w⟩ := x
  obtain ⟨k', v', a', n', w'⟩ := y
  simp only at hx
  simp only [butteryref06_Same, lt_eq, same_eq _ _ hx, Option.bind_some, beq_iff_eq, api_Entry.mk.injEq]
  by_cases h1 : k = k'
  · by_cases h2 : v = v'
    · by_cases h3 : a = a'
      · by_cases h4 : n = n'
        · simp [h1, h2, h3, h4]
        · simp [h1, h2, h3, h4]
      · simp [h1, h2, h3]
    · simp [h1, h2]
  · simp [h1]
theorem isame_eq6 (x y : api_Entry) : item_Same x y = some (decide (x = y)) := by
  obtain ⟨k, v, a, n, w⟩ := x
  obtain ⟨k', v', a', n', w'⟩ := y
  simp only [item_Same, lt_eq, beq_iff_eq, api_Entry.mk.injEq]
  by_cases h1 : k = k'
  · by_cases h2 : v = v'
    · by_cases h3 : a = a'
      · by_cases h4 : n = n'
        · by_cases h5 : w = w'
          · simp [h1, h2, h3, h4, h5]
          · simp [h1, h2, h3, h4, h5]
        · simp [h1, h2, h3, h4]
      · simp [h1, h2, h3]
    · simp [h1, h2]
  · simp [h1]
theorem sameAll_refl {l : List api_Entry} (hl : l.length ≤ 1000000) (h : ∀ x ∈ l, x.Value.length < 9223372036854775807) : butteryref06_SameAll l l = some true := by
  have k := loopO_up (body := fun s => butteryref06_SameAll_b0 l l s) (fun i : Nat => (i : Int)) l.length (x := .inl ()) (fun i hi => by
    simp only [butteryref06_SameAll_b0, lt_eq]
    rw [if_pos (decide_eq_true (by omega)), ix_nat hi]
    simp only [Option.bind_some]
    rw [same_eq6 _ _ (h _ (List.getElem_mem hi))]
    simp only [Option.bind_some, decide_true, Bool.not_true, Bool.false_eq_true, if_false]
    rw [w64_nat (by omega)]) (by
    simp only [butteryref06_SameAll_b0, lt_eq]
    rw [if_neg (by rw [decide_eq_false (by omega)]; simp)])
  have k' : butteryref06_SameAll_l0 l l 0 = some (.inl ()) := k
  simp only [butteryref06_SameAll, lt_eq, bne_self_eq_false, Bool.false_eq_true, if_false, k', Option.bind_some, Sum.elim_inl]
theorem copy_eq6 {x : api_Entry} (h : x.Value.length ≤ 100000) : item_Copy x = some x := by
  unfold item_Copy
  rw [app_eq (by simp; omega)]
  simp [lt_eq]
/-- What is light. -/
theorem light_l {l : List api_Entry} (hl : l.length ≤ 40) : ∀ (k i : Nat) (n : Nat), k + i = l.length → n ≤ 12000 → ∃ y, butterylaw06_Light_l0 l ((n : Int), (i : Int)) = some y ∧ (y = .inr 1 ∨ (y = .inl () ∧ ∀ j, i ≤ j → (h : j < l.length) → l[j].Key.length ≤ 200 ∧ l[j].Value.length ≤ 5000))
  | 0, i, n, hk, hn => by
    refine ⟨.inl (), loopO_out ?_, .inr ⟨rfl, fun j h1 h2 => by omega⟩⟩
    simp only [butterylaw06_Light_b0, lt_eq]
    rw [if_neg (by rw [decide_eq_false (by omega)]; simp)]
  | k + 1, i, n, hk, hn => by
    have hi : i < l.length := by omega
    by_cases h1 : l[i].Key.length > 200
    · refine ⟨.inr 1, loopO_out ?_, .inl rfl⟩
      simp only [butterylaw06_Light_b0, lt_eq, ix_nat hi, Option.bind_some]
      rw [if_pos (decide_eq_true (by omega)), if_pos (decide_eq_true (by omega))]
      rfl
    · by_cases h2 : l[i].Value.length > 5000
      · refine ⟨.inr 1, loopO_out ?_, .inl rfl⟩
        simp only [butterylaw06_Light_b0, lt_eq, ix_nat hi, Option.bind_some]
        rw [if_pos (decide_eq_true (by omega)), if_neg (by rw [decide_eq_false (by omega)]; simp), decide_eq_true (by omega)]
        rfl
      · have hw : w64 ((n : Int) + (l[i].Value.length : Int)) = ((n + l[i].Value.length : Nat) : Int) := by rw [w64_eq (by omega) (by omega)]; omega
        by_cases h3 : n + l[i].Value.length > 12000
        · refine ⟨.inr 1, loopO_out ?_, .inl rfl⟩
          simp only [butterylaw06_Light_b0, lt_eq, ix_nat hi, Option.bind_some]
          rw [if_pos (decide_eq_true (by omega)), if_neg (by rw [decide_eq_false (by omega)]; simp), decide_eq_false (by omega)]
          simp only [Option.bind_some, Bool.false_eq_true, if_false, hw]
          rw [if_pos (decide_eq_true (by omega))]
        · obtain ⟨y, i1, i2⟩ := light_l hl k (i + 1) (n + l[i].Value.length) (by omega) (by omega)
          have e : butterylaw06_Light_l0 l ((n : Int), (i : Int)) = butterylaw06_Light_l0 l (((n + l[i].Value.length : Nat) : Int), ((i + 1 : Nat) : Int)) := by
            refine loopO_in (body := fun s => butterylaw06_Light_b0 l s.1 s.2) ?_
            simp only [butterylaw06_Light_b0, lt_eq, ix_nat hi, Option.bind_some]
            rw [if_pos (decide_eq_true (by omega)), if_neg (by rw [decide_eq_false (by omega)]; simp), decide_eq_false (by omega)]
            simp only [Option.bind_some, Bool.false_eq_true, if_false, hw]
            rw [if_neg (by rw [decide_eq_false (by omega)]; simp), w64_nat (by omega)]
          refine ⟨y, by rw [e]; exact i1, ?_⟩
          rcases i2 with rfl | ⟨rfl, i3⟩
          · exact .inl rfl
          · refine .inr ⟨rfl, fun j h4 h5 => ?_⟩
            by_cases hj : j = i
            · subst hj; omega
            · exact i3 j (by omega) h5
theorem light_eq (l : List api_Entry) : butterylaw06_Light l = some 1 ∨ (butterylaw06_Light l = some 0 ∧ l.length ≤ 40 ∧ ∀ x ∈ l, x.Key.length ≤ 200 ∧ x.Value.length ≤ 5000) := by
  unfold butterylaw06_Light
  simp only [lt_eq]
  by_cases h : l.length > 40
  · left; rw [if_pos (decide_eq_true (by omega))]
  · rw [if_neg (by rw [decide_eq_false (by omega)]; simp)]
    obtain ⟨y, h1, h2⟩ := light_l (l := l) (by omega) l.length 0 0 (by omega) (by omega)
    have h1' : butterylaw06_Light_l0 l (0, 0) = some y := h1
    rw [h1']
    rcases h2 with rfl | ⟨rfl, h3⟩
    · exact .inl rfl
    · refine .inr ⟨rfl, by omega, fun x hx => ?_⟩
      obtain ⟨j, hj, rfl⟩ := List.mem_iff_getElem.1 hx
      exact h3 j (by omega) hj
theorem works06 : butterylaw06_works = some true := by
  have hx : ckE ⟨[107#8], 3, 5, 9, [97#8, 98#8]⟩ = 0 := by decide
  have hp := put_eq (b := []) (x := ⟨[107#8], 3, 5, 9, [97#8, 98#8]⟩) (by simp) hx
  have he : encE ⟨[107#8], 3, 5, 9, [97#8, 98#8]⟩ = [1#8, 107#8, 3#8, 5#8, 9#8, 2#8, 97#8, 98#8] := by
    unfold encE
    rw [num7_small (by simp), num7_small (by decide), num7_small (by decide), num7_small (by decide), num7_small (by simp)]
    rfl
  have hs := size_eq6 hx
  have hr : item_Read (encE ⟨[107#8], 3, 5, 9, [97#8, 98#8]⟩ ++ encE ⟨[107#8], 3, 5, 9, [97#8, 98#8]⟩) = some ([⟨[107#8], 3, 5, 9, [97#8, 98#8]⟩, ⟨[107#8], 3, 5, 9, [97#8, 98#8]⟩], .nil) := by
    refine (read_eq6 (by rw [he]; simp)).1 _ (rdE_is (by omega) (by omega) (by simp) (fun x h => ?_))
    simp at h; subst h; exact hx
  have hbad : ∃ e, item_Read [1#8, 107#8, 3#8, 2#8, 0#8, 0#8] = some ([], e) ∧ codeOf e = 2 := by
    have h1 : (frE [1#8, 107#8, 3#8, 2#8, 0#8, 0#8] ⟨0, 0⟩).2.e = 2 := by decide +kernel
    obtain ⟨e, h2, h3, h4⟩ := (read_eq6 (b := [1#8, 107#8, 3#8, 2#8, 0#8, 0#8]) (by simp)).2 2 (by rw [show [1#8, 107#8, 3#8, 2#8, 0#8, 0#8].length + 1 = 6 + 1 from rfl, rdE, if_pos (by simp), if_neg (by rw [h1]; decide), h1])
    exact ⟨e, h2, h3⟩
  obtain ⟨e, hb1, hb2⟩ := hbad
  obtain ⟨e2, c1, c2, c3⟩ := check_eq ⟨[107#8], 3, 2, 9, [97#8, 98#8]⟩
  have c4 : ckE ⟨[107#8], 3, 2, 9, [97#8, 98#8]⟩ = 2 := by decide
  rw [c4] at c2
  rw [List.nil_append] at hp
  unfold butterylaw06_works
  simp only [lt_eq, hp, Option.bind_some]
  rw [app_eq (by rw [he]; simp)]
  simp only [Option.bind_some, hr, hb1, hs, c1, c2, hb2, trouble_Of]
  rw [copy_eq6 (by simp)]
  simp only [isame_eq6, he, Option.bind_some]
  rfl
end Go.Proofs.YtgfedohhkbmobaaDoor
namespace Go.Proofs.YtgfedohhkbmobaaDoor
open Go Go.Va
set_option linter.unusedSimpArgs false
set_option linter.unusedVariables false
def wf_runtime_boundsError (x : runtime_boundsError) : Prop := (wfI .i64) x.x ∧ (wfI .i64) x.y ∧ wfT x.signed ∧ wfT x.code
theorem opens7 : Opens Tryd.prog 7 e_runtime_boundsError wf_runtime_boundsError := by
  intro H enc w fuel cs x hx
  obtain ⟨xs, m, _, _, hl, hn, hx⟩ := DataW.trod_struct Tryd.underlying7 hx
  rw [cellsOf_sz tk sz7 (by decide)] at hl
  obtain ⟨y0, w0, r0, o0⟩ := opens_f hx hn 0 (o := 0) (s := 1) rfl (opens_i64 Tryd.underlying2) rfl (cellsOf_sz tk sz2 (by decide))
  obtain ⟨y1, w1, r1, o1⟩ := opens_f hx hn 1 (o := 1) (s := 1) rfl (opens_i64 Tryd.underlying3) rfl (cellsOf_sz tk sz3 (by decide))
  obtain ⟨y2, w2, r2, o2⟩ := opens_f hx hn 2 (o := 2) (s := 1) rfl (opens_b Tryd.underlying4) rfl (cellsOf_sz tk sz4 (by decide))
  obtain ⟨y3, w3, r3, o3⟩ := opens_f hx hn 3 (o := 3) (s := 1) rfl (opens_u rfl rfl Tryd.underlying6) rfl (cellsOf_sz tk sz6 (by decide))
  refine ⟨⟨y0, y1, y2, y3⟩, ⟨w0, w1, w2, w3⟩, ?_, ?_⟩
  · have h := (rel_piece r0 (rel_piece r1 (rel_piece r2 (rel_piece r3 (rel_end hl)))))
    rw [List.drop_zero] at h
    first | exact h | (simp only [List.append_nil, List.append_assoc] at h ⊢; exact h) | (simpa [AV.cells, e_runtime_boundsError, c_runtime_boundsError] using h)
  · have h := (one_piece o0 (one_piece o1 (one_piece o2 (one_piece o3 (one_end hl)))))
    rw [List.drop_zero] at h
    exact h
theorem opens8 : Opens Tryd.prog 8 e_runtime_boundsError wf_runtime_boundsError := by
  intro H enc w fuel cs x hx
  obtain ⟨xs, m, _, _, hl, hn, hx⟩ := DataW.trod_struct Tryd.underlying8 hx
  rw [cellsOf_sz tk sz8 (by decide)] at hl
  obtain ⟨y0, w0, r0, o0⟩ := opens_f hx hn 0 (o := 0) (s := 1) rfl (opens_i64 Tryd.underlying2) rfl (cellsOf_sz tk sz2 (by decide))
  obtain ⟨y1, w1, r1, o1⟩ := opens_f hx hn 1 (o := 1) (s := 1) rfl (opens_i64 Tryd.underlying3) rfl (cellsOf_sz tk sz3 (by decide))
  obtain ⟨y2, w2, r2, o2⟩ := opens_f hx hn 2 (o := 2) (s := 1) rfl (opens_b Tryd.underlying4) rfl (cellsOf_sz tk sz4 (by decide))
  obtain ⟨y3, w3, r3, o3⟩ := opens_f hx hn 3 (o := 3) (s := 1) rfl (opens_u rfl rfl Tryd.underlying6) rfl (cellsOf_sz tk sz6 (by decide))
  refine ⟨⟨y0, y1, y2, y3⟩, ⟨w0, w1, w2, w3⟩, ?_, ?_⟩
  · have h := (rel_piece r0 (rel_piece r1 (rel_piece r2 (rel_piece r3 (rel_end hl)))))
    rw [List.drop_zero] at h
    first | exact h | (simp only [List.append_nil, List.append_assoc] at h ⊢; exact h) | (simpa [AV.cells, e_runtime_boundsError, c_runtime_boundsError] using h)
  · have h := (one_piece o0 (one_piece o1 (one_piece o2 (one_piece o3 (one_end hl)))))
    rw [List.drop_zero] at h
    exact h
def wf_runtime_errorAddressString (x : runtime_errorAddressString) : Prop := wfS x.msg ∧ wfT x.addr
theorem opens13 : Opens Tryd.prog 13 e_runtime_errorAddressString wf_runtime_errorAddressString := by
  intro H enc w fuel cs x hx
  obtain ⟨xs, m, _, _, hl, hn, hx⟩ := DataW.trod_struct Tryd.underlying13 hx
  rw [cellsOf_sz tk sz13 (by decide)] at hl
  obtain ⟨y0, w0, r0, o0⟩ := opens_f hx hn 0 (o := 0) (s := 1) rfl (opens_s Tryd.underlying9) rfl (cellsOf_sz tk sz9 (by decide))
  obtain ⟨y1, w1, r1, o1⟩ := opens_f hx hn 1 (o := 1) (s := 1) rfl (opens_u rfl rfl Tryd.underlying12) rfl (cellsOf_sz tk sz12 (by decide))
  refine ⟨⟨y0, y1⟩, ⟨w0, w1⟩, ?_, ?_⟩
  · have h := (rel_piece r0 (rel_piece r1 (rel_end hl)))
    rw [List.drop_zero] at h
    first | exact h | (simp only [List.append_nil, List.append_assoc] at h ⊢; exact h) | (simpa [AV.cells, e_runtime_errorAddressString, c_runtime_errorAddressString] using h)
  · have h := (one_piece o0 (one_piece o1 (one_end hl)))
    rw [List.drop_zero] at h
    exact h
theorem opens14 : Opens Tryd.prog 14 e_runtime_errorAddressString wf_runtime_errorAddressString := by
  intro H enc w fuel cs x hx
  obtain ⟨xs, m, _, _, hl, hn, hx⟩ := DataW.trod_struct Tryd.underlying14 hx
  rw [cellsOf_sz tk sz14 (by decide)] at hl
  obtain ⟨y0, w0, r0, o0⟩ := opens_f hx hn 0 (o := 0) (s := 1) rfl (opens_s Tryd.underlying9) rfl (cellsOf_sz tk sz9 (by decide))
  obtain ⟨y1, w1, r1, o1⟩ := opens_f hx hn 1 (o := 1) (s := 1) rfl (opens_u rfl rfl Tryd.underlying12) rfl (cellsOf_sz tk sz12 (by decide))
  refine ⟨⟨y0, y1⟩, ⟨w0, w1⟩, ?_, ?_⟩
  · have h := (rel_piece r0 (rel_piece r1 (rel_end hl)))
    rw [List.drop_zero] at h
    first | exact h | (simp only [List.append_nil, List.append_assoc] at h ⊢; exact h) | (simpa [AV.cells, e_runtime_errorAddressString, c_runtime_errorAddressString] using h)
  · have h := (one_piece o0 (one_piece o1 (one_end hl)))
    rw [List.drop_zero] at h
    exact h
def wf_api_Leaf (x : api_Leaf) : Prop := (wfI .i64) x.Stamp ∧ (wfI .i64) x.Kind ∧ (wfL wfT) x.Bytes
theorem opens23 : Opens Tryd.prog 23 e_api_Leaf wf_api_Leaf := by
  intro H enc w fuel cs x hx
  obtain ⟨xs, m, _, _, hl, hn, hx⟩ := DataW.trod_struct Tryd.underlying23 hx
  rw [cellsOf_sz tk sz23 (by decide)] at hl
  obtain ⟨y0, w0, r0, o0⟩ := opens_f hx hn 0 (o := 0) (s := 1) rfl (opens_i64 Tryd.underlying3) rfl (cellsOf_sz tk sz3 (by decide))
  obtain ⟨y1, w1, r1, o1⟩ := opens_f hx hn 1 (o := 1) (s := 1) rfl (opens_i64 Tryd.underlying3) rfl (cellsOf_sz tk sz3 (by decide))
  obtain ⟨y2, w2, r2, o2⟩ := opens_f hx hn 2 (o := 2) (s := 1) rfl (opens_l tk Tryd.underlying22 (enc_u td5 sz5) (opens_u rfl rfl Tryd.underlying5)) rfl (cellsOf_sz tk sz22 (by decide))
  refine ⟨⟨y0, y1, y2⟩, ⟨w0, w1, w2⟩, ?_, ?_⟩
  · have h := (rel_piece r0 (rel_piece r1 (rel_piece r2 (rel_end hl))))
    rw [List.drop_zero] at h
    first | exact h | (simp only [List.append_nil, List.append_assoc] at h ⊢; exact h) | (simpa [AV.cells, e_api_Leaf, c_api_Leaf] using h)
  · have h := (one_piece o0 (one_piece o1 (one_piece o2 (one_end hl))))
    rw [List.drop_zero] at h
    exact h
theorem opens24 : Opens Tryd.prog 24 e_api_Leaf wf_api_Leaf := by
  intro H enc w fuel cs x hx
  obtain ⟨xs, m, _, _, hl, hn, hx⟩ := DataW.trod_struct Tryd.underlying24 hx
  rw [cellsOf_sz tk sz24 (by decide)] at hl
  obtain ⟨y0, w0, r0, o0⟩ := opens_f hx hn 0 (o := 0) (s := 1) rfl (opens_i64 Tryd.underlying3) rfl (cellsOf_sz tk sz3 (by decide))
  obtain ⟨y1, w1, r1, o1⟩ := opens_f hx hn 1 (o := 1) (s := 1) rfl (opens_i64 Tryd.underlying3) rfl (cellsOf_sz tk sz3 (by decide))
  obtain ⟨y2, w2, r2, o2⟩ := opens_f hx hn 2 (o := 2) (s := 1) rfl (opens_l tk Tryd.underlying22 (enc_u td5 sz5) (opens_u rfl rfl Tryd.underlying5)) rfl (cellsOf_sz tk sz22 (by decide))
  refine ⟨⟨y0, y1, y2⟩, ⟨w0, w1, w2⟩, ?_, ?_⟩
  · have h := (rel_piece r0 (rel_piece r1 (rel_piece r2 (rel_end hl))))
    rw [List.drop_zero] at h
    first | exact h | (simp only [List.append_nil, List.append_assoc] at h ⊢; exact h) | (simpa [AV.cells, e_api_Leaf, c_api_Leaf] using h)
  · have h := (one_piece o0 (one_piece o1 (one_piece o2 (one_end hl))))
    rw [List.drop_zero] at h
    exact h
def wf_api_Entry (x : api_Entry) : Prop := wfS x.Key ∧ (wfI .i64) x.Version ∧ (wfI .i64) x.AsOf ∧ (wfI .i64) x.Ends ∧ (wfL wfT) x.Value
theorem opens49 : Opens Tryd.prog 49 e_api_Entry wf_api_Entry := by
  intro H enc w fuel cs x hx
  obtain ⟨xs, m, _, _, hl, hn, hx⟩ := DataW.trod_struct Tryd.underlying49 hx
  rw [cellsOf_sz tk sz49 (by decide)] at hl
  obtain ⟨y0, w0, r0, o0⟩ := opens_f hx hn 0 (o := 0) (s := 1) rfl (opens_s Tryd.underlying9) rfl (cellsOf_sz tk sz9 (by decide))
  obtain ⟨y1, w1, r1, o1⟩ := opens_f hx hn 1 (o := 1) (s := 1) rfl (opens_i64 Tryd.underlying3) rfl (cellsOf_sz tk sz3 (by decide))
  obtain ⟨y2, w2, r2, o2⟩ := opens_f hx hn 2 (o := 2) (s := 1) rfl (opens_i64 Tryd.underlying3) rfl (cellsOf_sz tk sz3 (by decide))
  obtain ⟨y3, w3, r3, o3⟩ := opens_f hx hn 3 (o := 3) (s := 1) rfl (opens_i64 Tryd.underlying3) rfl (cellsOf_sz tk sz3 (by decide))
  obtain ⟨y4, w4, r4, o4⟩ := opens_f hx hn 4 (o := 4) (s := 1) rfl (opens_l tk Tryd.underlying22 (enc_u td5 sz5) (opens_u rfl rfl Tryd.underlying5)) rfl (cellsOf_sz tk sz22 (by decide))
  refine ⟨⟨y0, y1, y2, y3, y4⟩, ⟨w0, w1, w2, w3, w4⟩, ?_, ?_⟩
  · have h := (rel_piece r0 (rel_piece r1 (rel_piece r2 (rel_piece r3 (rel_piece r4 (rel_end hl))))))
    rw [List.drop_zero] at h
    first | exact h | (simp only [List.append_nil, List.append_assoc] at h ⊢; exact h) | (simpa [AV.cells, e_api_Entry, c_api_Entry] using h)
  · have h := (one_piece o0 (one_piece o1 (one_piece o2 (one_piece o3 (one_piece o4 (one_end hl))))))
    rw [List.drop_zero] at h
    exact h
theorem opens50 : Opens Tryd.prog 50 e_api_Entry wf_api_Entry := by
  intro H enc w fuel cs x hx
  obtain ⟨xs, m, _, _, hl, hn, hx⟩ := DataW.trod_struct Tryd.underlying50 hx
  rw [cellsOf_sz tk sz50 (by decide)] at hl
  obtain ⟨y0, w0, r0, o0⟩ := opens_f hx hn 0 (o := 0) (s := 1) rfl (opens_s Tryd.underlying9) rfl (cellsOf_sz tk sz9 (by decide))
  obtain ⟨y1, w1, r1, o1⟩ := opens_f hx hn 1 (o := 1) (s := 1) rfl (opens_i64 Tryd.underlying3) rfl (cellsOf_sz tk sz3 (by decide))
  obtain ⟨y2, w2, r2, o2⟩ := opens_f hx hn 2 (o := 2) (s := 1) rfl (opens_i64 Tryd.underlying3) rfl (cellsOf_sz tk sz3 (by decide))
  obtain ⟨y3, w3, r3, o3⟩ := opens_f hx hn 3 (o := 3) (s := 1) rfl (opens_i64 Tryd.underlying3) rfl (cellsOf_sz tk sz3 (by decide))
  obtain ⟨y4, w4, r4, o4⟩ := opens_f hx hn 4 (o := 4) (s := 1) rfl (opens_l tk Tryd.underlying22 (enc_u td5 sz5) (opens_u rfl rfl Tryd.underlying5)) rfl (cellsOf_sz tk sz22 (by decide))
  refine ⟨⟨y0, y1, y2, y3, y4⟩, ⟨w0, w1, w2, w3, w4⟩, ?_, ?_⟩
  · have h := (rel_piece r0 (rel_piece r1 (rel_piece r2 (rel_piece r3 (rel_piece r4 (rel_end hl))))))
    rw [List.drop_zero] at h
    first | exact h | (simp only [List.append_nil, List.append_assoc] at h ⊢; exact h) | (simpa [AV.cells, e_api_Entry, c_api_Entry] using h)
  · have h := (one_piece o0 (one_piece o1 (one_piece o2 (one_piece o3 (one_piece o4 (one_end hl))))))
    rw [List.drop_zero] at h
    exact h
def wf_butteryref02_Reader (x : butteryref02_Reader) : Prop := (wfL wfT) x.B ∧ (wfI .i64) x.At ∧ (wfI .i64) x.Code
theorem opens61 : Opens Tryd.prog 61 e_butteryref02_Reader wf_butteryref02_Reader := by
  intro H enc w fuel cs x hx
  obtain ⟨xs, m, _, _, hl, hn, hx⟩ := DataW.trod_struct Tryd.underlying61 hx
  rw [cellsOf_sz tk sz61 (by decide)] at hl
  obtain ⟨y0, w0, r0, o0⟩ := opens_f hx hn 0 (o := 0) (s := 1) rfl (opens_l tk Tryd.underlying22 (enc_u td5 sz5) (opens_u rfl rfl Tryd.underlying5)) rfl (cellsOf_sz tk sz22 (by decide))
  obtain ⟨y1, w1, r1, o1⟩ := opens_f hx hn 1 (o := 1) (s := 1) rfl (opens_i64 Tryd.underlying3) rfl (cellsOf_sz tk sz3 (by decide))
  obtain ⟨y2, w2, r2, o2⟩ := opens_f hx hn 2 (o := 2) (s := 1) rfl (opens_i64 Tryd.underlying30) rfl (cellsOf_sz tk sz30 (by decide))
  refine ⟨⟨y0, y1, y2⟩, ⟨w0, w1, w2⟩, ?_, ?_⟩
  · have h := (rel_piece r0 (rel_piece r1 (rel_piece r2 (rel_end hl))))
    rw [List.drop_zero] at h
    first | exact h | (simp only [List.append_nil, List.append_assoc] at h ⊢; exact h) | (simpa [AV.cells, e_butteryref02_Reader, c_butteryref02_Reader] using h)
  · have h := (one_piece o0 (one_piece o1 (one_piece o2 (one_end hl))))
    rw [List.drop_zero] at h
    exact h
theorem opens62 : Opens Tryd.prog 62 e_butteryref02_Reader wf_butteryref02_Reader := by
  intro H enc w fuel cs x hx
  obtain ⟨xs, m, _, _, hl, hn, hx⟩ := DataW.trod_struct Tryd.underlying62 hx
  rw [cellsOf_sz tk sz62 (by decide)] at hl
  obtain ⟨y0, w0, r0, o0⟩ := opens_f hx hn 0 (o := 0) (s := 1) rfl (opens_l tk Tryd.underlying22 (enc_u td5 sz5) (opens_u rfl rfl Tryd.underlying5)) rfl (cellsOf_sz tk sz22 (by decide))
  obtain ⟨y1, w1, r1, o1⟩ := opens_f hx hn 1 (o := 1) (s := 1) rfl (opens_i64 Tryd.underlying3) rfl (cellsOf_sz tk sz3 (by decide))
  obtain ⟨y2, w2, r2, o2⟩ := opens_f hx hn 2 (o := 2) (s := 1) rfl (opens_i64 Tryd.underlying30) rfl (cellsOf_sz tk sz30 (by decide))
  refine ⟨⟨y0, y1, y2⟩, ⟨w0, w1, w2⟩, ?_, ?_⟩
  · have h := (rel_piece r0 (rel_piece r1 (rel_piece r2 (rel_end hl))))
    rw [List.drop_zero] at h
    first | exact h | (simp only [List.append_nil, List.append_assoc] at h ⊢; exact h) | (simpa [AV.cells, e_butteryref02_Reader, c_butteryref02_Reader] using h)
  · have h := (one_piece o0 (one_piece o1 (one_piece o2 (one_end hl))))
    rw [List.drop_zero] at h
    exact h
def wf_leaf_head (x : leaf_head) : Prop := (wfI .i64) x.stamp ∧ (wfI .i64) x.kind
theorem opens89 : Opens Tryd.prog 89 e_leaf_head wf_leaf_head := by
  intro H enc w fuel cs x hx
  obtain ⟨xs, m, _, _, hl, hn, hx⟩ := DataW.trod_struct Tryd.underlying89 hx
  rw [cellsOf_sz tk sz89 (by decide)] at hl
  obtain ⟨y0, w0, r0, o0⟩ := opens_f hx hn 0 (o := 0) (s := 1) rfl (opens_i64 Tryd.underlying3) rfl (cellsOf_sz tk sz3 (by decide))
  obtain ⟨y1, w1, r1, o1⟩ := opens_f hx hn 1 (o := 1) (s := 1) rfl (opens_i64 Tryd.underlying3) rfl (cellsOf_sz tk sz3 (by decide))
  refine ⟨⟨y0, y1⟩, ⟨w0, w1⟩, ?_, ?_⟩
  · have h := (rel_piece r0 (rel_piece r1 (rel_end hl)))
    rw [List.drop_zero] at h
    first | exact h | (simp only [List.append_nil, List.append_assoc] at h ⊢; exact h) | (simpa [AV.cells, e_leaf_head, c_leaf_head] using h)
  · have h := (one_piece o0 (one_piece o1 (one_end hl)))
    rw [List.drop_zero] at h
    exact h
theorem opens90 : Opens Tryd.prog 90 e_leaf_head wf_leaf_head := by
  intro H enc w fuel cs x hx
  obtain ⟨xs, m, _, _, hl, hn, hx⟩ := DataW.trod_struct Tryd.underlying90 hx
  rw [cellsOf_sz tk sz90 (by decide)] at hl
  obtain ⟨y0, w0, r0, o0⟩ := opens_f hx hn 0 (o := 0) (s := 1) rfl (opens_i64 Tryd.underlying3) rfl (cellsOf_sz tk sz3 (by decide))
  obtain ⟨y1, w1, r1, o1⟩ := opens_f hx hn 1 (o := 1) (s := 1) rfl (opens_i64 Tryd.underlying3) rfl (cellsOf_sz tk sz3 (by decide))
  refine ⟨⟨y0, y1⟩, ⟨w0, w1⟩, ?_, ?_⟩
  · have h := (rel_piece r0 (rel_piece r1 (rel_end hl)))
    rw [List.drop_zero] at h
    first | exact h | (simp only [List.append_nil, List.append_assoc] at h ⊢; exact h) | (simpa [AV.cells, e_leaf_head, c_leaf_head] using h)
  · have h := (one_piece o0 (one_piece o1 (one_end hl)))
    rw [List.drop_zero] at h
    exact h
def wf_octets_Reader (x : octets_Reader) : Prop := (wfL wfT) x.b ∧ (wfI .i64) x.at_ ∧ (wfI .i64) x.code
theorem opens97 : Opens Tryd.prog 97 e_octets_Reader wf_octets_Reader := by
  intro H enc w fuel cs x hx
  obtain ⟨xs, m, _, _, hl, hn, hx⟩ := DataW.trod_struct Tryd.underlying97 hx
  rw [cellsOf_sz tk sz97 (by decide)] at hl
  obtain ⟨y0, w0, r0, o0⟩ := opens_f hx hn 0 (o := 0) (s := 1) rfl (opens_l tk Tryd.underlying22 (enc_u td5 sz5) (opens_u rfl rfl Tryd.underlying5)) rfl (cellsOf_sz tk sz22 (by decide))
  obtain ⟨y1, w1, r1, o1⟩ := opens_f hx hn 1 (o := 1) (s := 1) rfl (opens_i64 Tryd.underlying3) rfl (cellsOf_sz tk sz3 (by decide))
  obtain ⟨y2, w2, r2, o2⟩ := opens_f hx hn 2 (o := 2) (s := 1) rfl (opens_i64 Tryd.underlying30) rfl (cellsOf_sz tk sz30 (by decide))
  refine ⟨⟨y0, y1, y2⟩, ⟨w0, w1, w2⟩, ?_, ?_⟩
  · have h := (rel_piece r0 (rel_piece r1 (rel_piece r2 (rel_end hl))))
    rw [List.drop_zero] at h
    first | exact h | (simp only [List.append_nil, List.append_assoc] at h ⊢; exact h) | (simpa [AV.cells, e_octets_Reader, c_octets_Reader] using h)
  · have h := (one_piece o0 (one_piece o1 (one_piece o2 (one_end hl))))
    rw [List.drop_zero] at h
    exact h
theorem opens98 : Opens Tryd.prog 98 e_octets_Reader wf_octets_Reader := by
  intro H enc w fuel cs x hx
  obtain ⟨xs, m, _, _, hl, hn, hx⟩ := DataW.trod_struct Tryd.underlying98 hx
  rw [cellsOf_sz tk sz98 (by decide)] at hl
  obtain ⟨y0, w0, r0, o0⟩ := opens_f hx hn 0 (o := 0) (s := 1) rfl (opens_l tk Tryd.underlying22 (enc_u td5 sz5) (opens_u rfl rfl Tryd.underlying5)) rfl (cellsOf_sz tk sz22 (by decide))
  obtain ⟨y1, w1, r1, o1⟩ := opens_f hx hn 1 (o := 1) (s := 1) rfl (opens_i64 Tryd.underlying3) rfl (cellsOf_sz tk sz3 (by decide))
  obtain ⟨y2, w2, r2, o2⟩ := opens_f hx hn 2 (o := 2) (s := 1) rfl (opens_i64 Tryd.underlying30) rfl (cellsOf_sz tk sz30 (by decide))
  refine ⟨⟨y0, y1, y2⟩, ⟨w0, w1, w2⟩, ?_, ?_⟩
  · have h := (rel_piece r0 (rel_piece r1 (rel_piece r2 (rel_end hl))))
    rw [List.drop_zero] at h
    first | exact h | (simp only [List.append_nil, List.append_assoc] at h ⊢; exact h) | (simpa [AV.cells, e_octets_Reader, c_octets_Reader] using h)
  · have h := (one_piece o0 (one_piece o1 (one_piece o2 (one_end hl))))
    rw [List.drop_zero] at h
    exact h
def wf_reflectlite_ValueError (x : reflectlite_ValueError) : Prop := wfS x.Method ∧ wfT x.Kind
theorem opens162 : Opens Tryd.prog 162 e_reflectlite_ValueError wf_reflectlite_ValueError := by
  intro H enc w fuel cs x hx
  obtain ⟨xs, m, _, _, hl, hn, hx⟩ := DataW.trod_struct Tryd.underlying162 hx
  rw [cellsOf_sz tk sz162 (by decide)] at hl
  obtain ⟨y0, w0, r0, o0⟩ := opens_f hx hn 0 (o := 0) (s := 1) rfl (opens_s Tryd.underlying9) rfl (cellsOf_sz tk sz9 (by decide))
  obtain ⟨y1, w1, r1, o1⟩ := opens_f hx hn 1 (o := 1) (s := 1) rfl (opens_u rfl rfl Tryd.underlying122) rfl (cellsOf_sz tk sz122 (by decide))
  refine ⟨⟨y0, y1⟩, ⟨w0, w1⟩, ?_, ?_⟩
  · have h := (rel_piece r0 (rel_piece r1 (rel_end hl)))
    rw [List.drop_zero] at h
    first | exact h | (simp only [List.append_nil, List.append_assoc] at h ⊢; exact h) | (simpa [AV.cells, e_reflectlite_ValueError, c_reflectlite_ValueError] using h)
  · have h := (one_piece o0 (one_piece o1 (one_end hl)))
    rw [List.drop_zero] at h
    exact h
theorem opens163 : Opens Tryd.prog 163 e_reflectlite_ValueError wf_reflectlite_ValueError := by
  intro H enc w fuel cs x hx
  obtain ⟨xs, m, _, _, hl, hn, hx⟩ := DataW.trod_struct Tryd.underlying163 hx
  rw [cellsOf_sz tk sz163 (by decide)] at hl
  obtain ⟨y0, w0, r0, o0⟩ := opens_f hx hn 0 (o := 0) (s := 1) rfl (opens_s Tryd.underlying9) rfl (cellsOf_sz tk sz9 (by decide))
  obtain ⟨y1, w1, r1, o1⟩ := opens_f hx hn 1 (o := 1) (s := 1) rfl (opens_u rfl rfl Tryd.underlying122) rfl (cellsOf_sz tk sz122 (by decide))
  refine ⟨⟨y0, y1⟩, ⟨w0, w1⟩, ?_, ?_⟩
  · have h := (rel_piece r0 (rel_piece r1 (rel_end hl)))
    rw [List.drop_zero] at h
    first | exact h | (simp only [List.append_nil, List.append_assoc] at h ⊢; exact h) | (simpa [AV.cells, e_reflectlite_ValueError, c_reflectlite_ValueError] using h)
  · have h := (one_piece o0 (one_piece o1 (one_end hl)))
    rw [List.drop_zero] at h
    exact h
def wf_abi_Method (x : abi_Method) : Prop := (wfI .i32) x.Name ∧ (wfI .i32) x.Mtyp ∧ (wfI .i32) x.Ifn ∧ (wfI .i32) x.Tfn
theorem opens170 : Opens Tryd.prog 170 e_abi_Method wf_abi_Method := by
  intro H enc w fuel cs x hx
  obtain ⟨xs, m, _, _, hl, hn, hx⟩ := DataW.trod_struct Tryd.underlying170 hx
  rw [cellsOf_sz tk sz170 (by decide)] at hl
  obtain ⟨y0, w0, r0, o0⟩ := opens_f hx hn 0 (o := 0) (s := 1) rfl (opens_i Tryd.underlying156) rfl (cellsOf_sz tk sz156 (by decide))
  obtain ⟨y1, w1, r1, o1⟩ := opens_f hx hn 1 (o := 1) (s := 1) rfl (opens_i Tryd.underlying157) rfl (cellsOf_sz tk sz157 (by decide))
  obtain ⟨y2, w2, r2, o2⟩ := opens_f hx hn 2 (o := 2) (s := 1) rfl (opens_i Tryd.underlying169) rfl (cellsOf_sz tk sz169 (by decide))
  obtain ⟨y3, w3, r3, o3⟩ := opens_f hx hn 3 (o := 3) (s := 1) rfl (opens_i Tryd.underlying169) rfl (cellsOf_sz tk sz169 (by decide))
  refine ⟨⟨y0, y1, y2, y3⟩, ⟨w0, w1, w2, w3⟩, ?_, ?_⟩
  · have h := (rel_piece r0 (rel_piece r1 (rel_piece r2 (rel_piece r3 (rel_end hl)))))
    rw [List.drop_zero] at h
    first | exact h | (simp only [List.append_nil, List.append_assoc] at h ⊢; exact h) | (simpa [AV.cells, e_abi_Method, c_abi_Method] using h)
  · have h := (one_piece o0 (one_piece o1 (one_piece o2 (one_piece o3 (one_end hl)))))
    rw [List.drop_zero] at h
    exact h
theorem opens171 : Opens Tryd.prog 171 e_abi_Method wf_abi_Method := by
  intro H enc w fuel cs x hx
  obtain ⟨xs, m, _, _, hl, hn, hx⟩ := DataW.trod_struct Tryd.underlying171 hx
  rw [cellsOf_sz tk sz171 (by decide)] at hl
  obtain ⟨y0, w0, r0, o0⟩ := opens_f hx hn 0 (o := 0) (s := 1) rfl (opens_i Tryd.underlying156) rfl (cellsOf_sz tk sz156 (by decide))
  obtain ⟨y1, w1, r1, o1⟩ := opens_f hx hn 1 (o := 1) (s := 1) rfl (opens_i Tryd.underlying157) rfl (cellsOf_sz tk sz157 (by decide))
  obtain ⟨y2, w2, r2, o2⟩ := opens_f hx hn 2 (o := 2) (s := 1) rfl (opens_i Tryd.underlying169) rfl (cellsOf_sz tk sz169 (by decide))
  obtain ⟨y3, w3, r3, o3⟩ := opens_f hx hn 3 (o := 3) (s := 1) rfl (opens_i Tryd.underlying169) rfl (cellsOf_sz tk sz169 (by decide))
  refine ⟨⟨y0, y1, y2, y3⟩, ⟨w0, w1, w2, w3⟩, ?_, ?_⟩
  · have h := (rel_piece r0 (rel_piece r1 (rel_piece r2 (rel_piece r3 (rel_end hl)))))
    rw [List.drop_zero] at h
    first | exact h | (simp only [List.append_nil, List.append_assoc] at h ⊢; exact h) | (simpa [AV.cells, e_abi_Method, c_abi_Method] using h)
  · have h := (one_piece o0 (one_piece o1 (one_piece o2 (one_piece o3 (one_end hl)))))
    rw [List.drop_zero] at h
    exact h
end Go.Proofs.YtgfedohhkbmobaaDoor
namespace Go.Proofs.YtgfedohhkbmobaaDoor
open Go Go.Va
set_option linter.unusedVariables false
set_option linter.unusedSimpArgs false
theorem back_l {l : List api_Entry} (hl : l.length ≤ 40) : ∀ (k i : Nat), k + i = l.length → ∃ y, butterylaw06_ItemBack_l0 l (i : Int) = some y ∧ (y = .inr true ∨ (y = .inl () ∧ ∀ j, i ≤ j → (h : j < l.length) → ckE l[j] = 0))
  | 0, i, h => by
    refine ⟨.inl (), loopO_out (body := fun s => butterylaw06_ItemBack_b0 l s) ?_, .inr ⟨rfl, fun j h1 h2 => absurd h2 (by omega)⟩⟩
    simp only [butterylaw06_ItemBack_b0, lt_eq]
    rw [if_neg (by rw [decide_eq_false (by omega)]; simp)]
  | k + 1, i, h => by
    have hi : i < l.length := by omega
    by_cases hc : ckE l[i] = 0
    · obtain ⟨y, h1, h2⟩ := back_l hl k (i + 1) (by omega)
      have e1 : butterylaw06_ItemBack_l0 l (i : Int) = butterylaw06_ItemBack_l0 l ((i + 1 : Nat) : Int) := by
        refine loopO_in (body := fun s => butterylaw06_ItemBack_b0 l s) ?_
        simp only [butterylaw06_ItemBack_b0, lt_eq]
        rw [if_pos (decide_eq_true (by omega)), ix_nat hi]
        simp only [Option.bind_some, refCheck_eq, hc, bne_self_eq_false, Bool.false_eq_true, if_false]
        rw [w64_nat (by omega)]
      refine ⟨y, by rw [e1]; exact h1, ?_⟩
      rcases h2 with h2 | ⟨h2, h3⟩
      · exact .inl h2
      · refine .inr ⟨h2, fun j hj hj2 => ?_⟩
        by_cases hji : j = i
        · subst hji; exact hc
        · exact h3 j (by omega) hj2
    · refine ⟨.inr true, loopO_out (body := fun s => butterylaw06_ItemBack_b0 l s) ?_, .inl rfl⟩
      simp only [butterylaw06_ItemBack_b0, lt_eq]
      rw [if_pos (decide_eq_true (by omega)), ix_nat hi]
      simp only [Option.bind_some, refCheck_eq]
      rw [if_pos (by simpa using hc)]
      simp [works06]
theorem ItemBack_pure (l : List api_Entry) (b : List (BitVec 8)) (_ : wfL wf_api_Entry l) (_ : wfL wfT b) : butterylaw06_ItemBack l b = some true := by
  unfold butterylaw06_ItemBack
  simp only [lt_eq]
  rcases light_eq l with h | ⟨h, h1, h2⟩
  · simp [h, works06]
  · simp only [h, Option.bind_some]
    rw [if_neg (by decide)]
    by_cases hb : (b.length : Int) > 3000
    · simp [works06, hb]
    · simp only [decide_eq_false hb, Option.bind_some, Bool.false_eq_true, if_false]
      obtain ⟨y, y1, y2⟩ := back_l h1 l.length 0 rfl
      have y1' : butterylaw06_ItemBack_l0 l 0 = some y := y1
      have tail : (butterylaw06_ItemBack_l0 l 0).bind (fun o36 => Sum.elim (fun s43 : Unit => (item_All l).bind fun v64 => (item_Read v64).bind fun v66 => if Err.isNil v66.2 = true then (butteryref06_SameAll v66.1 l).bind fun v71 => if v71 = true then (butterylaw06_works).bind fun v74 => some v74 else some false else some false) (fun y => some y) o36) = some true := by
        simp only [y1', Option.bind_some]
        rcases y2 with rfl | ⟨rfl, h3⟩
        · rfl
        · have hall : ∀ x ∈ l, ckE x = 0 := fun x hx => by
            obtain ⟨j, hj, rfl⟩ := List.mem_iff_getElem.1 hx
            exact h3 j (by omega) hj
          have hn := all_len hall
          have hm : ∀ x ∈ l, 1 ≤ (encE x).length := fun x hx => (encE_len (hall x hx)).2
          have hr := rdE_is (b := l.flatMap encE) (k := (l.flatMap encE).length + 1) (a := 0) (l := l) (by omega) (by omega) (by simp) hall
          simp only [Sum.elim_inl, all_eq6 (by omega) hall, Option.bind_some, (read_eq6 (b := l.flatMap encE) (by omega)).1 l hr, Err.isNil, if_true, sameAll_refl (l := l) (by omega) (fun x hx => by have := (h2 x hx).2; omega), works06]
      cases hr : rdE b (b.length + 1) 0 with
      | inl r =>
        obtain ⟨r1, r2⟩ := rdE_one (by omega) (by omega) hr
        rw [List.drop_zero] at r1
        have hrl : r.length ≤ b.length := by
          have hm : ∀ x ∈ r, 1 ≤ (encE x).length := fun x hx => (encE_len (r2 x hx)).2
          rw [r1]
          clear r1 hr
          induction r with
          | nil => simp
          | cons x r ih =>
            have i1 := ih (fun y hy => r2 y (List.mem_cons_of_mem _ hy)) (fun y hy => hm y (List.mem_cons_of_mem _ hy))
            have i2 := hm x (List.mem_cons_self ..)
            simp only [List.flatMap_cons, List.length_append, List.length_cons]
            omega
        have ha : item_All r = some (r.flatMap encE) := all_eq6' (by omega) (by rw [← r1]; omega) r2
        simp only [(read_eq6 (by omega)).1 r hr, Option.bind_some, Err.isNil, if_true, ha, ← r1, same_eq b b (by omega), decide_true, Bool.not_true, Bool.false_eq_true, if_false]
        exact tail
      | inr c =>
        obtain ⟨e, e1, e2, e3⟩ := (read_eq6 (b := b) (by omega)).2 c hr
        simp only [e1, Option.bind_some, e3, Bool.false_eq_true, if_false]
        exact tail
end Go.Proofs.YtgfedohhkbmobaaDoor
namespace Go.Proofs.YtgfedohhkbmobaaDoor
open Go.ChangeShapes Go.WideShapes Go.RowKit
theorem own : ownKnob Tryd.prog.godebug = none := by kernel_rfl
theorem laidEt : Tryd.prog.globalNamed "errors.errorType" = some 0 := by kernel_rfl
theorem laidRt : (Tryd.prog.cutTypes.find? (·.1 == "internal/reflectlite.rtype")).map (·.2) = some 132 := by kernel_rfl
theorem laidRow : ((List.range 173).filter fun t => Tryd.prog.rowNamed t [101, 114, 114, 111, 114]) = [27] := by kernel_rfl
theorem laidSize : Tryd.prog.types.size = 173 := by kernel_rfl
def laidL {H : Type} : List (String × DataW H) := [("errors.errorType", Rows.laid_errors_errorType)]
theorem handle_of_laid {W : World} (h : laidMetH Tryd.prog laidL W) : W.cell? ⟨0, 0, none⟩ = some (.iface 132 (.agg #[.pointer (some ⟨1, 27, none⟩)])) := by
  have h' : laidMet Tryd.prog [] W ∧ handlesMet Tryd.prog laidL W := h
  obtain ⟨name, u, ty, e1, e2, e3, e4, e5⟩ := h'.2 _ (List.mem_singleton.2 rfl)
  have en : name = [101, 114, 114, 111, 114] := (Option.some.inj e1).symm
  subst en
  obtain rfl := Option.some.inj (laidRt.symm.trans e2)
  have hm : ty ∈ (List.range 173).filter fun t => Tryd.prog.rowNamed t [101, 114, 114, 111, 114] := List.mem_filter.2 ⟨List.mem_range.2 (by rw [← laidSize]; exact e3), e4⟩
  rw [laidRow] at hm
  obtain rfl := List.mem_singleton.1 hm
  have hh : typeHandle Tryd.prog 27 = .pointer (some ⟨1, 27, none⟩) := by kernel_rfl
  rw [hh] at e5
  simpa using World.var?_cell laidEt e5 0
/-- A world that meets the condition. -/
noncomputable def laidWorld (os : Os) : World :=
  let w0 := World.holding Tryd.prog os ⟨#[], #[], []⟩
  { w0 with heap := w0.heap.modify 0 fun
      | .cells _ t frozen => .cells #[.iface 132 (.agg #[.pointer (some ⟨1, 27, none⟩)])] t frozen
      | o => o }
theorem laidWorld_met (os : Os) (args : Array Value) : laidMetH Tryd.prog laidL ((laidWorld os).forCall (fun _ _ => 0) ⟨#[], args, []⟩).memory :=
  laidMetH_of_parts (laidMet_nil _ _) (by kernel_rfl)
theorem gls_met {W : World} (h : laidMetH Tryd.prog laidL W) : ∀ p ∈ gls, W.cell? p.1 = some p.2 := by
  intro p hp
  obtain rfl := List.mem_singleton.1 hp
  exact handle_of_laid h
theorem laidOut : laidOutB Tryd.prog = true := by kernel_rfl
end Go.Proofs.YtgfedohhkbmobaaDoor
