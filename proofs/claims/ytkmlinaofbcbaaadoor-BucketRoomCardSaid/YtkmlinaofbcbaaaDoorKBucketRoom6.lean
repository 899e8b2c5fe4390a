/- THE ELDEST GOES: what is inserted without an error is the last one, all together have room in a page, those that went were the eldest, and all others stay in their order. (part 6 of 7) -/
import Derived.Test.YtkmlinaofbcbaaaDoorKBucketRoom5
import Derived.ChangeSame
import Derived.ChangeVars
import Derived.JoinedOf
import Derived.LaidHandle
import Derived.LaidLaws
import Derived.RowKit
import Derived.RowKitTokens
import Derived.Stop.Joined
import Derived.Test.YtkmlinaofbcbaaaDoorRows
namespace Go.Proofs.YtkmlinaofbcbaaaDoor
open Go Go.Va
set_option linter.unusedVariables false
set_option linter.unusedSimpArgs false
theorem less (w : BitVec 64) (h : w ≠ 0#64) : (w &&& (w - 1#64)).toNat < w.toNat := by
  have h0 : 0 < w.toNat := by
    rcases Nat.eq_zero_or_pos w.toNat with h0 | h0
    · exact absurd (BitVec.eq_of_toNat_eq (by simpa using h0)) h
    · exact h0
  have h1 : (w - 1#64).toNat = w.toNat - 1 := by
    have := w.isLt
    rw [BitVec.toNat_sub]
    show (18446744073709551616 - 1 + w.toNat) % 18446744073709551616 = w.toNat - 1
    omega
  rw [BitVec.toNat_and, h1]
  have := Nat.and_le_right (n := w.toNat) (m := w.toNat - 1)
  omega
/-- The bits of a word, one after the other. -/
def pop (w : BitVec 64) : Nat := if h : w = 0#64 then 0 else pop (w &&& (w - 1#64)) + 1
termination_by w.toNat
decreasing_by exact less w h
theorem pop_zero : pop 0#64 = 0 := by rw [pop, dif_pos rfl]
theorem pop_step (w : BitVec 64) (h : w ≠ 0#64) : pop w = pop (w &&& (w - 1#64)) + 1 := by rw [pop, dif_neg h]
/-- A number above 0 without its lowest bit. -/
theorem low_nat : ∀ (n : Nat), 0 < n → ∃ k, n.testBit k = true ∧ ∀ i, (n &&& (n - 1)).testBit i = (n.testBit i && decide (i ≠ k)) := by
  intro n
  induction n using Nat.strongRecOn with
  | _ n ih =>
    intro h
    rcases Nat.mod_two_eq_zero_or_one n with h0 | h1
    · obtain ⟨k, h2, h3⟩ := ih (n / 2) (by omega) (by omega)
      refine ⟨k + 1, by rw [Nat.testBit_succ]; exact h2, fun i => ?_⟩
      cases i with
      | zero => simp [Nat.testBit_zero, h0]
      | succ i =>
        have e : (n - 1) / 2 = n / 2 - 1 := by omega
        have := h3 i
        rw [Nat.testBit_and] at this
        rw [Nat.testBit_and, Nat.testBit_succ, Nat.testBit_succ, e, this]
        simp
    · refine ⟨0, by simp [Nat.testBit_zero, h1], fun i => ?_⟩
      cases i with
      | zero => 
        have e : (n - 1) % 2 = 0 := by omega
        simp [Nat.testBit_and, Nat.testBit_zero, e]
      | succ i =>
        have e : (n - 1) / 2 = n / 2 := by omega
        rw [Nat.testBit_and, Nat.testBit_succ, Nat.testBit_succ, e]
        simp
theorem low_bit (w : BitVec 64) (h : w ≠ 0#64) : ∃ k, k < 64 ∧ w.getLsbD k = true ∧ ∀ i, (w &&& (w - 1#64)).getLsbD i = (w.getLsbD i && decide (i ≠ k)) := by
  have h0 : 0 < w.toNat := by
    rcases Nat.eq_zero_or_pos w.toNat with h0 | h0
    · exact absurd (BitVec.eq_of_toNat_eq (by simpa using h0)) h
    · exact h0
  have h1 : (w - 1#64).toNat = w.toNat - 1 := by
    have := w.isLt
    rw [BitVec.toNat_sub]
    show (18446744073709551616 - 1 + w.toNat) % 18446744073709551616 = w.toNat - 1
    omega
  obtain ⟨k, h2, h3⟩ := low_nat w.toNat h0
  refine ⟨k, ?_, h2, fun i => ?_⟩
  · rcases Nat.lt_or_ge k 64 with hk | hk
    · exact hk
    · have := BitVec.getLsbD_of_ge w k hk
      rw [BitVec.getLsbD] at this
      rw [this] at h2; cases h2
  · rw [BitVec.getLsbD, BitVec.toNat_and, h1, h3 i]
    rfl
theorem filter_less (p : Nat → Bool) (k : Nat) (hp : p k = true) : ∀ (l : List Nat), l.Nodup → k ∈ l → (l.filter p).length = (l.filter fun i => p i && decide (i ≠ k)).length + 1
  | [], _, h => by simp at h
  | x :: l, hn, h => by
    have hn' : x ∉ l ∧ l.Nodup := by simpa using hn
    by_cases hx : x = k
    · subst hx
      have e : l.filter (fun i => p i && decide (i ≠ x)) = l.filter p := by
        apply List.filter_congr
        intro i hi
        have : i ≠ x := fun he => hn'.1 (he ▸ hi)
        simp [this]
      rw [List.filter_cons_of_pos hp, List.filter_cons_of_neg (by simp), e]
      rfl
    · have hk : k ∈ l := by
        rcases List.mem_cons.1 h with h | h
        · exact absurd h.symm hx
        · exact h
      have ih := filter_less p k hp l hn'.2 hk
      by_cases hpx : p x = true
      · rw [List.filter_cons_of_pos hpx, List.filter_cons_of_pos (by simp [hpx, hx])]
        simp [ih]
      · rw [List.filter_cons_of_neg hpx, List.filter_cons_of_neg (by simp [hpx])]
        exact ih
/-- A word's bits. -/
def bits_ (w : BitVec 64) : List Nat := (List.range 64).filter fun i => w.getLsbD i
theorem pop_bits (w : BitVec 64) : pop w = (bits_ w).length := by
  by_cases h : w = 0#64
  · rw [h, pop_zero]; rfl
  · have hl := less w h
    obtain ⟨k, h1, h2, h3⟩ := low_bit w h
    rw [pop_step w h, pop_bits (w &&& (w - 1#64))]
    unfold bits_
    rw [filter_less (fun i => w.getLsbD i) k h2 _ List.nodup_range (by simpa using h1)]
    congr 2
    apply List.filter_congr
    intro i _
    exact h3 i
termination_by w.toNat
decreasing_by exact hl
theorem pop_64 (w : BitVec 64) : pop w ≤ 64 := by
  rw [pop_bits]
  exact Nat.le_trans (List.length_filter_le _ _) (by simp)

/-! ### which places are set -/
theorem bit1 (w : BitVec 64) (k : Nat) : (!((w >>> k) &&& 1#64 == 0#64)) = w.getLsbD k := by
  have e : ((w >>> k) &&& 1#64) = if w.getLsbD k then 1#64 else 0#64 := by
    apply BitVec.eq_of_getLsbD_eq
    intro i hi
    rw [BitVec.getLsbD_and, BitVec.getLsbD_ushiftRight, BitVec.getLsbD_one]
    cases i with
    | zero => simp; cases w.getLsbD k <;> rfl
    | succ i => simp; split <;> simp
  rw [e]
  cases w.getLsbD k <;> rfl
theorem hasN_bit (f : List (BitVec 64)) (n : Nat) : hasN f n = (f.getD (n / 64) 0).getLsbD (n % 64) := bit1 _ _
theorem has_put {f : List (BitVec 64)} (hf : f.length = 2) {n m : Nat} (hn : n < 128) (hm : m < 128) : hasN (putN f n) m = (hasN f m || decide (m = n)) := by
  rw [hasN_bit, hasN_bit, putN]
  by_cases h : n / 64 = m / 64
  · rw [h, List.getD_eq_getElem?_getD, List.getElem?_set_self (by omega), Option.getD_some, BitVec.getLsbD_or]
    congr 1
    rw [BitVec.getLsbD_shiftLeft]
    have : decide (m % 64 < 64) = true := by simp; omega
    rw [this]
    simp only [Bool.true_and, BitVec.getLsbD_one]
    by_cases h2 : m = n
    · subst h2; simp
    · have : ¬ m % 64 = n % 64 := by omega
      by_cases h3 : m % 64 < n % 64
      · simp [h3, h2]
      · have : ¬ m % 64 - n % 64 = 0 := by omega
        simp [h3, h2, this]
  · rw [List.getD_eq_getElem?_getD, List.getElem?_set_ne h, ← List.getD_eq_getElem?_getD]
    have : ¬ m = n := by omega
    simp [this]
theorem has_puts : ∀ (l : List Nat) {f : List (BitVec 64)} (hf : f.length = 2) (hl : ∀ n ∈ l, n < 128) {m : Nat} (hm : m < 128), hasN (l.foldl putN f) m = (hasN f m || decide (m ∈ l))
  | [], f, hf, hl, m, hm => by simp
  | n :: l, f, hf, hl, m, hm => by
    rw [List.foldl_cons, has_puts l (by rw [putN_len]; exact hf) (fun x hx => hl x (List.mem_cons_of_mem _ hx)) hm, has_put hf (hl n List.mem_cons_self) hm, Bool.or_assoc]
    congr 1
    rw [Bool.eq_iff_iff]; simp
/-- The filter of hashes; their places. -/
def hashF (a : List (BitVec 64)) : List (BitVec 64) := a.foldl addF [0#64, 0#64]
def plS (a : List (BitVec 64)) : List Nat := a.flatMap plN
theorem plS_lt (a : List (BitVec 64)) : ∀ n ∈ plS a, n < 128 := fun n hn => by
  obtain ⟨h, _, hn⟩ := List.mem_flatMap.1 hn
  exact plN_lt h n hn
theorem ofF_hashF (l : List (List (BitVec 8))) : ofF l = hashF (l.map hash) := by simp only [ofF, hashF, List.foldl_map]
theorem fold_plS (a : List (BitVec 64)) : ∀ f, a.foldl addF f = (plS a).foldl putN f := by
  induction a with
  | nil => intro f; rfl
  | cons h a ih => intro f; rw [List.foldl_cons, ih, addF, plS, plS, List.flatMap_cons, List.foldl_append]
theorem hashF_len (a : List (BitVec 64)) : (hashF a).length = 2 := map_len_foldl (fun f : List (BitVec 64) => f.length = 2) _ (fun s a hs => addF_len hs _) _ _ rfl
theorem has_zero (m : Nat) : hasN [0#64, 0#64] m = false := by
  rw [hasN_bit]
  have : ([0#64, 0#64] : List (BitVec 64)).getD (m / 64) 0 = 0#64 := by
    rcases Nat.lt_or_ge (m / 64) 2 with h | h
    · have : m / 64 = 0 ∨ m / 64 = 1 := by omega
      rcases this with h | h <;> rw [h] <;> rfl
    · rw [List.getD_eq_getElem?_getD, List.getElem?_eq_none (by simpa using h)]; rfl
  rw [this]; simp
theorem has_hashF (a : List (BitVec 64)) {m : Nat} (hm : m < 128) : hasN (hashF a) m = decide (m ∈ plS a) := by
  rw [hashF, fold_plS, has_puts _ rfl (plS_lt a) hm, has_zero, Bool.false_or]
theorem may_hashF (a : List (BitVec 64)) (h : BitVec 64) : mayF (hashF a) h = (plN h).all fun p => decide (p ∈ plS a) := by
  unfold mayF
  rw [Bool.eq_iff_iff, List.all_eq_true, List.all_eq_true]
  exact ⟨fun hh p hp => by rw [← has_hashF a (plN_lt h p hp)]; exact hh p hp, fun hh p hp => by rw [has_hashF a (plN_lt h p hp)]; exact hh p hp⟩
theorem f_ext {f g : List (BitVec 64)} (hf : f.length = 2) (hg : g.length = 2) (h : ∀ m, m < 128 → hasN f m = hasN g m) : f = g := by
  obtain ⟨a, b, rfl⟩ : ∃ a b, f = [a, b] := by match f, hf with | [a, b], _ => exact ⟨a, b, rfl⟩
  obtain ⟨c, d, rfl⟩ : ∃ a b, g = [a, b] := by match g, hg with | [a, b], _ => exact ⟨a, b, rfl⟩
  have h1 : a = c := BitVec.eq_of_getLsbD_eq fun i hi => by
    have := h i (by omega)
    rw [hasN_bit, hasN_bit, Nat.div_eq_of_lt hi, Nat.mod_eq_of_lt hi] at this
    exact this
  have h2 : b = d := BitVec.eq_of_getLsbD_eq fun i hi => by
    have := h (64 + i) (by omega)
    rw [hasN_bit, hasN_bit, show (64 + i) / 64 = 1 by omega, show (64 + i) % 64 = i by omega] at this
    exact this
  rw [h1, h2]
theorem has_both {f g : List (BitVec 64)} (hf : f.length = 2) (hg : g.length = 2) {m : Nat} (hm : m < 128) : hasN (bothF f g) m = (hasN f m || hasN g m) := by
  rw [hasN_bit, hasN_bit, hasN_bit]
  have : m / 64 = 0 ∨ m / 64 = 1 := by omega
  rcases this with h | h <;> rw [h] <;> simp [bothF, BitVec.getLsbD_or]
theorem both_hashF (a b : List (BitVec 64)) : bothF (hashF a) (hashF b) = hashF (a ++ b) := by
  refine f_ext rfl (hashF_len _) (fun m hm => ?_)
  rw [has_both (hashF_len _) (hashF_len _) hm, has_hashF _ hm, has_hashF _ hm, has_hashF _ hm, Bool.eq_iff_iff]
  simp [plS, List.flatMap_append]
theorem count_128 {f : List (BitVec 64)} (hf : f.length = 2) : pop (f.getD 0 0) + pop (f.getD 1 0) = ((List.range 128).filter (hasN f)).length := by
  obtain ⟨a, b, rfl⟩ : ∃ a b, f = [a, b] := by match f, hf with | [a, b], _ => exact ⟨a, b, rfl⟩
  have e : List.range 128 = List.range 64 ++ (List.range 64).map (64 + ·) := by decide
  rw [e, List.filter_append, List.length_append, pop_bits, pop_bits, bits_, bits_, List.filter_map, List.length_map]
  congr 2
  · apply List.filter_congr
    intro i hi
    have hi : i < 64 := by simpa using hi
    rw [hasN_bit, Nat.div_eq_of_lt hi, Nat.mod_eq_of_lt hi]
    try rfl
  · apply List.filter_congr
    intro i hi
    have hi : i < 64 := by simpa using hi
    rw [Function.comp, hasN_bit, show (64 + i) / 64 = 1 by omega, show (64 + i) % 64 = i by omega]
    try rfl
/-- So many places that are each there once. -/
theorem nodup_128 {s : List Nat} (hn : s.Nodup) (hl : ∀ n ∈ s, n < 128) : s.length = ((List.range 128).filter fun n => decide (n ∈ s)).length := by
  apply List.Perm.length_eq
  rw [List.perm_ext_iff_of_nodup hn (List.nodup_range.filter _)]
  intro n
  simp only [List.mem_filter, List.mem_range, decide_eq_true_eq]
  exact ⟨fun h => ⟨hl n h, h⟩, fun h => h.2⟩
/-! ### the document's -/
theorem Places_eq (h : BitVec 64) : butteryref07_Places h = some (plI h) := by
  have m127 : ∀ x : BitVec 64, x % 128#64 = x &&& 127#64 := fun x => by
    apply BitVec.eq_of_toNat_eq
    rw [BitVec.toNat_umod, BitVec.toNat_and]
    exact (Nat.and_two_pow_sub_one_eq_mod x.toNat 7).symm
  have d21 : h / 2097152#64 = h >>> 21 := by apply BitVec.eq_of_toNat_eq; simp [Nat.shiftRight_eq_div_pow]
  have d42 : h / 4398046511104#64 = h >>> 42 := by apply BitVec.eq_of_toNat_eq; simp [Nat.shiftRight_eq_div_pow]
  simp only [butteryref07_Places, lt_eq, m127, d21, d42, toInt127]; rfl
def ins (s : List Int) (p : Int) : List Int := if s.any (· == p) then s else s ++ [p]
def setI (a : List (BitVec 64)) : List Int := a.foldl (fun s h => (plI h).foldl ins s) []
theorem any_fold (p : Int) : ∀ (l : List Int) (b : Bool), l.foldl (fun m c => if m = true then true else c == p) b = (b || l.any (· == p))
  | [], b => by simp
  | c :: l, b => by rw [List.foldl_cons, any_fold p l]; cases b <;> simp
theorem ins_len (s : List Int) (p : Int) : (ins s p).length ≤ s.length + 1 := by unfold ins; split <;> simp
theorem Set_l2 (x0 : List (BitVec 64)) (c2 : Int) (v : List Int) (s : List Int) (i : Nat) (hi : i < v.length) (hs : s.length ≤ 1000000) : butteryref07_Set_l2 x0 c2 v s i (false, 0) = some (s.any (· == v[i])) := by
  have := loopO_foldl s (fun m c => if m = true then true else c == v[i]) id (body := fun t => butteryref07_Set_b2 x0 c2 v s i t.1 t.2) (fun m j hj => by
    simp only [butteryref07_Set_b2, lt_eq]
    rw [if_pos (by simpa using hj), w64_nat (by omega)]
    split
    · rename_i h; simp [h]
    · rename_i h; rw [ix_nat hj, ix_nat hi]; simp [h]) (fun m => by simp [butteryref07_Set_b2, lt_eq]) false
  rw [butteryref07_Set_l2, this, any_fold]; simp
theorem Set_l1 (x0 : List (BitVec 64)) (c2 : Int) (h : BitVec 64) (s : List Int) (hs : s.length ≤ 900000) : butteryref07_Set_l1 x0 c2 (plI h) (s, 0) = some ((plI h).foldl ins s) := by
  have hl : (plI h).length = 3 := rfl
  have step : ∀ (i : Nat) (t : List Int), i < 3 → t.length ≤ 900000 + i → butteryref07_Set_b1 x0 c2 (plI h) t i = some (.inl (ins t ((plI h).getD i 0), ((i + 1 : Nat) : Int))) := fun i t hi ht => by
    have hi' : i < (plI h).length := hi
    simp only [butteryref07_Set_b1, lt_eq]
    rw [if_pos (by simpa using (by omega : (i : Int) < 3)), Set_l2 _ _ _ _ _ hi' (by omega), Option.bind_some, w64_nat (by omega), ix_nat hi', Option.bind_some, app_eq (by simp; omega), Option.bind_some]
    have e : (plI h).getD i 0 = (plI h)[i] := by rw [List.getD_eq_getElem?_getD, List.getElem?_eq_getElem hi']; rfl
    rw [e, ins]
    cases hx : t.any (· == (plI h)[i]) <;> simp
  have := loopO_up (body := fun t => butteryref07_Set_b1 x0 c2 (plI h) t.1 t.2) (fun i => (((plI h).take i).foldl ins s, (i : Int))) 3 (x := (plI h).foldl ins s) (fun i hi => by
    have hb : ∀ j : Nat, j ≤ 3 → (((plI h).take j).foldl ins s).length ≤ 900000 + j := by
      intro j
      induction j with
      | zero => intro _; simpa using hs
      | succ j ih =>
        intro hj
        have hj' : j < (plI h).length := by rw [hl]; omega
        rw [List.take_succ_eq_append_getElem hj', List.foldl_append]
        have := ins_len (((plI h).take j).foldl ins s) (plI h)[j]
        have := ih (by omega)
        simp only [List.foldl_cons, List.foldl_nil]
        omega
    simp only [step i _ hi (hb i (by omega))]
    have hi' : i < (plI h).length := hi
    rw [List.take_succ_eq_append_getElem hi', List.foldl_append]
    simp [List.getD_eq_getElem?_getD, List.getElem?_eq_getElem hi']) (by
    simp only [butteryref07_Set_b1, lt_eq]
    rw [if_neg (by simp)]
    rfl)
  exact this
theorem setI_len (a : List (BitVec 64)) : (setI a).length ≤ 3 * a.length := by
  have : ∀ (a : List (BitVec 64)) (s : List Int), (a.foldl (fun s h => (plI h).foldl ins s) s).length ≤ s.length + 3 * a.length := by
    intro a
    induction a with
    | nil => intro s; simp
    | cons h a ih =>
      intro s
      rw [List.foldl_cons]
      have h1 := ih ((plI h).foldl ins s)
      have h2 : ((plI h).foldl ins s).length ≤ s.length + 3 := by
        rw [show plI h = [(plI h).getD 0 0, (plI h).getD 1 0, (plI h).getD 2 0] from rfl]
        simp only [List.foldl_cons, List.foldl_nil]
        have k1 := ins_len s ((plI h).getD 0 0)
        have k2 := ins_len (ins s ((plI h).getD 0 0)) ((plI h).getD 1 0)
        have k3 := ins_len (ins (ins s ((plI h).getD 0 0)) ((plI h).getD 1 0)) ((plI h).getD 2 0)
        omega
      simp only [List.length_cons]
      omega
  have := this a []
  simp only [List.length_nil, Nat.zero_add] at this
  exact this
theorem Set_eq (a : List (BitVec 64)) (ha : a.length ≤ 10000) : butteryref07_Set a = some (setI a) := by
  have := loopO_up (body := fun s => butteryref07_Set_b0 a s.1 s.2) (fun i => (setI (a.take i), (i : Int))) a.length (x := setI a) (fun i hi => by
    have hl := setI_len (a.take i)
    have hl2 : (a.take i).length ≤ i := by simp; omega
    simp only [butteryref07_Set_b0, lt_eq]
    rw [if_pos (by simpa using hi), ix_nat hi, Option.bind_some, Places_eq, Option.bind_some, Set_l1 _ _ _ _ (by omega), Option.bind_some, w64_nat (by omega)]
    simp only [setI]
    rw [List.take_succ_eq_append_getElem hi, List.foldl_append]
    rfl) (by
    simp only [butteryref07_Set_b0, lt_eq]
    rw [if_neg (by simp), List.take_length])
  simp only [butteryref07_Set, butteryref07_Set_l0]
  have e0 : (([] : List Int), (0 : Int)) = (setI (a.take 0), ((0 : Nat) : Int)) := rfl
  rw [e0, this]; rfl
theorem mem_ins (s : List Int) (p x : Int) : x ∈ ins s p ↔ x ∈ s ∨ x = p := by
  unfold ins
  split
  · rename_i h
    obtain ⟨y, h1, h2⟩ := List.any_eq_true.1 h
    have : y = p := by simpa using h2
    subst this
    exact ⟨fun h => .inl h, fun h => h.elim id (fun h => h ▸ h1)⟩
  · simp
theorem nodup_ins {s : List Int} (p : Int) (h : s.Nodup) : (ins s p).Nodup := by
  unfold ins
  split
  · exact h
  · rename_i hx
    rw [List.nodup_append]
    refine ⟨h, by simp, fun a ha b hb => ?_⟩
    simp at hb
    subst hb
    rintro rfl
    exact hx (List.any_eq_true.2 ⟨a, ha, by simp⟩)
theorem mem_inss (x : Int) : ∀ (l s : List Int), x ∈ l.foldl ins s ↔ x ∈ s ∨ x ∈ l
  | [], s => by simp
  | p :: l, s => by rw [List.foldl_cons, mem_inss x l, mem_ins, List.mem_cons, or_assoc]
theorem nodup_inss : ∀ (l : List Int) {s : List Int}, s.Nodup → (l.foldl ins s).Nodup
  | [], s, h => h
  | p :: l, s, h => nodup_inss l (nodup_ins p h)
theorem setI_spec (a : List (BitVec 64)) : (setI a).Nodup ∧ ∀ x, x ∈ setI a ↔ x ∈ (plS a).map fun n : Nat => (n : Int) := by
  have : ∀ (a : List (BitVec 64)) (s : List Int), s.Nodup → (a.foldl (fun s h => (plI h).foldl ins s) s).Nodup ∧ ∀ x, x ∈ a.foldl (fun s h => (plI h).foldl ins s) s ↔ x ∈ s ∨ x ∈ (plS a).map fun n : Nat => (n : Int) := by
    intro a
    induction a with
    | nil => intro s hs; exact ⟨hs, fun x => by simp [plS]⟩
    | cons h a ih =>
      intro s hs
      obtain ⟨h1, h2⟩ := ih ((plI h).foldl ins s) (nodup_inss _ hs)
      refine ⟨h1, fun x => ?_⟩
      rw [List.foldl_cons, h2 x, mem_inss, plS, plS, List.flatMap_cons, List.map_append, List.mem_append, or_assoc]
      rfl
  obtain ⟨h1, h2⟩ := this a [] (by simp)
  exact ⟨h1, fun x => by rw [setI, h2 x]; simp⟩
theorem setI_count (a : List (BitVec 64)) : (setI a).length = ((List.range 128).filter (hasN (hashF a))).length := by
  obtain ⟨h1, h2⟩ := setI_spec a
  have hback : ∀ x ∈ setI a, ((x.toNat : Nat) : Int) = x := fun x hx => by
    obtain ⟨n, _, rfl⟩ := List.mem_map.1 ((h2 x).1 hx); rfl
  have e : (setI a).length = ((setI a).map Int.toNat).length := by simp
  have hn : ((setI a).map Int.toNat).Nodup := by
    rw [List.Nodup, List.pairwise_map]
    exact h1.imp_of_mem (fun hx hy hne he => hne (by rw [← hback _ hx, ← hback _ hy, he]))
  have hm : ∀ n, n ∈ (setI a).map Int.toNat ↔ n ∈ plS a := fun n => by
    constructor
    · intro hn
      obtain ⟨x, hx, rfl⟩ := List.mem_map.1 hn
      obtain ⟨m, hm, rfl⟩ := List.mem_map.1 ((h2 x).1 hx)
      exact hm
    · intro hn
      exact List.mem_map.2 ⟨(n : Int), (h2 _).2 (List.mem_map.2 ⟨n, hn, rfl⟩), rfl⟩
  rw [e, nodup_128 hn (fun n hx => plS_lt a n ((hm n).1 hx))]
  congr 1
  apply List.filter_congr
  intro n hn
  rw [has_hashF a (by simpa using hn)]
  simp only [hm]
theorem May_l1 (v w : List Int) (i : Nat) (hi : i < w.length) (hv : v.length ≤ 1000000) : butteryref07_May_l1 v w i (false, 0) = some (v.any (· == w[i])) := by
  have := loopO_foldl v (fun m c => if m = true then true else c == w[i]) id (body := fun t => butteryref07_May_b1 v w i t.1 t.2) (fun m j hj => by
    simp only [butteryref07_May_b1, lt_eq]
    rw [if_pos (by simpa using hj), w64_nat (by omega)]
    split
    · rename_i h; simp [h]
    · rename_i h; rw [ix_nat hj, ix_nat hi]; simp [h]) (fun m => by simp [butteryref07_May_b1, lt_eq]) false
  rw [butteryref07_May_l1, this, any_fold]; simp
theorem refMay_eq (a : List (BitVec 64)) (h : BitVec 64) (ha : a.length ≤ 10000) : butteryref07_May a h = some (mayF (hashF a) h) := by
  have hl := setI_len a
  have hw : (plI h).length = 3 := rfl
  have := loopO_find (body := butteryref07_May_b0 (setI a) (plI h)) (fun i => (i : Int)) 3 (fun i => if (setI a).any (· == (plI h).getD i 0) then none else some (Sum.inr false : Unit ⊕ Bool)) (x := .inl ()) (fun i hi => by
    have hi' : i < (plI h).length := hi
    have e : (plI h).getD i 0 = (plI h)[i] := by rw [List.getD_eq_getElem?_getD, List.getElem?_eq_getElem hi']; rfl
    simp only [butteryref07_May_b0, lt_eq]
    rw [if_pos (by simpa using (by omega : (i : Int) < 3)), May_l1 _ _ _ hi' (by omega), Option.bind_some, w64_nat (by omega), e]
    cases (setI a).any (· == (plI h)[i]) <;> simp [nx]) (by simp [butteryref07_May_b0, lt_eq])
  simp only [butteryref07_May, Set_eq a ha, Places_eq, Option.bind_some, butteryref07_May_l0]
  have e0 : (0 : Int) = ((0 : Nat) : Int) := rfl
  rw [e0, this, may_hashF]
  have hany : ∀ n : Nat, (setI a).any (· == (n : Int)) = decide (n ∈ plS a) := fun n => by
    rw [Bool.eq_iff_iff, List.any_eq_true, decide_eq_true_iff]
    constructor
    · rintro ⟨x, hx, he⟩
      obtain ⟨m, hm, rfl⟩ := List.mem_map.1 (((setI_spec a).2 x).1 hx)
      have : m = n := by
        have : (m : Int) = n := by simpa using he
        omega
      rw [← this]; exact hm
    · intro hn
      exact ⟨(n : Int), ((setI_spec a).2 _).2 (List.mem_map.2 ⟨n, hn, rfl⟩), by simp⟩
  have e1 : ∀ i, (plI h).getD i 0 = (((plN h).getD i 0 : Nat) : Int) := fun i => by
    simp only [plI, List.getD_eq_getElem?_getD, List.getElem?_map]
    cases (plN h)[i]? <;> rfl
  rw [show plN h = [(plN h).getD 0 0, (plN h).getD 1 0, (plN h).getD 2 0] from rfl]
  simp only [show List.range 3 = [0, 1, 2] from rfl, List.findSome?_cons, List.findSome?_nil, List.all_cons, List.all_nil, e1, hany]
  cases decide ((plN h).getD 0 0 ∈ plS a) <;> cases decide ((plN h).getD 1 0 ∈ plS a) <;> cases decide ((plN h).getD 2 0 ∈ plS a) <;> rfl
theorem Keys_eq (l : List (List (BitVec 8))) (hl : l.length ≤ 1000) (hk : ∀ k ∈ l, k.length ≤ 1000000) : butteryref07_Keys l = some (l.map hash) := by
  have := loopO_up (body := fun s => butteryref07_Keys_b0 l s.1 s.2) (fun i => ((l.take i).map hash, (i : Int))) l.length (x := l.map hash) (fun i hi => by
    simp only [butteryref07_Keys_b0, lt_eq]
    rw [if_pos (by simpa using hi), ix_nat hi, Option.bind_some, refHash_eq _ (hk _ (List.getElem_mem hi)), Option.bind_some, app_eq (by simp; omega), Option.bind_some, w64_nat (by omega), List.take_succ_eq_append_getElem hi, List.map_append]
    rfl) (by
    simp only [butteryref07_Keys_b0, lt_eq]
    rw [if_neg (by simp), List.take_length])
  simp only [butteryref07_Keys, butteryref07_Keys_l0]
  have e0 : (([] : List (BitVec 64)), (0 : Int)) = ((l.take 0).map hash, ((0 : Nat) : Int)) := rfl
  rw [e0, this]; rfl
def shortB (l : List (List (BitVec 8))) : Bool := decide (l.length ≤ 60) && l.all fun k => decide (k.length ≤ 200)
theorem shortB_spec {l : List (List (BitVec 8))} (h : shortB l = true) : l.length ≤ 60 ∧ ∀ k ∈ l, k.length ≤ 200 := by
  simpa [shortB] using h
/-! ### the examples -/
def of0 (l : List (List (BitVec 8))) : List (BitVec 64) := l.foldl (fun f k => addF f (hash0 k)) [0#64, 0#64]
theorem of_of0 (l : List (List (BitVec 8))) : ofF l = of0 l := by simp only [ofF, of0, hash_def]
end Go.Proofs.YtkmlinaofbcbaaaDoor
namespace Go.Proofs.YtkmlinaofbcbaaaDoor
open Go Go.Va
set_option linter.unusedVariables false
set_option linter.unusedSimpArgs false
set_option maxRecDepth 20000
noncomputable def butteryref12_Insert_b0 (v17 : List api_Entry) (c20 : Int) : Option ((Int) ⊕ (Int)) :=
  (cutFrom v17 c20).bind fun v31 =>
  (butteryref06_All v31).bind fun v33 =>
  lt (((v33).length : Int)) fun v35 =>
  lt (decide (v35 > (233 : Int))) fun v37 =>
  if v37 = true then
    lt (w64 (c20 + (1 : Int))) fun v40 =>
    some (.inl v40)
  else
    some (.inr c20)
noncomputable def butteryref12_Insert_l0 (v17 : List api_Entry) (s : Int) : Option (Int) := loopO (fun s => butteryref12_Insert_b0 v17 s) s
noncomputable def butteryref12_Insert (x0 : List api_Entry) (x1 : api_Entry) : Option ((List api_Entry) × (List api_Entry) × Int) :=
  (butteryref06_Check x1).bind fun v2 =>
  lt (v2 != (0 : Int)) fun v4 =>
  if v4 = true then
    some ([], [], v2)
  else
    (butteryref06_Size x1).bind fun v7 =>
    lt (decide (v7 > (233 : Int))) fun v9 =>
    if v9 = true then
      some ([], [], (3 : Int))
    else
      (butteryref12_But x0 x1.Key).bind fun v12 =>
      lt (([x1] : List api_Entry)) fun v15 =>
      (app 64 v12 v15).bind fun v17 =>
      (butteryref12_Insert_l0 v17 (0 : Int)).bind fun s28 =>
        (cutFrom v17 s28).bind fun v43 =>
        (cutTo v17 s28).bind fun v45 =>
        some (v43, v45, (0 : Int))
end Go.Proofs.YtkmlinaofbcbaaaDoor
namespace Go.Proofs.YtkmlinaofbcbaaaDoor
open Go Go.Va
set_option linter.unusedVariables false
set_option linter.unusedSimpArgs false
set_option maxRecDepth 20000
noncomputable def butteryref12_Read_b0 (v2 : (List api_Entry) × Int) (c6 : Int) : Option ((Int) ⊕ (Unit ⊕ ((List api_Entry) × Int))) :=
  lt (((v2.1).length : Int)) fun v17 =>
  lt (decide (c6 < v17)) fun v19 =>
  if v19 = true then
    (ix v2.1 c6).bind fun v22 =>
    (butteryref06_Find v2.1 v22.Key).bind fun v24 =>
    lt (v24 != c6) fun v26 =>
    if v26 = true then
      some (.inr (.inr ([], (13 : Int))))
    else
      lt (w64 (c6 + (1 : Int))) fun v30 =>
      some (.inl v30)
  else
    some (.inr (.inl ()))
noncomputable def butteryref12_Read_l0 (v2 : (List api_Entry) × Int) (s : Int) : Option (Unit ⊕ ((List api_Entry) × Int)) := loopO (fun s => butteryref12_Read_b0 v2 s) s
noncomputable def butteryref12_Read (x0 : List (BitVec 8)) : Option ((List api_Entry) × Int) :=
  (butteryref06_Read x0).bind fun v2 =>
  lt (v2.2 != (0 : Int)) fun v4 =>
  if v4 = true then
    some ([], v2.2)
  else
    (butteryref12_Read_l0 v2 (0 : Int)).bind fun o7 =>
      Sum.elim (fun s14 : Unit =>
        some (v2.1, (0 : Int))
        ) (fun y => some y) o7
end Go.Proofs.YtkmlinaofbcbaaaDoor
namespace Go.Proofs.YtkmlinaofbcbaaaDoor
open Go Go.Va
set_option linter.unusedVariables false
set_option linter.unusedSimpArgs false
set_option maxRecDepth 20000
noncomputable def butteryref12_Keys_b0 (x0 : List api_Entry) (c1 : List (List (BitVec 8))) (c2 : Int) : Option (((List (List (BitVec 8))) × Int) ⊕ ((List (List (BitVec 8))))) :=
  lt (((x0).length : Int)) fun v14 =>
  lt (decide (c2 < v14)) fun v16 =>
  if v16 = true then
    (ix x0 c2).bind fun v19 =>
    lt (([v19.Key] : List (List (BitVec 8)))) fun v21 =>
    (app 16 c1 v21).bind fun v23 =>
    lt (w64 (c2 + (1 : Int))) fun v27 =>
    some (.inl (v23, v27))
  else
    some (.inr c1)
noncomputable def butteryref12_Keys_l0 (x0 : List api_Entry) (s : (List (List (BitVec 8))) × Int) : Option ((List (List (BitVec 8)))) := loopO (fun s => butteryref12_Keys_b0 x0 s.1 s.2) s
noncomputable def butteryref12_Keys (x0 : List api_Entry) : Option ((List (List (BitVec 8)))) :=
  (butteryref12_Keys_l0 x0 ([], (0 : Int))).bind fun s11 =>
    some s11
end Go.Proofs.YtkmlinaofbcbaaaDoor
namespace Go.Proofs.YtkmlinaofbcbaaaDoor
open Go Go.Va
set_option linter.unusedVariables false
set_option linter.unusedSimpArgs false
/-- The place of a key. -/
def fdN (k : List (BitVec 8)) : List api_Entry → Option Nat
  | [] => none
  | x :: l => if x.Key = k then some 0 else (fdN k l).map (· + 1)
def fdI (l : List api_Entry) (k : List (BitVec 8)) : Int := match fdN k l with | some j => (j : Int) | none => -1
theorem fdN_lt {k : List (BitVec 8)} : ∀ {l : List api_Entry} {j : Nat}, fdN k l = some j → j < l.length
  | [], j, h => by cases h
  | x :: l, j, h => by
    simp only [fdN] at h
    split at h
    · cases h; simp
    · obtain ⟨m, h1, rfl⟩ := Option.map_eq_some_iff.1 h
      have := fdN_lt h1
      simp only [List.length_cons]; omega
theorem fdN_app (k : List (BitVec 8)) (b : List api_Entry) : ∀ a : List api_Entry, fdN k (a ++ b) = match fdN k a with | some j => some j | none => (fdN k b).map (· + a.length)
  | [] => by simp [fdN]
  | x :: a => by
    simp only [List.cons_append, fdN]
    by_cases h : x.Key = k
    · rw [if_pos h, if_pos h]
    · rw [if_neg h, if_neg h, fdN_app k b a]
      cases fdN k a with
      | some j => rfl
      | none =>
        simp only [Option.map_none, List.length_cons]
        cases fdN k b with
        | none => rfl
        | some m => simp only [Option.map_some]; congr 1
theorem fdN_none {k : List (BitVec 8)} : ∀ {l : List api_Entry}, fdN k l = none ↔ ∀ x ∈ l, x.Key ≠ k
  | [] => by simp [fdN]
  | x :: l => by
    simp only [fdN, List.mem_cons, forall_eq_or_imp]
    by_cases h : x.Key = k
    · simp [h]
    · rw [if_neg h, Option.map_eq_none_iff, fdN_none]
      exact ⟨fun h2 => ⟨h, h2⟩, fun h2 => h2.2⟩
theorem take_at {l : List api_Entry} {i : Nat} (hi : i < l.length) : l = l.take i ++ (l[i] :: l.drop (i + 1)) := by
  rw [← List.drop_eq_getElem_cons hi, List.take_append_drop]
theorem fd_at {l : List api_Entry} {i : Nat} (hi : i < l.length) : fdN l[i].Key l = match fdN l[i].Key (l.take i) with | some j => some j | none => some i := by
  have h := fdN_app l[i].Key (l[i] :: l.drop (i + 1)) (l.take i)
  rw [← take_at hi] at h
  rw [h]
  cases fdN l[i].Key (l.take i) with
  | some j => rfl
  | none =>
    simp only [fdN, if_true, Option.map_some, List.length_take]
    congr 1; omega
theorem find_l {l : List api_Entry} (k : List (BitVec 8)) (hl : l.length ≤ 1000000) : ∀ (n i : Nat), n + i = l.length → slices_IndexFunc_api_Entry_api_Entry_bucket_Find_1_c_l0 l k (l.length : Int) (i : Int) = some (match fdN k (l.drop i) with | some j => .inr ((i + j : Nat) : Int) | none => .inl ()) ∧ butteryref06_Find_l0 l k (i : Int) = some (match fdN k (l.drop i) with | some j => .inr ((i + j : Nat) : Int) | none => .inl ())
  | 0, i, h => by
    rw [List.drop_of_length_le (by omega)]
    refine ⟨loopO_out (body := fun s => slices_IndexFunc_api_Entry_api_Entry_bucket_Find_1_c_b0 l k (l.length : Int) s) ?_, loopO_out (body := fun s => butteryref06_Find_b0 l k s) ?_⟩
    · simp only [slices_IndexFunc_api_Entry_api_Entry_bucket_Find_1_c_b0, lt_eq]
      rw [if_neg (by rw [decide_eq_false (by omega)]; simp)]
      rfl
    · simp only [butteryref06_Find_b0, lt_eq]
      rw [if_neg (by rw [decide_eq_false (by omega)]; simp)]
      rfl
  | n + 1, i, h => by
    have hi : i < l.length := by omega
    rw [List.drop_eq_getElem_cons hi]
    simp only [fdN]
    by_cases hk : l[i].Key = k
    · rw [if_pos hk]
      refine ⟨loopO_out (body := fun s => slices_IndexFunc_api_Entry_api_Entry_bucket_Find_1_c_b0 l k (l.length : Int) s) ?_, loopO_out (body := fun s => butteryref06_Find_b0 l k s) ?_⟩
      · simp only [slices_IndexFunc_api_Entry_api_Entry_bucket_Find_1_c_b0, bucket_Find_1_c, lt_eq]
        rw [if_pos (decide_eq_true (by omega)), ix_nat hi]
        simp [hk]
      · simp only [butteryref06_Find_b0, lt_eq]
        rw [if_pos (decide_eq_true (by omega)), ix_nat hi]
        simp [hk]
    · rw [if_neg hk]
      obtain ⟨i1, i2⟩ := find_l k hl n (i + 1) (by omega)
      have hm : (match (fdN k (l.drop (i + 1))).map (· + 1) with | some j => (.inr ((i + j : Nat) : Int) : Unit ⊕ Int) | none => .inl ()) = (match fdN k (l.drop (i + 1)) with | some j => .inr ((i + 1 + j : Nat) : Int) | none => .inl ()) := by
        cases fdN k (l.drop (i + 1)) with
        | none => rfl
        | some j => simp only [Option.map_some]; congr 2; omega
      rw [hm]
      refine ⟨?_, ?_⟩
      · rw [← i1]
        refine loopO_in (body := fun s => slices_IndexFunc_api_Entry_api_Entry_bucket_Find_1_c_b0 l k (l.length : Int) s) ?_
        simp only [slices_IndexFunc_api_Entry_api_Entry_bucket_Find_1_c_b0, bucket_Find_1_c, lt_eq]
        rw [if_pos (decide_eq_true (by omega)), ix_nat hi]
        simp only [Option.bind_some]
        rw [if_neg (by simpa using hk), w64_nat (by omega)]
      · rw [← i2]
        refine loopO_in (body := fun s => butteryref06_Find_b0 l k s) ?_
        simp only [butteryref06_Find_b0, lt_eq]
        rw [if_pos (decide_eq_true (by omega)), ix_nat hi]
        simp only [Option.bind_some]
        rw [if_neg (by simpa using hk), w64_nat (by omega)]
theorem find_eq {l : List api_Entry} (k : List (BitVec 8)) (hl : l.length ≤ 1000000) : bucket_Find l k = some (fdI l k) := by
  have h := (find_l k hl l.length 0 rfl).1
  rw [List.drop_zero, show ((0 : Nat) : Int) = 0 from rfl] at h
  unfold bucket_Find slices_IndexFunc_api_Entry_api_Entry_bucket_Find_1_c fdI
  simp only [lt_eq, h, Option.bind_some]
  cases fdN k l with
  | none => rfl
  | some j => simp
theorem refFind_eq {l : List api_Entry} (k : List (BitVec 8)) (hl : l.length ≤ 1000000) : butteryref06_Find l k = some (fdI l k) := by
  have h := (find_l k hl l.length 0 rfl).2
  rw [List.drop_zero, show ((0 : Nat) : Int) = 0 from rfl] at h
  unfold butteryref06_Find fdI
  simp only [h, Option.bind_some]
  cases fdN k l with
  | none => rfl
  | some j => simp
/-! ### keys of their own -/
def dst (l : List api_Entry) : Prop := l.Pairwise fun x y => x.Key ≠ y.Key
theorem fd_dst {l : List api_Entry} (h : dst l) {i : Nat} (hi : i < l.length) : fdN l[i].Key l = some i := by
  rw [fd_at hi]
  have : fdN l[i].Key (l.take i) = none := by
    rw [fdN_none]
    intro x hx
    have h2 := h
    unfold dst at h2
    rw [take_at hi, List.pairwise_append] at h2
    exact h2.2.2 x hx _ List.mem_cons_self
  rw [this]
theorem dst_fd : ∀ {l : List api_Entry}, (∀ i (hi : i < l.length), fdN l[i].Key l = some i) → dst l
  | [], _ => .nil
  | x :: l, h => by
    have hx : ∀ i (hi : i < l.length), x.Key ≠ l[i].Key ∧ fdN l[i].Key l = some i := fun i hi => by
      have h1 := h (i + 1) (by simp; omega)
      simp only [List.getElem_cons_succ, fdN] at h1
      split at h1
      · cases h1
      · rename_i hne
        obtain ⟨m, h2, h3⟩ := Option.map_eq_some_iff.1 h1
        exact ⟨hne, by rw [h2]; congr 1; omega⟩
    refine List.Pairwise.cons (fun y hy => ?_) (dst_fd fun i hi => (hx i hi).2)
    obtain ⟨j, hj, rfl⟩ := List.mem_iff_getElem.1 hy
    exact (hx j hj).1
theorem right_l {l : List api_Entry} (hl : l.length ≤ 1000000) : ∀ (n i : Nat), n + i = l.length → ∃ y, butterylaw12_right_l0 l (i : Int) = some y ∧ ((y = .inl () ∧ ∀ j, i ≤ j → (h : j < l.length) → ckE l[j] = 0 ∧ fdN l[j].Key l = some j) ∨ (y = .inr false ∧ ∃ j, i ≤ j ∧ ∃ h : j < l.length, ¬ (ckE l[j] = 0 ∧ fdN l[j].Key l = some j)))
  | 0, i, h => by
    refine ⟨.inl (), loopO_out (body := fun s => butterylaw12_right_b0 l s) ?_, .inl ⟨rfl, fun j h1 h2 => absurd h2 (by omega)⟩⟩
    simp only [butterylaw12_right_b0, lt_eq]
    rw [if_neg (by rw [decide_eq_false (by omega)]; simp)]
  | n + 1, i, h => by
    have hi : i < l.length := by omega
    have hbody : butterylaw12_right_b0 l (i : Int) = if ckE l[i] = 0 ∧ fdN l[i].Key l = some i then some (.inl ((i + 1 : Nat) : Int)) else some (.inr (.inr false)) := by
      simp only [butterylaw12_right_b0, lt_eq]
      rw [if_pos (decide_eq_true (by omega)), ix_nat hi]
      simp only [Option.bind_some, refCheck_eq, refFind_eq _ hl]
      by_cases hc : ckE l[i] = 0
      · rw [if_neg (by simp [hc])]
        simp only [Option.bind_some]
        by_cases hf : fdN l[i].Key l = some i
        · have : (fdI l l[i].Key != (i : Int)) = false := by simp [fdI, hf]
          rw [this, if_neg (by simp), if_pos ⟨hc, hf⟩, w64_nat (by omega)]
        · have : (fdI l l[i].Key != (i : Int)) = true := by
            have hne : fdI l l[i].Key ≠ (i : Int) := by
              unfold fdI
              cases h2 : fdN l[i].Key l with
              | none => simp only; omega
              | some j =>
                intro h3
                have : j = i := by simp only at h3; omega
                subst this
                exact hf h2
            simpa using hne
          rw [this, if_pos rfl, if_neg (fun h => hf h.2)]
      · rw [if_pos (by simpa using hc)]
        simp only [Option.bind_some, if_true]
        rw [if_neg (fun h => hc h.1)]
    by_cases hg : ckE l[i] = 0 ∧ fdN l[i].Key l = some i
    · rw [if_pos hg] at hbody
      obtain ⟨y, h1, h2⟩ := right_l hl n (i + 1) (by omega)
      refine ⟨y, by rw [← h1]; exact loopO_in (body := fun s => butterylaw12_right_b0 l s) hbody, ?_⟩
      rcases h2 with ⟨h2, h3⟩ | ⟨h2, j, h3, h4⟩
      · refine .inl ⟨h2, fun j hj hj2 => ?_⟩
        by_cases hji : j = i
        · subst hji; exact hg
        · exact h3 j (by omega) hj2
      · exact .inr ⟨h2, j, by omega, h4⟩
    · rw [if_neg hg] at hbody
      exact ⟨.inr false, loopO_out (body := fun s => butterylaw12_right_b0 l s) hbody, .inr ⟨rfl, i, Nat.le_refl _, hi, hg⟩⟩
theorem right_eq {l : List api_Entry} (hl : l.length ≤ 1000000) : (butterylaw12_right l = some true ∧ (∀ x ∈ l, ckE x = 0) ∧ dst l) ∨ (butterylaw12_right l = some false ∧ ¬ ((∀ x ∈ l, ckE x = 0) ∧ dst l)) := by
  obtain ⟨y, h1, h2⟩ := right_l hl l.length 0 rfl
  have h1' : butterylaw12_right_l0 l 0 = some y := h1
  unfold butterylaw12_right
  rw [h1']
  rcases h2 with ⟨rfl, h3⟩ | ⟨rfl, j, _, hj, h4⟩
  · refine .inl ⟨rfl, fun x hx => ?_, dst_fd fun i hi => (h3 i (by omega) hi).2⟩
    obtain ⟨j, hj, rfl⟩ := List.mem_iff_getElem.1 hx
    exact (h3 j (by omega) hj).1
  · exact .inr ⟨rfl, fun ⟨g1, g2⟩ => h4 ⟨g1 _ (List.getElem_mem hj), fd_dst g2 hj⟩⟩
/-! ### entries out, and in -/
def butE (k : List (BitVec 8)) (l : List api_Entry) : List api_Entry := l.filter fun x => x.Key != k
theorem but_eq (k : List (BitVec 8)) {l : List api_Entry} (hl : l.length ≤ 1000000) : butteryref12_But l k = some (butE k l) := by
  have hf : ∀ i, (butE k (l.take i)).length ≤ 1000000 := fun i => by
    have := List.length_filter_le (fun x : api_Entry => x.Key != k) (l.take i)
    simp only [List.length_take] at this
    unfold butE; omega
  have kk := loopO_up (body := fun s => butteryref12_But_b0 l k s.1 s.2) (fun i : Nat => (butE k (l.take i), (i : Int))) l.length (x := butE k l) (fun i hi => by
    simp only [butteryref12_But_b0, lt_eq]
    have h1 := hf (i + 1)
    rw [List.take_add_one, List.getElem?_eq_getElem hi] at h1 ⊢
    rw [if_pos (decide_eq_true (by omega)), ix_nat hi]
    simp only [Option.bind_some]
    by_cases hk : l[i].Key = k
    · have e : butE k (l.take i ++ (some l[i]).toList) = butE k (l.take i) := by
        unfold butE
        rw [List.filter_append]
        have e2 : List.filter (fun x : api_Entry => x.Key != k) (some l[i]).toList = [] := by simp [hk]
        rw [e2, List.append_nil]
      rw [if_neg (by simp [hk]), w64_nat (by omega), e]
    · rw [if_pos (by simpa using hk)]
      simp only [butE, List.filter_append, List.length_append] at h1
      have e : List.filter (fun x : api_Entry => x.Key != k) (some l[i]).toList = [l[i]] := by simp [hk]
      rw [e] at h1
      rw [app_eq (by simp [butE] at h1 ⊢; omega)]
      simp only [Option.bind_some]
      rw [w64_nat (by omega)]
      simp only [butE, List.filter_append, e]) (by
    simp only [butteryref12_But_b0, lt_eq, List.take_length]
    rw [if_neg (by simp)])
  have kk' : butteryref12_But_l0 l k ([], 0) = some (butE k l) := kk
  unfold butteryref12_But
  simp only [kk', Option.bind_some]
theorem rm_but {k : List (BitVec 8)} : ∀ {l : List api_Entry}, dst l → (match fdN k l with | some j => l.take j ++ l.drop (j + 1) | none => l) = butE k l
  | [], _ => rfl
  | x :: l, h => by
    have h2 := List.pairwise_cons.1 h
    simp only [fdN, butE]
    by_cases hk : x.Key = k
    · rw [if_pos hk, List.filter_cons_of_neg (by simp [hk])]
      simp only [List.take_zero, List.nil_append, List.drop_succ_cons, List.drop_zero]
      exact (List.filter_eq_self.2 fun y hy => by have := h2.1 y hy; rw [hk] at this; simpa using Ne.symm this).symm
    · rw [if_neg hk, List.filter_cons_of_pos (by simpa using hk)]
      have ih := rm_but (k := k) h2.2
      unfold butE at ih
      rw [← ih]
      cases fdN k l with
      | none => rfl
      | some j => rfl
theorem remove_eq {k : List (BitVec 8)} {l : List api_Entry} (hl : l.length ≤ 1000000) (hd : dst l) : bucket_Remove l k = some (butE k l, decide (0 ≤ fdI l k)) := by
  unfold bucket_Remove
  have hc : slices_Clone_api_Entry_api_EntryV l = some l := by
    unfold slices_Clone_api_Entry_api_EntryV
    rw [app_eq (by simp; omega)]; rfl
  rw [hc]
  simp only [Option.bind_some, find_eq k hl, lt_eq]
  have hr := rm_but (k := k) hd
  cases hf : fdN k l with
  | none =>
    rw [hf] at hr
    have hI : fdI l k = -1 := by simp [fdI, hf]
    rw [hI, if_pos (by decide)]
    simp only at hr
    rw [← hr]; rfl
  | some j =>
    rw [hf] at hr
    have hj := fdN_lt hf
    have hI : fdI l k = (j : Int) := by simp [fdI, hf]
    rw [hI, if_neg (by rw [decide_eq_false (by omega)]; simp), w64_nat (by omega)]
    have hdel : slices_Delete_api_Entry_api_Entry l (j : Int) ((j + 1 : Nat) : Int) = some (l.take j ++ l.drop (j + 1)) := by
      unfold slices_Delete_api_Entry_api_Entry delO
      rw [if_pos (by omega)]; rfl
    rw [hdel]
    simp only [Option.bind_some] at hr ⊢
    rw [hr, decide_eq_true (by omega)]
theorem size_eq12 {l : List api_Entry} (hl : l.length ≤ 200) (h : ∀ x ∈ l, ckE x = 0) : bucket_Size l = some ((l.flatMap encE).length : Int) := by
  have k := loopO_up (body := fun s => bucket_Size_b0 l (l.length : Int) s.1 s.2) (fun i : Nat => ((((l.take i).flatMap encE).length : Nat), (i : Int))) l.length (x := ((l.flatMap encE).length : Int)) (fun i hi => by
    have hc := h _ (List.getElem_mem hi)
    have hn := encE_len hc
    have ht := all_len (l := l.take i) (fun x hx => h x (List.mem_of_mem_take hx))
    rw [List.length_take] at ht
    simp only [bucket_Size_b0, lt_eq]
    rw [if_pos (decide_eq_true (by omega)), ix_nat hi]
    simp only [Option.bind_some]
    rw [size_eq6 hc]
    simp only [Option.bind_some]
    rw [w64_nat (by omega), w64_eq (by omega) (by omega), List.take_add_one, List.getElem?_eq_getElem hi, List.flatMap_append, List.length_append]
    simp) (by
    simp only [bucket_Size_b0, lt_eq, List.take_length]
    rw [if_neg (by simp)])
  have k' : bucket_Size_l0 l (l.length : Int) (0, 0) = some ((l.flatMap encE).length : Int) := k
  unfold bucket_Size
  simp only [lt_eq, k', Option.bind_some]
/-- How many go. -/
def kE : List api_Entry → Nat
  | [] => 0
  | x :: l => if 233 < ((x :: l).flatMap encE).length then kE l + 1 else 0
theorem kE_le : ∀ l : List api_Entry, kE l ≤ l.length
  | [] => Nat.le_refl _
  | x :: l => by
    have := kE_le l
    rw [kE]
    split
    · simp only [List.length_cons]; omega
    · omega
theorem kE_fits : ∀ l : List api_Entry, ((l.drop (kE l)).flatMap encE).length ≤ 233
  | [] => by simp
  | x :: l => by
    rw [kE]
    split
    · exact kE_fits l
    · rename_i h
      rw [List.drop_zero]; omega
theorem kE_last {p : List api_Entry} {x : api_Entry} (hx : (encE x).length ≤ 233) : kE (p ++ [x]) ≤ p.length := by
  induction p with
  | nil =>
    simp only [List.nil_append, kE]
    rw [if_neg (by simp; omega)]
    simp
  | cons y p ih =>
    rw [List.cons_append, kE]
    split
    · simp only [List.length_cons]; omega
    · omega
theorem kE_more : ∀ {l : List api_Entry} {j : Nat}, kE l = j + 1 → 233 < ((l.drop j).flatMap encE).length
  | [], j, h => by cases h
  | x :: l, j, h => by
    rw [kE] at h
    split at h
    · rename_i hg
      cases j with
      | zero => rw [List.drop_zero]; exact hg
      | succ j => rw [List.drop_succ_cons]; exact kE_more (by omega)
    · cases h
theorem insert_l {l : List api_Entry} (hl : l.length ≤ 100) (h : ∀ x ∈ l, ckE x = 0) : ∀ (n i : Nat), n + i = l.length → bucket_Insert_l0 l (i : Int) = some ((i + kE (l.drop i) : Nat) : Int) ∧ butteryref12_Insert_l0 l (i : Int) = some ((i + kE (l.drop i) : Nat) : Int) := fun n => by
  have body : ∀ i, i ≤ l.length → bucket_Insert_b0 l (i : Int) = (if 233 < ((l.drop i).flatMap encE).length then some (.inl ((i + 1 : Nat) : Int)) else some (.inr (i : Int))) ∧ butteryref12_Insert_b0 l (i : Int) = (if 233 < ((l.drop i).flatMap encE).length then some (.inl ((i + 1 : Nat) : Int)) else some (.inr (i : Int))) := fun i hi => by
    have hd : ∀ x ∈ l.drop i, ckE x = 0 := fun x hx => h x (List.mem_of_mem_drop hx)
    have hdl : (l.drop i).length ≤ 200 := by rw [List.length_drop]; omega
    simp only [bucket_Insert_b0, butteryref12_Insert_b0, lt_eq]
    rw [cutFrom_eq hi]
    simp only [Option.bind_some, size_eq12 hdl hd, refAll_eq6 hdl hd]
    by_cases hg : 233 < ((l.drop i).flatMap encE).length
    · rw [if_pos (decide_eq_true (by omega)), if_pos hg, w64_nat (by omega)]
      exact ⟨rfl, rfl⟩
    · rw [if_neg (by rw [decide_eq_false (by omega)]; simp), if_neg hg]
      exact ⟨rfl, rfl⟩
  induction n with
  | zero =>
    intro i hi
    have hd : l.drop i = [] := List.drop_of_length_le (by omega)
    obtain ⟨b1, b2⟩ := body i (by omega)
    rw [hd] at b1 b2 ⊢
    rw [if_neg (by simp)] at b1 b2
    exact ⟨loopO_out (body := fun s => bucket_Insert_b0 l s) b1, loopO_out (body := fun s => butteryref12_Insert_b0 l s) b2⟩
  | succ n ih =>
    intro i hi
    have hi2 : i < l.length := by omega
    obtain ⟨b1, b2⟩ := body i (by omega)
    by_cases hg : 233 < ((l.drop i).flatMap encE).length
    · rw [if_pos hg] at b1 b2
      obtain ⟨i1, i2⟩ := ih (i + 1) (by omega)
      have hk : kE (l.drop i) = kE (l.drop (i + 1)) + 1 := by
        rw [List.drop_eq_getElem_cons hi2] at hg ⊢
        rw [kE, if_pos hg]
      rw [hk, show i + (kE (l.drop (i + 1)) + 1) = i + 1 + kE (l.drop (i + 1)) by omega, ← i1]
      refine ⟨loopO_in (body := fun s => bucket_Insert_b0 l s) b1, ?_⟩
      rw [i1, ← i2]
      exact loopO_in (body := fun s => butteryref12_Insert_b0 l s) b2
    · rw [if_neg hg] at b1 b2
      have hk : kE (l.drop i) = 0 := by
        rw [List.drop_eq_getElem_cons hi2] at hg ⊢
        rw [kE, if_neg hg]
      rw [hk]
      exact ⟨loopO_out (body := fun s => bucket_Insert_b0 l s) b1, loopO_out (body := fun s => butteryref12_Insert_b0 l s) b2⟩
def outE (l : List api_Entry) (x : api_Entry) : List api_Entry := butE x.Key l ++ [x]
/-- What is wrong with what is to go in. -/
def inC (x : api_Entry) : Int := if ckE x = 0 then (if 233 < (encE x).length then 3 else 0) else ckE x
theorem out_ok {l : List api_Entry} {x : api_Entry} (hl : l.length ≤ 40) (h : ∀ y ∈ l, ckE y = 0) (hx : ckE x = 0) : (outE l x).length ≤ 41 ∧ ∀ y ∈ outE l x, ckE y = 0 := by
  have := List.length_filter_le (fun y : api_Entry => y.Key != x.Key) l
  refine ⟨by simp only [outE, butE, List.length_append, List.length_cons, List.length_nil]; omega, fun y hy => ?_⟩
  rcases List.mem_append.1 hy with hy | hy
  · exact h y (List.mem_filter.1 hy).1
  · rw [List.mem_singleton.1 hy]; exact hx
theorem insert_eq {l : List api_Entry} {x : api_Entry} (hl : l.length ≤ 40) (h : ∀ y ∈ l, ckE y = 0) (hd : dst l) : (inC x = 0 → bucket_Insert l x = some ((outE l x).drop (kE (outE l x)), (outE l x).take (kE (outE l x)), .nil) ∧ butteryref12_Insert l x = some ((outE l x).drop (kE (outE l x)), (outE l x).take (kE (outE l x)), 0))
    ∧ (inC x ≠ 0 → ∃ e, bucket_Insert l x = some ([], [], e) ∧ butteryref12_Insert l x = some ([], [], inC x) ∧ codeOf e = inC x ∧ e.isNil = false) := by
  obtain ⟨e, c1, c2, c3⟩ := check_eq x
  unfold bucket_Insert butteryref12_Insert inC
  simp only [c1, Option.bind_some, lt_eq, c3, refCheck_eq]
  by_cases hx : ckE x = 0
  · have hq : (!decide (ckE x = 0)) = false := by simp [hx]
    have hq2 : (ckE x != 0) = false := by simp [hx]
    have hs : bucket_Size [x] = some ((encE x).length : Int) := by
      have := size_eq12 (l := [x]) (by simp) (by intro y hy; rw [List.mem_singleton.1 hy]; exact hx)
      simpa using this
    simp only [hq, hq2, Bool.false_eq_true, if_false, hs, Option.bind_some, if_pos hx]
    rw [refSize_eq6 hx]
    simp only [Option.bind_some]
    by_cases hg : 233 < (encE x).length
    · have hg2 : decide (((encE x).length : Int) > 233) = true := decide_eq_true (by omega)
      simp only [hg2, if_true, if_pos hg]
      refine ⟨fun h => (by cases h), fun _ => ?_⟩
      rw [new_eq _ _ _ (by decide)]
      exact ⟨_, rfl, by first | rfl | trivial, rfl, rfl⟩
    · have hg2 : decide (((encE x).length : Int) > 233) = false := decide_eq_false (by omega)
      obtain ⟨o1, o2⟩ := out_ok hl h hx
      have hb : (butE x.Key l).length ≤ 40 := by
        have := List.length_filter_le (fun y : api_Entry => y.Key != x.Key) l
        unfold butE; omega
      simp only [hg2, Bool.false_eq_true, if_false, if_neg hg]
      refine ⟨fun _ => ?_, fun h => absurd rfl h⟩
      rw [remove_eq (by omega) hd, but_eq _ (by omega), copy_eq6 (by have := (ck_ok hx).2.2.2.2.2.2.2.2; omega)]
      simp only [Option.bind_some]
      rw [app_eq (by simp; omega)]
      have ho : butE x.Key l ++ [x] = outE l x := rfl
      rw [ho]
      obtain ⟨i1, i2⟩ := insert_l (l := outE l x) (by omega) o2 (outE l x).length 0 rfl
      rw [List.drop_zero, Nat.zero_add] at i1 i2
      have i1' : bucket_Insert_l0 (outE l x) 0 = some ((kE (outE l x) : Nat) : Int) := i1
      have i2' : butteryref12_Insert_l0 (outE l x) 0 = some ((kE (outE l x) : Nat) : Int) := i2
      have hk := kE_le (outE l x)
      have hcl : ∀ m : List api_Entry, m.length ≤ 1000 → slices_Clone_api_Entry_api_Entry m = some m := fun m hm => by
        unfold slices_Clone_api_Entry_api_Entry
        rw [app_eq (by simp; omega)]; rfl
      simp only [Option.bind_some, i1', i2', cutFrom_eq hk, cutTo_eq hk]
      rw [hcl _ (by rw [List.length_drop]; omega), hcl _ (by rw [List.length_take]; omega)]
      exact ⟨by first | rfl | trivial, by first | rfl | trivial⟩
  · have hq : (!decide (ckE x = 0)) = true := by simp [hx]
    have hq2 : (ckE x != 0) = true := by simpa using hx
    simp only [hq, hq2, if_true, if_neg hx]
    refine ⟨fun h => absurd h hx, fun _ => ?_⟩
    rw [wrap_eq _ _ _ (by rw [c3]; simpa using hx)]
    exact ⟨_, rfl, by first | rfl | trivial, by simp only [codeOf, c2, if_true], rfl⟩
/-! ### read -/
theorem bread_l {l : List api_Entry} (e : Err) (c : Int) (hl : l.length ≤ 1000000) : ∀ (n i : Nat), n + i = l.length → ∃ y z, bucket_Read_l0 (l, e) (l.length : Int) (i : Int) = some y ∧ butteryref12_Read_l0 (l, c) (i : Int) = some z ∧ ((y = .inl () ∧ z = .inl () ∧ ∀ j, i ≤ j → (h : j < l.length) → fdN l[j].Key l = some j) ∨ (z = .inr ([], 13) ∧ (∃ e', y = .inr ([], e') ∧ codeOf e' = 13 ∧ e'.isNil = false) ∧ ¬ dst l))
  | 0, i, h => by
    refine ⟨.inl (), .inl (), loopO_out (body := fun s => bucket_Read_b0 (l, e) (l.length : Int) s) ?_, loopO_out (body := fun s => butteryref12_Read_b0 (l, c) s) ?_, .inl ⟨rfl, rfl, fun j h1 h2 => absurd h2 (by omega)⟩⟩
    · simp only [bucket_Read_b0, lt_eq]
      rw [if_neg (by rw [decide_eq_false (by omega)]; simp)]
    · simp only [butteryref12_Read_b0, lt_eq]
      rw [if_neg (by rw [decide_eq_false (by omega)]; simp)]
  | n + 1, i, h => by
    have hi : i < l.length := by omega
    have hat := fd_at hi
    have b1 : bucket_Read_b0 (l, e) (l.length : Int) (i : Int) = if fdI (l.take i) l[i].Key ≥ 0 then some (.inr (.inr ([], .fault [98#8, 117#8, 99#8, 107#8, 101#8, 116#8] i 13 .nil))) else some (.inl ((i + 1 : Nat) : Int)) := by
      simp only [bucket_Read_b0, lt_eq]
      rw [if_pos (decide_eq_true (by omega)), ix_nat hi, cutTo_eq (by omega)]
      simp only [Option.bind_some]
      rw [find_eq _ (by rw [List.length_take]; omega)]
      simp only [Option.bind_some]
      by_cases hg : fdI (l.take i) l[i].Key ≥ 0
      · rw [if_pos (decide_eq_true hg), if_pos hg, new_eq _ _ _ (by decide)]
        rfl
      · rw [if_neg (by rw [decide_eq_false hg]; simp), if_neg hg, w64_nat (by omega)]
    have b2 : butteryref12_Read_b0 (l, c) (i : Int) = if fdI l l[i].Key = (i : Int) then some (.inl ((i + 1 : Nat) : Int)) else some (.inr (.inr ([], 13))) := by
      simp only [butteryref12_Read_b0, lt_eq]
      rw [if_pos (decide_eq_true (by omega)), ix_nat hi]
      simp only [Option.bind_some, refFind_eq _ hl]
      by_cases hg : fdI l l[i].Key = (i : Int)
      · rw [if_neg (by simp [hg]), if_pos hg, w64_nat (by omega)]
      · rw [if_pos (by simpa using hg), if_neg hg]
    cases hf : fdN l[i].Key (l.take i) with
    | none =>
      rw [hf] at hat
      have t1 : fdI (l.take i) l[i].Key = -1 := by simp [fdI, hf]
      have t2 : fdI l l[i].Key = (i : Int) := by simp [fdI, hat]
      rw [t1, if_neg (by decide)] at b1
      rw [if_pos t2] at b2
      obtain ⟨y, z, h1, h2, h3⟩ := bread_l e c hl n (i + 1) (by omega)
      refine ⟨y, z, by rw [← h1]; exact loopO_in (body := fun s => bucket_Read_b0 (l, e) (l.length : Int) s) b1, by rw [← h2]; exact loopO_in (body := fun s => butteryref12_Read_b0 (l, c) s) b2, ?_⟩
      rcases h3 with ⟨h3, h4, h5⟩ | h3
      · refine .inl ⟨h3, h4, fun j hj hj2 => ?_⟩
        by_cases hji : j = i
        · subst hji; exact hat
        · exact h5 j (by omega) hj2
      · exact .inr h3
    | some j =>
      rw [hf] at hat
      have hj := fdN_lt hf
      rw [List.length_take] at hj
      have t1 : fdI (l.take i) l[i].Key = (j : Int) := by simp [fdI, hf]
      have t2 : fdI l l[i].Key = (j : Int) := by simp [fdI, hat]
      rw [t1, if_pos (by omega)] at b1
      rw [t2, if_neg (by omega)] at b2
      refine ⟨_, _, loopO_out (body := fun s => bucket_Read_b0 (l, e) (l.length : Int) s) b1, loopO_out (body := fun s => butteryref12_Read_b0 (l, c) s) b2, .inr ⟨rfl, ⟨_, rfl, rfl, rfl⟩, fun hd => ?_⟩⟩
      have := fd_dst hd hi
      rw [hat] at this
      have := Option.some.inj this
      omega
theorem bread_both {b : List (BitVec 8)} (hb : b.length ≤ 900000) : ∃ r e c, bucket_Read b = some (r, e) ∧ butteryref12_Read b = some (r, c) ∧ codeOf e = c ∧ e.isNil = decide (c = 0) ∧ r.length ≤ 1000000 ∧ (∀ x ∈ r, x.Value.length < 9223372036854775807) ∧ (∀ l, rdE b (b.length + 1) 0 = .inl l → (dst l → r = l ∧ e = .nil) ∧ (¬ dst l → c = 13)) := by
  unfold bucket_Read butteryref12_Read
  cases hr : rdE b (b.length + 1) 0 with
  | inl r =>
    rw [(read_eq6 hb).1 r hr, (refRead_eq6 hb).1 r hr]
    have hrl := rdE_len hr
    have hv : ∀ x ∈ r, x.Value.length < 9223372036854775807 := fun x hx => by have := rdE_val (by omega) hr x hx; omega
    have hq : Err.isNil .nil = true := rfl
    simp only [Option.bind_some, lt_eq, hq, Bool.not_true, bne_self_eq_false, Bool.false_eq_true, if_false]
    obtain ⟨y, z, h1, h2, h3⟩ := bread_l .nil 0 (l := r) (by omega) r.length 0 rfl
    rw [show ((0 : Nat) : Int) = 0 from rfl] at h1 h2
    simp only [h1, h2, Option.bind_some]
    rcases h3 with ⟨rfl, rfl, h5⟩ | ⟨rfl, ⟨e', rfl, k1, k2⟩, k3⟩
    · exact ⟨r, .nil, 0, rfl, rfl, rfl, rfl, by omega, hv, fun l hl => ⟨fun _ => ⟨Sum.inl.inj hl, rfl⟩, fun hd => absurd (dst_fd fun i hi => h5 i (by omega) hi) (by rw [Sum.inl.inj hl]; exact hd)⟩⟩
    · exact ⟨[], e', 13, rfl, rfl, k1, k2, by simp, by simp, fun l hl => ⟨fun hd => absurd (by rw [Sum.inl.inj hl]; exact hd) k3, fun _ => rfl⟩⟩
  | inr c =>
    obtain ⟨e, e1, e2, e3⟩ := (read_eq6 (b := b) hb).2 c hr
    have hc := rdE_ne hr
    have hc2 : (c != 0) = true := by simpa using hc
    rw [e1, (refRead_eq6 hb).2 c hr]
    simp only [Option.bind_some, lt_eq, e3, Bool.not_false, if_true, hc2]
    rw [wrap_eq _ _ _ e3]
    exact ⟨[], _, c, rfl, rfl, by simp only [codeOf, e2, if_true], by simp [Err.isNil, hc], by simp, by simp, fun l hl => by cases hl⟩
theorem bread_is {l : List api_Entry} (hl : l.length ≤ 200) (h : ∀ x ∈ l, ckE x = 0) (hd : dst l) : bucket_Read (l.flatMap encE) = some (l, .nil) := by
  have hn := all_len h
  obtain ⟨r, e, c, r1, _, _, _, _, _, r7⟩ := bread_both (b := l.flatMap encE) (by omega)
  obtain ⟨rfl, rfl⟩ := (r7 l (rdE_is (by omega) (by omega) (by simp) h)).1 hd
  exact r1
theorem filter_eq {l : List api_Entry} (hl : l.length ≤ 200) (h : ∀ x ∈ l, ckE x = 0) : bucket_Filter l = some (ofF (l.map (·.Key))) := by
  have k := loopO_up (body := fun s => bucket_Filter_b0 l (l.length : Int) s.1 s.2) (fun i : Nat => ((l.take i).map (·.Key), (i : Int))) l.length (x := l.map (·.Key)) (fun i hi => by
    simp only [bucket_Filter_b0, lt_eq]
    rw [if_pos (decide_eq_true (by omega)), ix_nat hi]
    simp only [Option.bind_some]
    rw [app_eq (by simp; omega)]
    simp only [Option.bind_some]
    rw [w64_nat (by omega), List.take_add_one, List.getElem?_eq_getElem hi, List.map_append]
    rfl) (by
    simp only [bucket_Filter_b0, lt_eq, List.take_length]
    rw [if_neg (by simp)])
  have k' : bucket_Filter_l0 l (l.length : Int) ([], 0) = some (l.map (·.Key)) := k
  unfold bucket_Filter
  simp only [lt_eq, k', Option.bind_some]
  rw [Of_eq _ (by simp; omega) (fun y hy => by
    obtain ⟨x, hx, rfl⟩ := List.mem_map.1 hy
    have := (ck_ok (h x hx)).2.1; omega)]
  simp only [Option.bind_some]
  have hf := ofF_len (l.map (·.Key))
  rw [stW_eq (by simp) hf]
  simp only [Option.bind_some]
  rw [whole_eq hf]
  rfl
theorem refKeys_eq {l : List api_Entry} (hl : l.length ≤ 1000) : butteryref12_Keys l = some (l.map (·.Key)) := by
  have k := loopO_up (body := fun s => butteryref12_Keys_b0 l s.1 s.2) (fun i : Nat => ((l.take i).map (·.Key), (i : Int))) l.length (x := l.map (·.Key)) (fun i hi => by
    simp only [butteryref12_Keys_b0, lt_eq]
    rw [if_pos (decide_eq_true (by omega)), ix_nat hi]
    simp only [Option.bind_some]
    rw [app_eq (by simp; omega)]
    simp only [Option.bind_some]
    rw [w64_nat (by omega), List.take_add_one, List.getElem?_eq_getElem hi, List.map_append]
    rfl) (by
    simp only [butteryref12_Keys_b0, lt_eq, List.take_length]
    rw [if_neg (by simp)])
  have k' : butteryref12_Keys_l0 l ([], 0) = some (l.map (·.Key)) := k
  unfold butteryref12_Keys
  simp only [k', Option.bind_some]
end Go.Proofs.YtkmlinaofbcbaaaDoor
namespace Go.Proofs.YtkmlinaofbcbaaaDoor
open Go Go.Va
set_option linter.unusedVariables false
set_option linter.unusedSimpArgs false
def ent (c : BitVec 8) (n : Nat) : api_Entry := ⟨[c], 1, 1, 0, List.replicate n 0#8⟩
theorem ent_len (c : BitVec 8) {n : Nat} (h : n < 128) : (encE (ent c n)).length = 6 + n := by
  unfold encE ent
  simp only [List.length_replicate, List.length_append, List.length_cons, List.length_nil]
  rw [num7_small h, num7_small (by decide), num7_small (by decide), num7_small (by decide)]
  simp only [List.length_cons, List.length_nil]
  omega
theorem ent_ck (c : BitVec 8) {n : Nat} (h : n ≤ 4096) : ckE (ent c n) = 0 := by
  unfold ckE ckK ent
  simp
  omega
theorem may_ofB {l : List (List (BitVec 8))} {k : List (BitVec 8)} (hk : k ∈ l) : mayF (ofF l) (hash k) = true := by
  rw [ofF_hashF, may_hashF, List.all_eq_true]
  intro p hp
  rw [decide_eq_true_iff]
  exact List.mem_flatMap.2 ⟨hash k, List.mem_map.2 ⟨k, hk, rfl⟩, hp⟩
theorem mk_z (n : Nat) (h : n ≤ 1000) : mkS 1 (n : Int) (0#8 : BitVec 8) = some (List.replicate n 0#8) := by
  unfold mkS
  rw [if_pos (by omega), Int.toNat_natCast]
theorem works12 : butterylaw12_works = some true := by
  have hka : ∀ c, (ent c 100).Key = [c] := fun _ => rfl
  have h2 : ∀ l : List (BitVec 8), ∀ y ∈ l.map (fun c => ent c 100), ckE y = 0 := fun l y hy => by
    obtain ⟨c, _, rfl⟩ := List.mem_map.1 hy; exact ent_ck c (by omega)
  have hab : ∀ y ∈ [ent 97#8 100, ent 98#8 100], ckE y = 0 := h2 [97#8, 98#8]
  have hdab : dst [ent 97#8 100, ent 98#8 100] := by
    unfold dst; simp [hka]
  have hC : inC (ent 99#8 100) = 0 := by
    unfold inC
    rw [if_pos (ent_ck _ (by omega)), if_neg (by rw [ent_len _ (by omega)]; omega)]
  have hout : outE [ent 97#8 100, ent 98#8 100] (ent 99#8 100) = [ent 97#8 100, ent 98#8 100, ent 99#8 100] := by
    simp [outE, butE, hka]
  have hk : kE [ent 97#8 100, ent 98#8 100, ent 99#8 100] = 1 := by
    simp only [kE, List.flatMap_cons, List.flatMap_nil, List.length_append, List.length_nil, ent_len _ (show 100 < 128 by omega)]
    rfl
  have i1 := ((insert_eq (l := [ent 97#8 100, ent 98#8 100]) (x := ent 99#8 100) (by simp) hab hdab).1 hC).1
  rw [hout, hk] at i1
  have hD : inC (ent 100#8 300) = 3 := by
    unfold inC
    rw [if_pos (ent_ck _ (by omega)), if_pos (by unfold encE ent; simp only [List.length_append, List.length_replicate]; omega)]
  obtain ⟨e2, d1, _, d3, _⟩ := (insert_eq (l := []) (x := ent 100#8 300) (by simp) (by simp) .nil).2 (by rw [hD]; decide)
  rw [hD] at d3
  have haa : ∀ y ∈ [ent 97#8 100, ent 97#8 100], ckE y = 0 := h2 [97#8, 97#8]
  have hndd : ¬ dst [ent 97#8 100, ent 97#8 100] := by
    unfold dst; simp
  have hall := all_eq6 (l := [ent 97#8 100, ent 97#8 100]) (by simp) haa
  have hn := all_len haa
  obtain ⟨r, e3, c3, b1, _, b3, _, _, _, b7⟩ := bread_both (b := [ent 97#8 100, ent 97#8 100].flatMap encE) (by simp at hn ⊢; omega)
  have hc3 := (b7 _ (rdE_is (by omega) (by omega) (by simp) haa)).2 hndd
  rw [hc3] at b3
  have hbc : ∀ y ∈ [ent 98#8 100, ent 99#8 100], ckE y = 0 := h2 [98#8, 99#8]
  have hdbc : dst [ent 98#8 100, ent 99#8 100] := by
    unfold dst; simp [hka]
  have hrm := remove_eq (k := [99#8]) (l := [ent 98#8 100, ent 99#8 100]) (by simp) hdbc
  have hfd : fdI [ent 98#8 100, ent 99#8 100] [99#8] = 1 := by
    simp [fdI, fdN, hka]
  have hbt : butE [99#8] [ent 98#8 100, ent 99#8 100] = [ent 98#8 100] := by
    simp [butE, hka]
  rw [hfd, hbt] at hrm
  have hff := find_eq [99#8] (l := [ent 98#8 100, ent 99#8 100]) (by simp)
  rw [hfd] at hff
  have hsz : bucket_Size [ent 97#8 100] = some 106 := by
    have := size_eq12 (l := [ent 97#8 100]) (by simp) (h2 [97#8])
    rw [this]
    simp only [List.flatMap_cons, List.flatMap_nil, List.append_nil, ent_len _ (show 100 < 128 by omega)]
    rfl
  have hfl := filter_eq (l := [ent 98#8 100, ent 99#8 100]) (by simp) hbc
  have hmay := May_eq (ofF_len ([ent 98#8 100, ent 99#8 100].map (·.Key))) (hash [98#8])
  rw [may_ofB (by simp [hka])] at hmay
  have hh := bloom_Hash_eq [98#8] (by simp)
  have z1 : mkS 1 (100 : Int) (0#8 : BitVec 8) = some (List.replicate 100 0#8) := mk_z 100 (by omega)
  have z3 : mkS 1 (300 : Int) (0#8 : BitVec 8) = some (List.replicate 300 0#8) := mk_z 300 (by omega)
  have ea : (⟨[97#8], 1, 1, 0, List.replicate 100 0#8⟩ : api_Entry) = ent 97#8 100 := rfl
  have eb : (⟨[98#8], 1, 1, 0, List.replicate 100 0#8⟩ : api_Entry) = ent 98#8 100 := rfl
  have ec : (⟨[99#8], 1, 1, 0, List.replicate 100 0#8⟩ : api_Entry) = ent 99#8 100 := rfl
  have ed : (⟨[100#8], 1, 1, 0, List.replicate 300 0#8⟩ : api_Entry) = ent 100#8 300 := rfl
  have hnil : Err.isNil .nil = true := rfl
  unfold butterylaw12_works
  simp only [lt_eq, z1, z3, Option.bind_some, ea, eb, ec, ed, i1, d1, hall, b1, List.drop_succ_cons, List.drop_zero, List.take_succ_cons, List.take_zero, List.length_cons, List.length_nil]
  rw [if_neg (by decide)]
  simp only [Option.bind_some]
  rw [if_neg (by decide)]
  simp only [hrm, Option.bind_some, hnil, if_true, trouble_Of, d3, b3, hff, hsz, hfl, hh, hmay]
  rw [show ix [ent 97#8 100] 0 = some (ent 97#8 100) from rfl, show ix [ent 98#8 100, ent 99#8 100] 1 = some (ent 99#8 100) from rfl]
  simp only [Option.bind_some, hka, beq_self_eq_true, if_true, List.length_cons, List.length_nil]
  rfl
end Go.Proofs.YtkmlinaofbcbaaaDoor
namespace Go.Proofs.YtkmlinaofbcbaaaDoor
open Go Go.Va
set_option linter.unusedSimpArgs false
set_option linter.unusedVariables false
def wf_runtime_boundsError (x : runtime_boundsError) : Prop := (wfI .i64) x.x ∧ (wfI .i64) x.y ∧ wfT x.signed ∧ wfT x.code
theorem opens7 : Opens Tryd.prog 7 e_runtime_boundsError wf_runtime_boundsError := by
  intro H enc w fuel cs x hx
  obtain ⟨xs, m, _, _, hl, hn, hx⟩ := DataW.trod_struct Tryd.underlying7 hx
  rw [cellsOf_sz tk sz7 (by decide)] at hl
  obtain ⟨y0, w0, r0, o0⟩ := opens_f hx hn 0 (o := 0) (s := 1) rfl (opens_i64 Tryd.underlying2) rfl (cellsOf_sz tk sz2 (by decide))
  obtain ⟨y1, w1, r1, o1⟩ := opens_f hx hn 1 (o := 1) (s := 1) rfl (opens_i64 Tryd.underlying3) rfl (cellsOf_sz tk sz3 (by decide))
  obtain ⟨y2, w2, r2, o2⟩ := opens_f hx hn 2 (o := 2) (s := 1) rfl (opens_b Tryd.underlying4) rfl (cellsOf_sz tk sz4 (by decide))
  obtain ⟨y3, w3, r3, o3⟩ := opens_f hx hn 3 (o := 3) (s := 1) rfl (opens_u rfl rfl Tryd.underlying6) rfl (cellsOf_sz tk sz6 (by decide))
  refine ⟨⟨y0, y1, y2, y3⟩, ⟨w0, w1, w2, w3⟩, ?_, ?_⟩
  · have h := (rel_piece r0 (rel_piece r1 (rel_piece r2 (rel_piece r3 (rel_end hl)))))
    rw [List.drop_zero] at h
    first | exact h | (simp only [List.append_nil, List.append_assoc] at h ⊢; exact h) | (simpa [AV.cells, e_runtime_boundsError, c_runtime_boundsError] using h)
  · have h := (one_piece o0 (one_piece o1 (one_piece o2 (one_piece o3 (one_end hl)))))
    rw [List.drop_zero] at h
    exact h
theorem opens8 : Opens Tryd.prog 8 e_runtime_boundsError wf_runtime_boundsError := by
  intro H enc w fuel cs x hx
  obtain ⟨xs, m, _, _, hl, hn, hx⟩ := DataW.trod_struct Tryd.underlying8 hx
  rw [cellsOf_sz tk sz8 (by decide)] at hl
  obtain ⟨y0, w0, r0, o0⟩ := opens_f hx hn 0 (o := 0) (s := 1) rfl (opens_i64 Tryd.underlying2) rfl (cellsOf_sz tk sz2 (by decide))
  obtain ⟨y1, w1, r1, o1⟩ := opens_f hx hn 1 (o := 1) (s := 1) rfl (opens_i64 Tryd.underlying3) rfl (cellsOf_sz tk sz3 (by decide))
  obtain ⟨y2, w2, r2, o2⟩ := opens_f hx hn 2 (o := 2) (s := 1) rfl (opens_b Tryd.underlying4) rfl (cellsOf_sz tk sz4 (by decide))
  obtain ⟨y3, w3, r3, o3⟩ := opens_f hx hn 3 (o := 3) (s := 1) rfl (opens_u rfl rfl Tryd.underlying6) rfl (cellsOf_sz tk sz6 (by decide))
  refine ⟨⟨y0, y1, y2, y3⟩, ⟨w0, w1, w2, w3⟩, ?_, ?_⟩
  · have h := (rel_piece r0 (rel_piece r1 (rel_piece r2 (rel_piece r3 (rel_end hl)))))
    rw [List.drop_zero] at h
    first | exact h | (simp only [List.append_nil, List.append_assoc] at h ⊢; exact h) | (simpa [AV.cells, e_runtime_boundsError, c_runtime_boundsError] using h)
  · have h := (one_piece o0 (one_piece o1 (one_piece o2 (one_piece o3 (one_end hl)))))
    rw [List.drop_zero] at h
    exact h
def wf_runtime_errorAddressString (x : runtime_errorAddressString) : Prop := wfS x.msg ∧ wfT x.addr
theorem opens13 : Opens Tryd.prog 13 e_runtime_errorAddressString wf_runtime_errorAddressString := by
  intro H enc w fuel cs x hx
  obtain ⟨xs, m, _, _, hl, hn, hx⟩ := DataW.trod_struct Tryd.underlying13 hx
  rw [cellsOf_sz tk sz13 (by decide)] at hl
  obtain ⟨y0, w0, r0, o0⟩ := opens_f hx hn 0 (o := 0) (s := 1) rfl (opens_s Tryd.underlying9) rfl (cellsOf_sz tk sz9 (by decide))
  obtain ⟨y1, w1, r1, o1⟩ := opens_f hx hn 1 (o := 1) (s := 1) rfl (opens_u rfl rfl Tryd.underlying12) rfl (cellsOf_sz tk sz12 (by decide))
  refine ⟨⟨y0, y1⟩, ⟨w0, w1⟩, ?_, ?_⟩
  · have h := (rel_piece r0 (rel_piece r1 (rel_end hl)))
    rw [List.drop_zero] at h
    first | exact h | (simp only [List.append_nil, List.append_assoc] at h ⊢; exact h) | (simpa [AV.cells, e_runtime_errorAddressString, c_runtime_errorAddressString] using h)
  · have h := (one_piece o0 (one_piece o1 (one_end hl)))
    rw [List.drop_zero] at h
    exact h
theorem opens14 : Opens Tryd.prog 14 e_runtime_errorAddressString wf_runtime_errorAddressString := by
  intro H enc w fuel cs x hx
  obtain ⟨xs, m, _, _, hl, hn, hx⟩ := DataW.trod_struct Tryd.underlying14 hx
  rw [cellsOf_sz tk sz14 (by decide)] at hl
  obtain ⟨y0, w0, r0, o0⟩ := opens_f hx hn 0 (o := 0) (s := 1) rfl (opens_s Tryd.underlying9) rfl (cellsOf_sz tk sz9 (by decide))
  obtain ⟨y1, w1, r1, o1⟩ := opens_f hx hn 1 (o := 1) (s := 1) rfl (opens_u rfl rfl Tryd.underlying12) rfl (cellsOf_sz tk sz12 (by decide))
  refine ⟨⟨y0, y1⟩, ⟨w0, w1⟩, ?_, ?_⟩
  · have h := (rel_piece r0 (rel_piece r1 (rel_end hl)))
    rw [List.drop_zero] at h
    first | exact h | (simp only [List.append_nil, List.append_assoc] at h ⊢; exact h) | (simpa [AV.cells, e_runtime_errorAddressString, c_runtime_errorAddressString] using h)
  · have h := (one_piece o0 (one_piece o1 (one_end hl)))
    rw [List.drop_zero] at h
    exact h
def wf_api_Entry (x : api_Entry) : Prop := wfS x.Key ∧ (wfI .i64) x.Version ∧ (wfI .i64) x.AsOf ∧ (wfI .i64) x.Ends ∧ (wfL wfT) x.Value
theorem opens23 : Opens Tryd.prog 23 e_api_Entry wf_api_Entry := by
  intro H enc w fuel cs x hx
  obtain ⟨xs, m, _, _, hl, hn, hx⟩ := DataW.trod_struct Tryd.underlying23 hx
  rw [cellsOf_sz tk sz23 (by decide)] at hl
  obtain ⟨y0, w0, r0, o0⟩ := opens_f hx hn 0 (o := 0) (s := 1) rfl (opens_s Tryd.underlying9) rfl (cellsOf_sz tk sz9 (by decide))
  obtain ⟨y1, w1, r1, o1⟩ := opens_f hx hn 1 (o := 1) (s := 1) rfl (opens_i64 Tryd.underlying3) rfl (cellsOf_sz tk sz3 (by decide))
  obtain ⟨y2, w2, r2, o2⟩ := opens_f hx hn 2 (o := 2) (s := 1) rfl (opens_i64 Tryd.underlying3) rfl (cellsOf_sz tk sz3 (by decide))
  obtain ⟨y3, w3, r3, o3⟩ := opens_f hx hn 3 (o := 3) (s := 1) rfl (opens_i64 Tryd.underlying3) rfl (cellsOf_sz tk sz3 (by decide))
  obtain ⟨y4, w4, r4, o4⟩ := opens_f hx hn 4 (o := 4) (s := 1) rfl (opens_l tk Tryd.underlying22 (enc_u td5 sz5) (opens_u rfl rfl Tryd.underlying5)) rfl (cellsOf_sz tk sz22 (by decide))
  refine ⟨⟨y0, y1, y2, y3, y4⟩, ⟨w0, w1, w2, w3, w4⟩, ?_, ?_⟩
  · have h := (rel_piece r0 (rel_piece r1 (rel_piece r2 (rel_piece r3 (rel_piece r4 (rel_end hl))))))
    rw [List.drop_zero] at h
    first | exact h | (simp only [List.append_nil, List.append_assoc] at h ⊢; exact h) | (simpa [AV.cells, e_api_Entry, c_api_Entry] using h)
  · have h := (one_piece o0 (one_piece o1 (one_piece o2 (one_piece o3 (one_piece o4 (one_end hl))))))
    rw [List.drop_zero] at h
    exact h
theorem opens24 : Opens Tryd.prog 24 e_api_Entry wf_api_Entry := by
  intro H enc w fuel cs x hx
  obtain ⟨xs, m, _, _, hl, hn, hx⟩ := DataW.trod_struct Tryd.underlying24 hx
  rw [cellsOf_sz tk sz24 (by decide)] at hl
  obtain ⟨y0, w0, r0, o0⟩ := opens_f hx hn 0 (o := 0) (s := 1) rfl (opens_s Tryd.underlying9) rfl (cellsOf_sz tk sz9 (by decide))
  obtain ⟨y1, w1, r1, o1⟩ := opens_f hx hn 1 (o := 1) (s := 1) rfl (opens_i64 Tryd.underlying3) rfl (cellsOf_sz tk sz3 (by decide))
  obtain ⟨y2, w2, r2, o2⟩ := opens_f hx hn 2 (o := 2) (s := 1) rfl (opens_i64 Tryd.underlying3) rfl (cellsOf_sz tk sz3 (by decide))
  obtain ⟨y3, w3, r3, o3⟩ := opens_f hx hn 3 (o := 3) (s := 1) rfl (opens_i64 Tryd.underlying3) rfl (cellsOf_sz tk sz3 (by decide))
  obtain ⟨y4, w4, r4, o4⟩ := opens_f hx hn 4 (o := 4) (s := 1) rfl (opens_l tk Tryd.underlying22 (enc_u td5 sz5) (opens_u rfl rfl Tryd.underlying5)) rfl (cellsOf_sz tk sz22 (by decide))
  refine ⟨⟨y0, y1, y2, y3, y4⟩, ⟨w0, w1, w2, w3, w4⟩, ?_, ?_⟩
  · have h := (rel_piece r0 (rel_piece r1 (rel_piece r2 (rel_piece r3 (rel_piece r4 (rel_end hl))))))
    rw [List.drop_zero] at h
    first | exact h | (simp only [List.append_nil, List.append_assoc] at h ⊢; exact h) | (simpa [AV.cells, e_api_Entry, c_api_Entry] using h)
  · have h := (one_piece o0 (one_piece o1 (one_piece o2 (one_piece o3 (one_piece o4 (one_end hl))))))
    rw [List.drop_zero] at h
    exact h
def wf_api_Msg (x : api_Msg) : Prop := (wfI .i64) x.Kind ∧ (wfI .i64) x.From ∧ (wfI .i64) x.To ∧ (wfI .i64) x.Epoch ∧ (wfI .i64) x.Id ∧ wf_api_Entry x.X ∧ wfT x.Found
theorem opens25 : Opens Tryd.prog 25 e_api_Msg wf_api_Msg := by
  intro H enc w fuel cs x hx
  obtain ⟨xs, m, _, _, hl, hn, hx⟩ := DataW.trod_struct Tryd.underlying25 hx
  rw [cellsOf_sz tk sz25 (by decide)] at hl
  obtain ⟨y0, w0, r0, o0⟩ := opens_f hx hn 0 (o := 0) (s := 1) rfl (opens_i64 Tryd.underlying3) rfl (cellsOf_sz tk sz3 (by decide))
  obtain ⟨y1, w1, r1, o1⟩ := opens_f hx hn 1 (o := 1) (s := 1) rfl (opens_i64 Tryd.underlying3) rfl (cellsOf_sz tk sz3 (by decide))
  obtain ⟨y2, w2, r2, o2⟩ := opens_f hx hn 2 (o := 2) (s := 1) rfl (opens_i64 Tryd.underlying3) rfl (cellsOf_sz tk sz3 (by decide))
  obtain ⟨y3, w3, r3, o3⟩ := opens_f hx hn 3 (o := 3) (s := 1) rfl (opens_i64 Tryd.underlying3) rfl (cellsOf_sz tk sz3 (by decide))
  obtain ⟨y4, w4, r4, o4⟩ := opens_f hx hn 4 (o := 4) (s := 1) rfl (opens_i64 Tryd.underlying3) rfl (cellsOf_sz tk sz3 (by decide))
  obtain ⟨y5, w5, r5, o5⟩ := opens_f hx hn 5 (o := 5) (s := 5) rfl opens24 rfl (cellsOf_sz tk sz24 (by decide))
  obtain ⟨y6, w6, r6, o6⟩ := opens_f hx hn 6 (o := 10) (s := 1) rfl (opens_b Tryd.underlying4) rfl (cellsOf_sz tk sz4 (by decide))
  refine ⟨⟨y0, y1, y2, y3, y4, y5, y6⟩, ⟨w0, w1, w2, w3, w4, w5, w6⟩, ?_, ?_⟩
  · have h := (rel_piece r0 (rel_piece r1 (rel_piece r2 (rel_piece r3 (rel_piece r4 (rel_piece r5 (rel_piece r6 (rel_end hl))))))))
    rw [List.drop_zero] at h
    first | exact h | (simp only [List.append_nil, List.append_assoc] at h ⊢; exact h) | (simpa [AV.cells, e_api_Msg, c_api_Msg] using h)
  · have h := (one_piece o0 (one_piece o1 (one_piece o2 (one_piece o3 (one_piece o4 (one_piece o5 (one_piece o6 (one_end hl))))))))
    rw [List.drop_zero] at h
    exact h
theorem opens26 : Opens Tryd.prog 26 e_api_Msg wf_api_Msg := by
  intro H enc w fuel cs x hx
  obtain ⟨xs, m, _, _, hl, hn, hx⟩ := DataW.trod_struct Tryd.underlying26 hx
  rw [cellsOf_sz tk sz26 (by decide)] at hl
  obtain ⟨y0, w0, r0, o0⟩ := opens_f hx hn 0 (o := 0) (s := 1) rfl (opens_i64 Tryd.underlying3) rfl (cellsOf_sz tk sz3 (by decide))
  obtain ⟨y1, w1, r1, o1⟩ := opens_f hx hn 1 (o := 1) (s := 1) rfl (opens_i64 Tryd.underlying3) rfl (cellsOf_sz tk sz3 (by decide))
  obtain ⟨y2, w2, r2, o2⟩ := opens_f hx hn 2 (o := 2) (s := 1) rfl (opens_i64 Tryd.underlying3) rfl (cellsOf_sz tk sz3 (by decide))
  obtain ⟨y3, w3, r3, o3⟩ := opens_f hx hn 3 (o := 3) (s := 1) rfl (opens_i64 Tryd.underlying3) rfl (cellsOf_sz tk sz3 (by decide))
  obtain ⟨y4, w4, r4, o4⟩ := opens_f hx hn 4 (o := 4) (s := 1) rfl (opens_i64 Tryd.underlying3) rfl (cellsOf_sz tk sz3 (by decide))
  obtain ⟨y5, w5, r5, o5⟩ := opens_f hx hn 5 (o := 5) (s := 5) rfl opens24 rfl (cellsOf_sz tk sz24 (by decide))
  obtain ⟨y6, w6, r6, o6⟩ := opens_f hx hn 6 (o := 10) (s := 1) rfl (opens_b Tryd.underlying4) rfl (cellsOf_sz tk sz4 (by decide))
  refine ⟨⟨y0, y1, y2, y3, y4, y5, y6⟩, ⟨w0, w1, w2, w3, w4, w5, w6⟩, ?_, ?_⟩
  · have h := (rel_piece r0 (rel_piece r1 (rel_piece r2 (rel_piece r3 (rel_piece r4 (rel_piece r5 (rel_piece r6 (rel_end hl))))))))
    rw [List.drop_zero] at h
    first | exact h | (simp only [List.append_nil, List.append_assoc] at h ⊢; exact h) | (simpa [AV.cells, e_api_Msg, c_api_Msg] using h)
  · have h := (one_piece o0 (one_piece o1 (one_piece o2 (one_piece o3 (one_piece o4 (one_piece o5 (one_piece o6 (one_end hl))))))))
    rw [List.drop_zero] at h
    exact h
def wf_api_Foot (x : api_Foot) : Prop := (wfI .i64) x.Seq ∧ (wfI .i64) x.Bytes ∧ (wfI .i64) x.Count ∧ (wfL (wfI .i64)) x.Dead
theorem opens52 : Opens Tryd.prog 52 e_api_Foot wf_api_Foot := by
  intro H enc w fuel cs x hx
  obtain ⟨xs, m, _, _, hl, hn, hx⟩ := DataW.trod_struct Tryd.underlying52 hx
  rw [cellsOf_sz tk sz52 (by decide)] at hl
  obtain ⟨y0, w0, r0, o0⟩ := opens_f hx hn 0 (o := 0) (s := 1) rfl (opens_i64 Tryd.underlying3) rfl (cellsOf_sz tk sz3 (by decide))
  obtain ⟨y1, w1, r1, o1⟩ := opens_f hx hn 1 (o := 1) (s := 1) rfl (opens_i64 Tryd.underlying3) rfl (cellsOf_sz tk sz3 (by decide))
  obtain ⟨y2, w2, r2, o2⟩ := opens_f hx hn 2 (o := 2) (s := 1) rfl (opens_i64 Tryd.underlying3) rfl (cellsOf_sz tk sz3 (by decide))
  obtain ⟨y3, w3, r3, o3⟩ := opens_f hx hn 3 (o := 3) (s := 1) rfl (opens_l tk Tryd.underlying51 (enc_i64 td3 sz3) (opens_i64 Tryd.underlying3)) rfl (cellsOf_sz tk sz51 (by decide))
  refine ⟨⟨y0, y1, y2, y3⟩, ⟨w0, w1, w2, w3⟩, ?_, ?_⟩
  · have h := (rel_piece r0 (rel_piece r1 (rel_piece r2 (rel_piece r3 (rel_end hl)))))
    rw [List.drop_zero] at h
    first | exact h | (simp only [List.append_nil, List.append_assoc] at h ⊢; exact h) | (simpa [AV.cells, e_api_Foot, c_api_Foot] using h)
  · have h := (one_piece o0 (one_piece o1 (one_piece o2 (one_piece o3 (one_end hl)))))
    rw [List.drop_zero] at h
    exact h
theorem opens53 : Opens Tryd.prog 53 e_api_Foot wf_api_Foot := by
  intro H enc w fuel cs x hx
  obtain ⟨xs, m, _, _, hl, hn, hx⟩ := DataW.trod_struct Tryd.underlying53 hx
  rw [cellsOf_sz tk sz53 (by decide)] at hl
  obtain ⟨y0, w0, r0, o0⟩ := opens_f hx hn 0 (o := 0) (s := 1) rfl (opens_i64 Tryd.underlying3) rfl (cellsOf_sz tk sz3 (by decide))
  obtain ⟨y1, w1, r1, o1⟩ := opens_f hx hn 1 (o := 1) (s := 1) rfl (opens_i64 Tryd.underlying3) rfl (cellsOf_sz tk sz3 (by decide))
  obtain ⟨y2, w2, r2, o2⟩ := opens_f hx hn 2 (o := 2) (s := 1) rfl (opens_i64 Tryd.underlying3) rfl (cellsOf_sz tk sz3 (by decide))
  obtain ⟨y3, w3, r3, o3⟩ := opens_f hx hn 3 (o := 3) (s := 1) rfl (opens_l tk Tryd.underlying51 (enc_i64 td3 sz3) (opens_i64 Tryd.underlying3)) rfl (cellsOf_sz tk sz51 (by decide))
  refine ⟨⟨y0, y1, y2, y3⟩, ⟨w0, w1, w2, w3⟩, ?_, ?_⟩
  · have h := (rel_piece r0 (rel_piece r1 (rel_piece r2 (rel_piece r3 (rel_end hl)))))
    rw [List.drop_zero] at h
    first | exact h | (simp only [List.append_nil, List.append_assoc] at h ⊢; exact h) | (simpa [AV.cells, e_api_Foot, c_api_Foot] using h)
  · have h := (one_piece o0 (one_piece o1 (one_piece o2 (one_piece o3 (one_end hl)))))
    rw [List.drop_zero] at h
    exact h
def wf_api_Mark (x : api_Mark) : Prop := wfT x.Hash ∧ (wfI .i64) x.Off ∧ (wfI .i64) x.Size
theorem opens73 : Opens Tryd.prog 73 e_api_Mark wf_api_Mark := by
  intro H enc w fuel cs x hx
  obtain ⟨xs, m, _, _, hl, hn, hx⟩ := DataW.trod_struct Tryd.underlying73 hx
  rw [cellsOf_sz tk sz73 (by decide)] at hl
  obtain ⟨y0, w0, r0, o0⟩ := opens_f hx hn 0 (o := 0) (s := 1) rfl (opens_u rfl rfl Tryd.underlying72) rfl (cellsOf_sz tk sz72 (by decide))
  obtain ⟨y1, w1, r1, o1⟩ := opens_f hx hn 1 (o := 1) (s := 1) rfl (opens_i64 Tryd.underlying3) rfl (cellsOf_sz tk sz3 (by decide))
  obtain ⟨y2, w2, r2, o2⟩ := opens_f hx hn 2 (o := 2) (s := 1) rfl (opens_i64 Tryd.underlying3) rfl (cellsOf_sz tk sz3 (by decide))
  refine ⟨⟨y0, y1, y2⟩, ⟨w0, w1, w2⟩, ?_, ?_⟩
  · have h := (rel_piece r0 (rel_piece r1 (rel_piece r2 (rel_end hl))))
    rw [List.drop_zero] at h
    first | exact h | (simp only [List.append_nil, List.append_assoc] at h ⊢; exact h) | (simpa [AV.cells, e_api_Mark, c_api_Mark] using h)
  · have h := (one_piece o0 (one_piece o1 (one_piece o2 (one_end hl))))
    rw [List.drop_zero] at h
    exact h
theorem opens74 : Opens Tryd.prog 74 e_api_Mark wf_api_Mark := by
  intro H enc w fuel cs x hx
  obtain ⟨xs, m, _, _, hl, hn, hx⟩ := DataW.trod_struct Tryd.underlying74 hx
  rw [cellsOf_sz tk sz74 (by decide)] at hl
  obtain ⟨y0, w0, r0, o0⟩ := opens_f hx hn 0 (o := 0) (s := 1) rfl (opens_u rfl rfl Tryd.underlying72) rfl (cellsOf_sz tk sz72 (by decide))
  obtain ⟨y1, w1, r1, o1⟩ := opens_f hx hn 1 (o := 1) (s := 1) rfl (opens_i64 Tryd.underlying3) rfl (cellsOf_sz tk sz3 (by decide))
  obtain ⟨y2, w2, r2, o2⟩ := opens_f hx hn 2 (o := 2) (s := 1) rfl (opens_i64 Tryd.underlying3) rfl (cellsOf_sz tk sz3 (by decide))
  refine ⟨⟨y0, y1, y2⟩, ⟨w0, w1, w2⟩, ?_, ?_⟩
  · have h := (rel_piece r0 (rel_piece r1 (rel_piece r2 (rel_end hl))))
    rw [List.drop_zero] at h
    first | exact h | (simp only [List.append_nil, List.append_assoc] at h ⊢; exact h) | (simpa [AV.cells, e_api_Mark, c_api_Mark] using h)
  · have h := (one_piece o0 (one_piece o1 (one_piece o2 (one_end hl))))
    rw [List.drop_zero] at h
    exact h
def wf_butteryref02_Reader (x : butteryref02_Reader) : Prop := (wfL wfT) x.B ∧ (wfI .i64) x.At ∧ (wfI .i64) x.Code
theorem opens126 : Opens Tryd.prog 126 e_butteryref02_Reader wf_butteryref02_Reader := by
  intro H enc w fuel cs x hx
  obtain ⟨xs, m, _, _, hl, hn, hx⟩ := DataW.trod_struct Tryd.underlying126 hx
  rw [cellsOf_sz tk sz126 (by decide)] at hl
  obtain ⟨y0, w0, r0, o0⟩ := opens_f hx hn 0 (o := 0) (s := 1) rfl (opens_l tk Tryd.underlying22 (enc_u td5 sz5) (opens_u rfl rfl Tryd.underlying5)) rfl (cellsOf_sz tk sz22 (by decide))
  obtain ⟨y1, w1, r1, o1⟩ := opens_f hx hn 1 (o := 1) (s := 1) rfl (opens_i64 Tryd.underlying3) rfl (cellsOf_sz tk sz3 (by decide))
  obtain ⟨y2, w2, r2, o2⟩ := opens_f hx hn 2 (o := 2) (s := 1) rfl (opens_i64 Tryd.underlying33) rfl (cellsOf_sz tk sz33 (by decide))
  refine ⟨⟨y0, y1, y2⟩, ⟨w0, w1, w2⟩, ?_, ?_⟩
  · have h := (rel_piece r0 (rel_piece r1 (rel_piece r2 (rel_end hl))))
    rw [List.drop_zero] at h
    first | exact h | (simp only [List.append_nil, List.append_assoc] at h ⊢; exact h) | (simpa [AV.cells, e_butteryref02_Reader, c_butteryref02_Reader] using h)
  · have h := (one_piece o0 (one_piece o1 (one_piece o2 (one_end hl))))
    rw [List.drop_zero] at h
    exact h
theorem opens127 : Opens Tryd.prog 127 e_butteryref02_Reader wf_butteryref02_Reader := by
  intro H enc w fuel cs x hx
  obtain ⟨xs, m, _, _, hl, hn, hx⟩ := DataW.trod_struct Tryd.underlying127 hx
  rw [cellsOf_sz tk sz127 (by decide)] at hl
  obtain ⟨y0, w0, r0, o0⟩ := opens_f hx hn 0 (o := 0) (s := 1) rfl (opens_l tk Tryd.underlying22 (enc_u td5 sz5) (opens_u rfl rfl Tryd.underlying5)) rfl (cellsOf_sz tk sz22 (by decide))
  obtain ⟨y1, w1, r1, o1⟩ := opens_f hx hn 1 (o := 1) (s := 1) rfl (opens_i64 Tryd.underlying3) rfl (cellsOf_sz tk sz3 (by decide))
  obtain ⟨y2, w2, r2, o2⟩ := opens_f hx hn 2 (o := 2) (s := 1) rfl (opens_i64 Tryd.underlying33) rfl (cellsOf_sz tk sz33 (by decide))
  refine ⟨⟨y0, y1, y2⟩, ⟨w0, w1, w2⟩, ?_, ?_⟩
  · have h := (rel_piece r0 (rel_piece r1 (rel_piece r2 (rel_end hl))))
    rw [List.drop_zero] at h
    first | exact h | (simp only [List.append_nil, List.append_assoc] at h ⊢; exact h) | (simpa [AV.cells, e_butteryref02_Reader, c_butteryref02_Reader] using h)
  · have h := (one_piece o0 (one_piece o1 (one_piece o2 (one_end hl))))
    rw [List.drop_zero] at h
    exact h
def wf_octets_Reader (x : octets_Reader) : Prop := (wfL wfT) x.b ∧ (wfI .i64) x.at_ ∧ (wfI .i64) x.code
theorem opens169 : Opens Tryd.prog 169 e_octets_Reader wf_octets_Reader := by
  intro H enc w fuel cs x hx
  obtain ⟨xs, m, _, _, hl, hn, hx⟩ := DataW.trod_struct Tryd.underlying169 hx
  rw [cellsOf_sz tk sz169 (by decide)] at hl
  obtain ⟨y0, w0, r0, o0⟩ := opens_f hx hn 0 (o := 0) (s := 1) rfl (opens_l tk Tryd.underlying22 (enc_u td5 sz5) (opens_u rfl rfl Tryd.underlying5)) rfl (cellsOf_sz tk sz22 (by decide))
  obtain ⟨y1, w1, r1, o1⟩ := opens_f hx hn 1 (o := 1) (s := 1) rfl (opens_i64 Tryd.underlying3) rfl (cellsOf_sz tk sz3 (by decide))
  obtain ⟨y2, w2, r2, o2⟩ := opens_f hx hn 2 (o := 2) (s := 1) rfl (opens_i64 Tryd.underlying33) rfl (cellsOf_sz tk sz33 (by decide))
  refine ⟨⟨y0, y1, y2⟩, ⟨w0, w1, w2⟩, ?_, ?_⟩
  · have h := (rel_piece r0 (rel_piece r1 (rel_piece r2 (rel_end hl))))
    rw [List.drop_zero] at h
    first | exact h | (simp only [List.append_nil, List.append_assoc] at h ⊢; exact h) | (simpa [AV.cells, e_octets_Reader, c_octets_Reader] using h)
  · have h := (one_piece o0 (one_piece o1 (one_piece o2 (one_end hl))))
    rw [List.drop_zero] at h
    exact h
theorem opens170 : Opens Tryd.prog 170 e_octets_Reader wf_octets_Reader := by
  intro H enc w fuel cs x hx
  obtain ⟨xs, m, _, _, hl, hn, hx⟩ := DataW.trod_struct Tryd.underlying170 hx
  rw [cellsOf_sz tk sz170 (by decide)] at hl
  obtain ⟨y0, w0, r0, o0⟩ := opens_f hx hn 0 (o := 0) (s := 1) rfl (opens_l tk Tryd.underlying22 (enc_u td5 sz5) (opens_u rfl rfl Tryd.underlying5)) rfl (cellsOf_sz tk sz22 (by decide))
  obtain ⟨y1, w1, r1, o1⟩ := opens_f hx hn 1 (o := 1) (s := 1) rfl (opens_i64 Tryd.underlying3) rfl (cellsOf_sz tk sz3 (by decide))
  obtain ⟨y2, w2, r2, o2⟩ := opens_f hx hn 2 (o := 2) (s := 1) rfl (opens_i64 Tryd.underlying33) rfl (cellsOf_sz tk sz33 (by decide))
  refine ⟨⟨y0, y1, y2⟩, ⟨w0, w1, w2⟩, ?_, ?_⟩
  · have h := (rel_piece r0 (rel_piece r1 (rel_piece r2 (rel_end hl))))
    rw [List.drop_zero] at h
    first | exact h | (simp only [List.append_nil, List.append_assoc] at h ⊢; exact h) | (simpa [AV.cells, e_octets_Reader, c_octets_Reader] using h)
  · have h := (one_piece o0 (one_piece o1 (one_piece o2 (one_end hl))))
    rw [List.drop_zero] at h
    exact h
def wf_reflectlite_ValueError (x : reflectlite_ValueError) : Prop := wfS x.Method ∧ wfT x.Kind
theorem opens211 : Opens Tryd.prog 211 e_reflectlite_ValueError wf_reflectlite_ValueError := by
  intro H enc w fuel cs x hx
  obtain ⟨xs, m, _, _, hl, hn, hx⟩ := DataW.trod_struct Tryd.underlying211 hx
  rw [cellsOf_sz tk sz211 (by decide)] at hl
  obtain ⟨y0, w0, r0, o0⟩ := opens_f hx hn 0 (o := 0) (s := 1) rfl (opens_s Tryd.underlying9) rfl (cellsOf_sz tk sz9 (by decide))
  obtain ⟨y1, w1, r1, o1⟩ := opens_f hx hn 1 (o := 1) (s := 1) rfl (opens_u rfl rfl Tryd.underlying164) rfl (cellsOf_sz tk sz164 (by decide))
  refine ⟨⟨y0, y1⟩, ⟨w0, w1⟩, ?_, ?_⟩
  · have h := (rel_piece r0 (rel_piece r1 (rel_end hl)))
    rw [List.drop_zero] at h
    first | exact h | (simp only [List.append_nil, List.append_assoc] at h ⊢; exact h) | (simpa [AV.cells, e_reflectlite_ValueError, c_reflectlite_ValueError] using h)
  · have h := (one_piece o0 (one_piece o1 (one_end hl)))
    rw [List.drop_zero] at h
    exact h
theorem opens212 : Opens Tryd.prog 212 e_reflectlite_ValueError wf_reflectlite_ValueError := by
  intro H enc w fuel cs x hx
  obtain ⟨xs, m, _, _, hl, hn, hx⟩ := DataW.trod_struct Tryd.underlying212 hx
  rw [cellsOf_sz tk sz212 (by decide)] at hl
  obtain ⟨y0, w0, r0, o0⟩ := opens_f hx hn 0 (o := 0) (s := 1) rfl (opens_s Tryd.underlying9) rfl (cellsOf_sz tk sz9 (by decide))
  obtain ⟨y1, w1, r1, o1⟩ := opens_f hx hn 1 (o := 1) (s := 1) rfl (opens_u rfl rfl Tryd.underlying164) rfl (cellsOf_sz tk sz164 (by decide))
  refine ⟨⟨y0, y1⟩, ⟨w0, w1⟩, ?_, ?_⟩
  · have h := (rel_piece r0 (rel_piece r1 (rel_end hl)))
    rw [List.drop_zero] at h
    first | exact h | (simp only [List.append_nil, List.append_assoc] at h ⊢; exact h) | (simpa [AV.cells, e_reflectlite_ValueError, c_reflectlite_ValueError] using h)
  · have h := (one_piece o0 (one_piece o1 (one_end hl)))
    rw [List.drop_zero] at h
    exact h
def wf_abi_Method (x : abi_Method) : Prop := (wfI .i32) x.Name ∧ (wfI .i32) x.Mtyp ∧ (wfI .i32) x.Ifn ∧ (wfI .i32) x.Tfn
theorem opens219 : Opens Tryd.prog 219 e_abi_Method wf_abi_Method := by
  intro H enc w fuel cs x hx
  obtain ⟨xs, m, _, _, hl, hn, hx⟩ := DataW.trod_struct Tryd.underlying219 hx
  rw [cellsOf_sz tk sz219 (by decide)] at hl
  obtain ⟨y0, w0, r0, o0⟩ := opens_f hx hn 0 (o := 0) (s := 1) rfl (opens_i Tryd.underlying205) rfl (cellsOf_sz tk sz205 (by decide))
  obtain ⟨y1, w1, r1, o1⟩ := opens_f hx hn 1 (o := 1) (s := 1) rfl (opens_i Tryd.underlying206) rfl (cellsOf_sz tk sz206 (by decide))
  obtain ⟨y2, w2, r2, o2⟩ := opens_f hx hn 2 (o := 2) (s := 1) rfl (opens_i Tryd.underlying218) rfl (cellsOf_sz tk sz218 (by decide))
  obtain ⟨y3, w3, r3, o3⟩ := opens_f hx hn 3 (o := 3) (s := 1) rfl (opens_i Tryd.underlying218) rfl (cellsOf_sz tk sz218 (by decide))
  refine ⟨⟨y0, y1, y2, y3⟩, ⟨w0, w1, w2, w3⟩, ?_, ?_⟩
  · have h := (rel_piece r0 (rel_piece r1 (rel_piece r2 (rel_piece r3 (rel_end hl)))))
    rw [List.drop_zero] at h
    first | exact h | (simp only [List.append_nil, List.append_assoc] at h ⊢; exact h) | (simpa [AV.cells, e_abi_Method, c_abi_Method] using h)
  · have h := (one_piece o0 (one_piece o1 (one_piece o2 (one_piece o3 (one_end hl)))))
    rw [List.drop_zero] at h
    exact h
theorem opens220 : Opens Tryd.prog 220 e_abi_Method wf_abi_Method := by
  intro H enc w fuel cs x hx
  obtain ⟨xs, m, _, _, hl, hn, hx⟩ := DataW.trod_struct Tryd.underlying220 hx
  rw [cellsOf_sz tk sz220 (by decide)] at hl
  obtain ⟨y0, w0, r0, o0⟩ := opens_f hx hn 0 (o := 0) (s := 1) rfl (opens_i Tryd.underlying205) rfl (cellsOf_sz tk sz205 (by decide))
  obtain ⟨y1, w1, r1, o1⟩ := opens_f hx hn 1 (o := 1) (s := 1) rfl (opens_i Tryd.underlying206) rfl (cellsOf_sz tk sz206 (by decide))
  obtain ⟨y2, w2, r2, o2⟩ := opens_f hx hn 2 (o := 2) (s := 1) rfl (opens_i Tryd.underlying218) rfl (cellsOf_sz tk sz218 (by decide))
  obtain ⟨y3, w3, r3, o3⟩ := opens_f hx hn 3 (o := 3) (s := 1) rfl (opens_i Tryd.underlying218) rfl (cellsOf_sz tk sz218 (by decide))
  refine ⟨⟨y0, y1, y2, y3⟩, ⟨w0, w1, w2, w3⟩, ?_, ?_⟩
  · have h := (rel_piece r0 (rel_piece r1 (rel_piece r2 (rel_piece r3 (rel_end hl)))))
    rw [List.drop_zero] at h
    first | exact h | (simp only [List.append_nil, List.append_assoc] at h ⊢; exact h) | (simpa [AV.cells, e_abi_Method, c_abi_Method] using h)
  · have h := (one_piece o0 (one_piece o1 (one_piece o2 (one_piece o3 (one_end hl)))))
    rw [List.drop_zero] at h
    exact h
end Go.Proofs.YtkmlinaofbcbaaaDoor
namespace Go.Proofs.YtkmlinaofbcbaaaDoor
open Go Go.Va
set_option linter.unusedVariables false
set_option linter.unusedSimpArgs false
theorem dst_out {l : List api_Entry} {x : api_Entry} (h : dst l) : dst (outE l x) := by
  unfold dst outE butE at *
  rw [List.pairwise_append]
  refine ⟨h.filter _, by simp, fun y hy z hz => ?_⟩
  rw [List.mem_singleton.1 hz]
  simpa using (List.mem_filter.1 hy).2
theorem BucketRoom_pure (l : List api_Entry) (x : api_Entry) (_ : wfL wf_api_Entry l) (_ : wf_api_Entry x) : butterylaw12_BucketRoom l x = some true := by
  unfold butterylaw12_BucketRoom
  simp only [lt_eq]
  rcases light_eq l with h | ⟨h, h1, h2⟩
  · simp [h, works12]
  · simp only [h, Option.bind_some]
    rw [if_neg (by decide)]
    rcases light_eq [x] with h' | ⟨h', _, h3⟩
    · simp [h', works12]
    · simp only [h', Option.bind_some]
      rw [if_neg (by decide)]
      rcases right_eq (l := l) (by omega) with ⟨g1, g2, g3⟩ | ⟨g1, g2⟩
      · simp only [g1, Option.bind_some, Bool.not_true, Bool.false_eq_true, if_false]
        obtain ⟨q1, q2⟩ := insert_eq (l := l) (x := x) h1 g2 g3
        by_cases hc : inC x = 0
        · have hx : ckE x = 0 ∧ (encE x).length ≤ 233 := by
            unfold inC at hc
            split at hc
            · split at hc
              · cases hc
              · exact ⟨by assumption, by omega⟩
            · rename_i hne; exact absurd hc hne
          obtain ⟨o1, o2⟩ := out_ok h1 g2 hx.1
          obtain ⟨t1, _⟩ := q1 hc
          have hdo := dst_out (x := x) g3
          have hkl : kE (outE l x) ≤ (butE x.Key l).length := kE_last hx.2
          have hol : (outE l x).length = (butE x.Key l).length + 1 := by simp [outE]
          have hfit := kE_fits (outE l x)
          have hmore := fun j => kE_more (l := outE l x) (j := j)
          have hsplit : outE l x = butE x.Key l ++ [x] := rfl
          generalize hk : kE (outE l x) = kk at *
          have ha : (outE l x).drop kk = (butE x.Key l).drop kk ++ [x] := by
            rw [hsplit, List.drop_append_of_le_length hkl]
          have hg : (outE l x).take kk = (butE x.Key l).take kk := by
            rw [hsplit, List.take_append_of_le_length hkl]
          have hac : ∀ y ∈ (outE l x).drop kk, ckE y = 0 := fun y hy => o2 y (List.mem_of_mem_drop hy)
          have hgc : ∀ y ∈ (outE l x).take kk, ckE y = 0 := fun y hy => o2 y (List.mem_of_mem_take hy)
          have had : dst ((outE l x).drop kk) := List.Pairwise.drop hdo
          have hal : ((outE l x).drop kk).length = (outE l x).length - kk := List.length_drop
          have hgl : ((outE l x).take kk).length = kk := by rw [List.length_take]; omega
          have hsa := size_eq12 (l := (outE l x).drop kk) (by omega) hac
          have hra : butterylaw12_right ((outE l x).drop kk) = some true := by
            rcases right_eq (l := (outE l x).drop kk) (by omega) with ⟨k1, _⟩ | ⟨_, k2⟩
            · exact k1
            · exact absurd ⟨hac, had⟩ k2
          have hnil : Err.isNil .nil = true := rfl
          have hpos : 0 < ((outE l x).drop kk).length := by omega
          have hlast : ix ((outE l x).drop kk) (w64 ((((outE l x).drop kk).length : Int) - 1)) = some x := by
            rw [w64_eq (by omega) (by omega), show (((outE l x).drop kk).length : Int) - 1 = ((((outE l x).drop kk).length - 1 : Nat) : Int) by omega, ix_get, ha]
            rw [List.getElem?_append_right (by simp)]
            simp
          have hcut : cutTo ((outE l x).drop kk) (w64 ((((outE l x).drop kk).length : Int) - 1)) = some ((butE x.Key l).drop kk) := by
            rw [w64_eq (by omega) (by omega), show (((outE l x).drop kk).length : Int) - 1 = ((((outE l x).drop kk).length - 1 : Nat) : Int) by omega, cutTo_eq (by omega), ha]
            congr 1
            rw [List.take_left' (by simp)]
          have hlz : ((((outE l x).drop kk).length : Int) == 0) = false := by
            have : (((outE l x).drop kk).length : Int) ≠ 0 := by omega
            simpa using this
          have hsd : decide (((((outE l x).drop kk).flatMap encE).length : Int) > 233) = false := decide_eq_false (by omega)
          have hxv : x.Value.length < 9223372036854775807 := by have := (ck_ok hx.1).2.2.2.2.2.2.2.2; omega
          simp only [t1, Option.bind_some, hnil, Bool.not_true, Bool.false_eq_true, if_false, hlz, hlast, same_eq6 x x hxv, decide_true, hsa, hsd, hra]
          rw [app_eq (by simp; omega)]
          simp only [Option.bind_some, List.nil_append, hcut]
          have hbl : (butE x.Key l).length ≤ 40 := by
            have := List.length_filter_le (fun y : api_Entry => y.Key != x.Key) l
            unfold butE; omega
          rw [app_eq (by simp; omega)]
          have hjoin : (outE l x).take kk ++ (butE x.Key l).drop kk = butE x.Key l := by rw [hg, List.take_append_drop]
          have hbv : ∀ y ∈ butE x.Key l, y.Value.length < 9223372036854775807 := fun y hy => by
            have := (h2 y (List.mem_filter.1 hy).1).2; omega
          simp only [Option.bind_some, hjoin, but_eq x.Key (l := l) (by omega), sameAll_refl (l := butE x.Key l) (by omega) hbv, if_true, hgl]
          by_cases hk0 : kk = 0
          · rw [if_pos (by simp [hk0])]
            simp [works12]
          · rw [if_neg (by simpa using hk0)]
            have hi : kk - 1 < ((outE l x).take kk).length := by omega
            have hi2 : kk - 1 < (outE l x).length := by omega
            have hm := hmore (kk - 1) (by omega)
            rw [List.drop_eq_getElem_cons hi2, show kk - 1 + 1 = kk by omega, List.flatMap_cons, List.length_append] at hm
            have hcg := o2 _ (List.getElem_mem hi2)
            have hs1 := size_eq12 (l := [(outE l x)[kk - 1]]) (by simp) (by intro y hy; rw [List.mem_singleton.1 hy]; exact hcg)
            have hle := encE_len hcg
            rw [w64_eq (n := (kk : Int) - 1) (by omega) (by omega), show (kk : Int) - 1 = ((kk - 1 : Nat) : Int) by omega, ix_nat hi, List.getElem_take]
            simp only [Option.bind_some, hs1, List.flatMap_cons, List.flatMap_nil, List.append_nil]
            rw [w64_eq (by omega) (by omega), if_pos (decide_eq_true (by omega))]
            simp [works12]
        · obtain ⟨e, t1, _, _, t4⟩ := q2 hc
          simp only [t1, Option.bind_some, t4, Bool.not_false, if_true, List.length_nil]
          simp [works12]
          rfl
      · simp [g1, works12]
end Go.Proofs.YtkmlinaofbcbaaaDoor
namespace Go.Proofs.YtkmlinaofbcbaaaDoor
open Go.ChangeShapes Go.WideShapes Go.RowKit
theorem own : ownKnob Tryd.prog.godebug = none := by kernel_rfl
theorem laidEt : Tryd.prog.globalNamed "errors.errorType" = some 0 := by kernel_rfl
theorem laidRt : (Tryd.prog.cutTypes.find? (·.1 == "internal/reflectlite.rtype")).map (·.2) = some 181 := by kernel_rfl
theorem laidRow : ((List.range 222).filter fun t => Tryd.prog.rowNamed t [101, 114, 114, 111, 114]) = [30] := by kernel_rfl
theorem laidSize : Tryd.prog.types.size = 222 := by kernel_rfl
def laidL {H : Type} : List (String × DataW H) := [("errors.errorType", Rows.laid_errors_errorType)]
theorem handle_of_laid {W : World} (h : laidMetH Tryd.prog laidL W) : W.cell? ⟨0, 0, none⟩ = some (.iface 181 (.agg #[.pointer (some ⟨1, 30, none⟩)])) := by
  have h' : laidMet Tryd.prog [] W ∧ handlesMet Tryd.prog laidL W := h
  obtain ⟨name, u, ty, e1, e2, e3, e4, e5⟩ := h'.2 _ (List.mem_singleton.2 rfl)
  have en : name = [101, 114, 114, 111, 114] := (Option.some.inj e1).symm
  subst en
  obtain rfl := Option.some.inj (laidRt.symm.trans e2)
  have hm : ty ∈ (List.range 222).filter fun t => Tryd.prog.rowNamed t [101, 114, 114, 111, 114] := List.mem_filter.2 ⟨List.mem_range.2 (by rw [← laidSize]; exact e3), e4⟩
  rw [laidRow] at hm
  obtain rfl := List.mem_singleton.1 hm
  have hh : typeHandle Tryd.prog 30 = .pointer (some ⟨1, 30, none⟩) := by kernel_rfl
  rw [hh] at e5
  simpa using World.var?_cell laidEt e5 0
/-- A world that meets the condition. -/
noncomputable def laidWorld (os : Os) : World :=
  let w0 := World.holding Tryd.prog os ⟨#[], #[], []⟩
  { w0 with heap := w0.heap.modify 0 fun
      | .cells _ t frozen => .cells #[.iface 181 (.agg #[.pointer (some ⟨1, 30, none⟩)])] t frozen
      | o => o }
theorem laidWorld_met (os : Os) (args : Array Value) : laidMetH Tryd.prog laidL ((laidWorld os).forCall (fun _ _ => 0) ⟨#[], args, []⟩).memory :=
  laidMetH_of_parts (laidMet_nil _ _) (by kernel_rfl)
theorem gls_met {W : World} (h : laidMetH Tryd.prog laidL W) : ∀ p ∈ gls, W.cell? p.1 = some p.2 := by
  intro p hp
  obtain rfl := List.mem_singleton.1 hp
  exact handle_of_laid h
theorem laidOut : laidOutB Tryd.prog = true := by kernel_rfl
end Go.Proofs.YtkmlinaofbcbaaaDoor
