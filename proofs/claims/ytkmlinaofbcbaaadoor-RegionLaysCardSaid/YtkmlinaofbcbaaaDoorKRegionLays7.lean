/- Where any things stand, laid one behind the other, any bytes in pieces, and the things of any foot and pieces, are what the chapter says. (part 7 of 8) -/
import Derived.Test.YtkmlinaofbcbaaaDoorKRegionLays6
import Derived.ChangeSame
import Derived.ChangeVars
import Derived.JoinedOf
import Derived.LaidHandle
import Derived.LaidLaws
import Derived.RowKit
import Derived.RowKitTokens
import Derived.Stop.Joined
import Derived.Test.YtkmlinaofbcbaaaDoorRows
namespace Go.Proofs.YtkmlinaofbcbaaaDoor
open Go Go.Va
set_option linter.unusedVariables false
set_option linter.unusedSimpArgs false
def fold (h : BitVec 64) : BitVec 64 := h ^^^ (h >>> 33)
def mix0 (h : BitVec 64) : BitVec 64 := fold (fold (fold h * 18397679294719823053#64) * 14181476777654086739#64)
/-- A name that nothing looks behind (a great product would be unfolded number by number). -/
theorem mix_ex : ∃ f : BitVec 64 → BitVec 64, ∀ h, f h = mix0 h := ⟨mix0, fun _ => rfl⟩
noncomputable def mix : BitVec 64 → BitVec 64 := Classical.choose mix_ex
theorem mix_def (h : BitVec 64) : mix h = mix0 h := Classical.choose_spec mix_ex h
theorem bloom_Mix_eq (h : BitVec 64) : bloom_Mix h = some (mix h) := by rw [mix_def]; simp only [bloom_Mix, lt_eq, mix0, fold]
theorem div33 (h : BitVec 64) : h / 8589934592#64 = h >>> 33 := by
  apply BitVec.eq_of_toNat_eq
  simp [Nat.shiftRight_eq_div_pow]
theorem fold_eq (h : BitVec 64) : butteryref07_fold h = some (fold h) := by simp only [butteryref07_fold, lt_eq, div33, fold]
theorem refMix_eq (h : BitVec 64) : butteryref07_Mix h = some (mix h) := by rw [mix_def]; simp only [butteryref07_Mix, lt_eq, fold_eq, Option.bind_some, mix0]
theorem fold_fold (h : BitVec 64) : fold (fold h) = h := by
  apply BitVec.eq_of_getLsbD_eq
  intro i hi
  simp only [fold, BitVec.getLsbD_xor, BitVec.getLsbD_ushiftRight]
  have : h.getLsbD (33 + (33 + i)) = false := BitVec.getLsbD_of_ge _ _ (by omega)
  rw [this]
  cases h.getLsbD i <;> cases h.getLsbD (33 + i) <;> rfl
theorem mul1 (h : BitVec 64) : h * 18397679294719823053#64 * 5725274745694666757#64 = h := by
  rw [BitVec.mul_assoc, show 18397679294719823053#64 * 5725274745694666757#64 = 1#64 by decide, BitVec.mul_one]
theorem mul2 (h : BitVec 64) : h * 14181476777654086739#64 * 11291846944257947611#64 = h := by
  rw [BitVec.mul_assoc, show 14181476777654086739#64 * 11291846944257947611#64 = 1#64 by decide, BitVec.mul_one]
def unmix (h : BitVec 64) : BitVec 64 := fold (fold (fold h * 11291846944257947611#64) * 5725274745694666757#64)
theorem unmix_mix (h : BitVec 64) : unmix (mix h) = h := by rw [mix_def]; simp only [unmix, mix0, fold_fold, mul1, mul2]
theorem mix_inj (a b : BitVec 64) : (mix a == mix b) = (a == b) := by
  rw [Bool.eq_iff_iff]
  simp only [beq_iff_eq]
  exact ⟨fun h => by rw [← unmix_mix a, h, unmix_mix], fun h => by rw [h]⟩

def stir (h : BitVec 64) (c : BitVec 8) : BitVec 64 := (h ^^^ c.setWidth 64) * 1099511628211#64
def hash0 (k : List (BitVec 8)) : BitVec 64 := mix0 (k.foldl stir 14695981039346656037#64)
theorem hash_ex : ∃ f : List (BitVec 8) → BitVec 64, ∀ h, f h = hash0 h := ⟨hash0, fun _ => rfl⟩
noncomputable def hash : List (BitVec 8) → BitVec 64 := Classical.choose hash_ex
theorem hash_def (h : List (BitVec 8)) : hash h = hash0 h := Classical.choose_spec hash_ex h
theorem bloom_Hash_eq (k : List (BitVec 8)) (hk : k.length ≤ 1000000) : bloom_Hash k = some (hash k) := by
  have h := loopO_foldl k stir id (body := fun s => bloom_Hash_b0 k k.length s.1 s.2) (fun s i hi => by
    simp only [bloom_Hash_b0, lt_eq, ix_nat hi, Option.bind_some, w64_nat (show i < 9223372036854775807 by omega)]
    rw [if_pos (by simpa using hi)]; rfl) (fun s => by simp [bloom_Hash_b0, lt_eq]) 14695981039346656037#64
  simp only [bloom_Hash, lt_eq, bloom_Hash_l0, h, Option.bind_some, bloom_Mix_eq, hash_def, hash0, mix_def, id]
theorem refHash_eq (k : List (BitVec 8)) (hk : k.length ≤ 1000000) : butteryref07_Hash k = some (hash k) := by
  have h := loopO_foldl k stir id (body := fun s => butteryref07_Hash_b0 k s.1 s.2) (fun s i hi => by
    simp only [butteryref07_Hash_b0, lt_eq, ix_nat hi, Option.bind_some, w64_nat (show i < 9223372036854775807 by omega)]
    rw [if_pos (by simpa using hi)]; rfl) (fun s => by simp [butteryref07_Hash_b0, lt_eq]) 14695981039346656037#64
  simp only [butteryref07_Hash, lt_eq, butteryref07_Hash_l0, h, Option.bind_some, refMix_eq, hash_def, hash0, mix_def, id]

/-! ### filters -/
def plc (h : BitVec 64) : List (BitVec 64) := [h &&& 127#64, (h >>> 21) &&& 127#64, (h >>> 42) &&& 127#64]
theorem toInt127 (h : BitVec 64) : (h &&& 127#64).toInt = ((h &&& 127#64).toNat : Int) := by
  have : (h &&& 127#64).toNat ≤ 127 := by rw [BitVec.toNat_and]; exact Nat.and_le_right
  rw [BitVec.toInt_eq_toNat_of_lt (by omega)]
def plN (h : BitVec 64) : List Nat := (plc h).map (·.toNat)
def plI (h : BitVec 64) : List Int := (plN h).map (fun n : Nat => (n : Int))
theorem plN_lt (h : BitVec 64) : ∀ n ∈ plN h, n < 128 := by
  have key : ∀ x : BitVec 64, (x &&& 127#64).toNat < 128 := fun x => by
    have : (x &&& 127#64).toNat ≤ 127 := by rw [BitVec.toNat_and]; exact Nat.and_le_right
    omega
  simp only [plN, plc, List.map_cons, List.map_nil, List.mem_cons, List.not_mem_nil, or_false]
  rintro n (rfl | rfl | rfl) <;> exact key _
theorem bits_eq (h : BitVec 64) : bloom_bits h = some (plI h) := by
  simp only [bloom_bits, lt_eq, toInt127]
  rw [stW_eq (by simp) (by simp), Option.bind_some, whole_eq (by simp)]; rfl
theorem shr6 {n : Nat} (h : n < 128) : shr64 (n : Int) 6 = ((n / 64 : Nat) : Int) := by
  unfold shr64
  rw [Int.fdiv_eq_ediv_of_nonneg _ (by decide)]
  show (n : Int) / 64 = _
  omega
theorem and63 {n : Nat} (h : n < 128) : and64 (n : Int) 63 = ((n % 64 : Nat) : Int) := by
  have : ∀ m : Fin 128, and64 (m.val : Int) 63 = ((m.val % 64 : Nat) : Int) := by decide
  exact this ⟨n, h⟩
/-- A filter with a place more; whether a place is set. -/
def putN (f : List (BitVec 64)) (n : Nat) : List (BitVec 64) := f.set (n / 64) (f.getD (n / 64) 0 ||| (1#64 <<< (n % 64)))
def hasN (f : List (BitVec 64)) (n : Nat) : Bool := !((f.getD (n / 64) 0 >>> (n % 64)) &&& 1#64 == 0#64)
def addF (f : List (BitVec 64)) (h : BitVec 64) : List (BitVec 64) := (plN h).foldl putN f
def mayF (f : List (BitVec 64)) (h : BitVec 64) : Bool := (plN h).all (hasN f)
noncomputable def ofF (l : List (List (BitVec 8))) : List (BitVec 64) := l.foldl (fun f k => addF f (hash k)) [0#64, 0#64]
def bothF (f g : List (BitVec 64)) : List (BitVec 64) := [f.getD 0 0 ||| g.getD 0 0, f.getD 1 0 ||| g.getD 1 0]
theorem putN_len (f : List (BitVec 64)) (n : Nat) : (putN f n).length = f.length := by simp [putN]
theorem addF_len {f : List (BitVec 64)} (hf : f.length = 2) (h : BitVec 64) : (addF f h).length = 2 :=
  map_len_foldl (fun f : List (BitVec 64) => f.length = 2) putN (fun s a hs => by rw [putN_len]; exact hs) _ _ hf
theorem ofF_len (l : List (List (BitVec 8))) : (ofF l).length = 2 := map_len_foldl (fun f : List (BitVec 64) => f.length = 2) _ (fun s a hs => addF_len hs _) _ _ rfl
theorem ixF {f : List (BitVec 64)} (hf : f.length = 2) {n : Nat} (h : n < 128) : ixA 2 f ((n / 64 : Nat) : Int) = some (f.getD (n / 64) 0) := by
  rw [ixA_nat (by omega) (by omega), List.getD_eq_getElem?_getD, List.getElem?_eq_getElem (by omega)]; rfl
theorem May_eq {f : List (BitVec 64)} (hf : f.length = 2) (h : BitVec 64) : bloom_Filter_May f h = some (mayF f h) := by
  have hl : (plI h).length = 3 := rfl
  have hb : ∀ i : Nat, i < 3 → bloom_Filter_May_b0 f (plI h) (i : Int) = some (nx (if hasN f ((plN h).getD i 0) then none else some (Sum.inr false : Unit ⊕ Bool)) ((i + 1 : Nat) : Int)) := fun i hi => by
    have hn : (plN h).getD i 0 < 128 := by
      rw [List.getD_eq_getElem?_getD, List.getElem?_eq_getElem (show i < (plN h).length from hi)]
      exact plN_lt h _ (List.getElem_mem _)
    have hx : ixA 3 (plI h) (i : Int) = some (((plN h).getD i 0 : Nat) : Int) := by
      rw [ixA_nat hi (by rw [hl]; exact hi)]
      simp only [plI, List.getElem_map, List.getD_eq_getElem?_getD, List.getElem?_eq_getElem (show i < (plN h).length from hi), Option.getD_some]
    simp only [bloom_Filter_May_b0, lt_eq]
    rw [if_pos (by simpa using (by omega : (i : Int) < 3)), hx, Option.bind_some, shr6 hn, ixF hf hn, Option.bind_some, and63 hn, sc_eq (by omega), Option.map_some, Option.bind_some, w64_nat (by omega)]
    simp only [hasN, Int.toNat_natCast]
    by_cases hc : (f.getD ((plN h).getD i 0 / 64) 0 >>> ((plN h).getD i 0 % 64) &&& 1#64 == 0#64) = true
    · simp only [hc, if_true, Bool.not_true, Bool.false_eq_true, if_false, nx]
    · simp only [hc, if_false, Bool.not_eq_true _ ▸ hc]; simp [nx]
  have := loopO_find (body := bloom_Filter_May_b0 f (plI h)) (fun i => (i : Int)) 3 _ hb (x := .inl ()) (by simp [bloom_Filter_May_b0, lt_eq])
  simp only [bloom_Filter_May, bits_eq, Option.bind_some, bloom_Filter_May_l0]
  have e0 : (0 : Int) = ((0 : Nat) : Int) := rfl
  rw [e0, this]
  simp only [Option.bind_some, mayF]
  rw [show plN h = [(plN h).getD 0 0, (plN h).getD 1 0, (plN h).getD 2 0] from rfl]
  simp only [show List.range 3 = [0, 1, 2] from rfl, List.findSome?_cons, List.findSome?_nil, List.all_cons, List.all_nil, List.getD_cons_zero, List.getD_cons_succ]
  cases hasN f ((plN h).getD 0 0) <;> cases hasN f ((plN h).getD 1 0) <;> cases hasN f ((plN h).getD 2 0) <;> rfl
theorem Add_eq {f : List (BitVec 64)} (hf : f.length = 2) (h : BitVec 64) : bloom_Filter_Add f h = some (addF f h) := by
  have hl : (plI h).length = 3 := rfl
  have hb : ∀ i : Nat, i < 3 → ∀ s : List (BitVec 64), s.length = 2 → bloom_Filter_Add_b0 (plI h) (i : Int) s = some (.inl (((i + 1 : Nat) : Int), putN s ((plN h).getD i 0))) := fun i hi s hs => by
    have hn : (plN h).getD i 0 < 128 := by
      rw [List.getD_eq_getElem?_getD, List.getElem?_eq_getElem (show i < (plN h).length from hi)]
      exact plN_lt h _ (List.getElem_mem _)
    have hx : ixA 3 (plI h) (i : Int) = some (((plN h).getD i 0 : Nat) : Int) := by
      rw [ixA_nat hi (by rw [hl]; exact hi)]
      simp only [plI, List.getElem_map, List.getD_eq_getElem?_getD, List.getElem?_eq_getElem (show i < (plN h).length from hi), Option.getD_some]
    have hc : chk 2 (((plN h).getD i 0 / 64 : Nat) : Int) = some () := by unfold chk; rw [if_pos (by omega)]
    simp only [bloom_Filter_Add_b0, lt_eq]
    rw [if_pos (by simpa using (by omega : (i : Int) < 3)), hx, Option.bind_some, shr6 hn, hc, Option.bind_some, ixF hs hn, Option.bind_some, and63 hn, sc_eq (by omega), Option.map_some, Option.bind_some, w64_nat (by omega)]
    simp only [hc, Option.bind_some, updA, ixF hs hn, Option.map_some, Int.toNat_natCast, putN]
  have := loopO_up (body := fun s => bloom_Filter_Add_b0 (plI h) s.1 s.2) (fun i => ((i : Int), ((plN h).take i).foldl putN f)) 3 (x := addF f h) (fun i hi => by
    have hlen : (((plN h).take i).foldl putN f).length = 2 := map_len_foldl (fun f : List (BitVec 64) => f.length = 2) putN (fun s a hs => by rw [putN_len]; exact hs) _ _ hf
    simp only [hb i hi _ hlen]
    have hi' : i < (plN h).length := hi
    rw [List.take_succ_eq_append_getElem hi', List.foldl_append]
    simp [List.getD_eq_getElem?_getD, List.getElem?_eq_getElem hi']) (by
    simp only [bloom_Filter_Add_b0, lt_eq]
    rw [if_neg (by simp)]
    rfl)
  simp only [bloom_Filter_Add, bits_eq, Option.bind_some, bloom_Filter_Add_l0]
  have e0 : ((0 : Int), f) = ((((0 : Nat) : Int)), ((plN h).take 0).foldl putN f) := rfl
  rw [e0, this, Option.bind_some, whole_eq (addF_len hf h), Option.bind_some, stW_eq (by simp) (addF_len hf h), Option.bind_some, whole_eq (addF_len hf h), Option.bind_some]
theorem Of_eq (l : List (List (BitVec 8))) (hl : l.length ≤ 1000000) (hk : ∀ k ∈ l, k.length ≤ 1000000) : bloom_Of l = some (ofF l) := by
  have := loopO_up (body := fun s => bloom_Of_b0 l l.length s.1 s.2) (fun i => ((i : Int), (l.take i).foldl (fun f k => addF f (hash k)) [0#64, 0#64])) l.length (x := ofF l) (fun i hi => by
    have hlen := ofF_len (l.take i)
    simp only [ofF] at hlen
    simp only [bloom_Of_b0, lt_eq]
    rw [if_pos (by simpa using hi), ix_nat hi, Option.bind_some, whole_eq hlen, Option.bind_some, bloom_Hash_eq _ (hk _ (List.getElem_mem hi)), Option.bind_some, Add_eq hlen, Option.bind_some, stW_eq hlen (addF_len hlen _), Option.bind_some, w64_nat (by omega), List.take_succ_eq_append_getElem hi, List.foldl_append]
    rfl) (by
    simp only [bloom_Of_b0, lt_eq]
    rw [if_neg (by simp), List.take_length]; rfl)
  simp only [bloom_Of, lt_eq, bloom_Of_l0]
  have e0 : ((0 : Int), List.replicate 2 0#64) = ((((0 : Nat) : Int)), (l.take 0).foldl (fun f k => addF f (hash k)) [0#64, 0#64]) := rfl
  rw [e0, this, Option.bind_some, whole_eq (ofF_len l), Option.bind_some, stW_eq (by simp) (ofF_len l), Option.bind_some, whole_eq (ofF_len l), Option.bind_some]
end Go.Proofs.YtkmlinaofbcbaaaDoor
namespace Go.Proofs.YtkmlinaofbcbaaaDoor
open Go Go.Va
set_option linter.unusedVariables false
set_option linter.unusedSimpArgs false
/-- Pieces. -/
def sp (b : List (BitVec 8)) : Nat → Nat → List (List (BitVec 8))
  | 0, _ => []
  | k + 1, i => if i < b.length then ((b.take (min (i + 233) b.length)).drop i) :: sp b k (i + 233) else []
theorem sp_len {b : List (BitVec 8)} : ∀ (k i : Nat), (sp b k i).length ≤ k
  | 0, _ => Nat.le_refl _
  | k + 1, i => by
    rw [sp]
    split
    · have := sp_len (b := b) k (i + 233); simp only [List.length_cons]; omega
    · simp
theorem sp_join {b : List (BitVec 8)} : ∀ (k i : Nat), b.length ≤ k + i → (sp b k i).flatten = b.drop i
  | 0, i, h => by rw [List.drop_of_length_le (by omega)]; rfl
  | k + 1, i, h => by
    rw [sp]
    split
    · rename_i hi
      rw [List.flatten_cons, sp_join k (i + 233) (by omega), Nat.min_def]
      split
      · have := List.take_append_drop (i + 233) b
        conv => rhs; rw [← this]
        rw [List.drop_append_of_le_length (by rw [List.length_take]; omega)]
      · rw [List.take_of_length_le (Nat.le_refl _), List.drop_of_length_le (show b.length ≤ i + 233 by omega), List.append_nil]
    · rw [List.drop_of_length_le (by omega)]; rfl
theorem split_l {b : List (BitVec 8)} (hb : b.length ≤ 100000) : ∀ (k i : Nat) (acc : List (List (BitVec 8))), b.length ≤ k + i → acc.length + k ≤ 1000000 → i ≤ 1000000 → region_Split_l0 b (acc, (i : Int)) = some (acc ++ sp b k i) ∧ butteryref14_Split_l0 b (acc, (i : Int)) = some (acc ++ sp b k i)
  | 0, i, acc, h, h2, h3 => by
    rw [sp, List.append_nil]
    refine ⟨loopO_out (body := fun s => region_Split_b0 b s.1 s.2) ?_, loopO_out (body := fun s => butteryref14_Split_b0 b s.1 s.2) ?_⟩
    · simp only [region_Split_b0, lt_eq]
      rw [if_neg (by rw [decide_eq_false (by omega)]; simp)]
    · simp only [butteryref14_Split_b0, lt_eq]
      rw [if_neg (by rw [decide_eq_false (by omega)]; simp)]
  | k + 1, i, acc, h, h2, h3 => by
    rw [sp]
    by_cases hi : i < b.length
    · rw [if_pos hi]
      obtain ⟨i1, i2⟩ := split_l hb k (i + 233) (acc ++ [(b.take (min (i + 233) b.length)).drop i]) (by omega) (by simp; omega) (by omega)
      rw [List.append_assoc] at i1 i2
      have hw : w64 ((i : Int) + 233) = ((i + 233 : Nat) : Int) := by rw [w64_eq (by omega) (by omega)]; omega
      refine ⟨?_, ?_⟩
      · rw [← List.singleton_append, ← i1]
        refine loopO_in (body := fun s => region_Split_b0 b s.1 s.2) ?_
        simp only [region_Split_b0, lt_eq, hw]
        have hm : (if (b.length : Int) < ((i + 233 : Nat) : Int) then (b.length : Int) else ((i + 233 : Nat) : Int)) = ((min (i + 233) b.length : Nat) : Int) := by split <;> omega
        have hc : cut3 b (i : Int) ((min (i + 233) b.length : Nat) : Int) ((min (i + 233) b.length : Nat) : Int) = some ((b.take (min (i + 233) b.length)).drop i) := by
          unfold cut3; rw [if_pos (by omega)]; rfl
        rw [if_pos (decide_eq_true (by omega)), hm, hc]
        simp only [Option.bind_some]
        rw [app_eq (by simp; omega)]
        rfl
      · rw [← List.singleton_append, ← i2]
        refine loopO_in (body := fun s => butteryref14_Split_b0 b s.1 s.2) ?_
        simp only [butteryref14_Split_b0, lt_eq]
        rw [hw]
        have hm : (if decide (((i + 233 : Nat) : Int) > (b.length : Int)) = true then some (b.length : Int) else some ((i + 233 : Nat) : Int)) = some ((min (i + 233) b.length : Nat) : Int) := by
          by_cases hgt : ((i + 233 : Nat) : Int) > (b.length : Int)
          · rw [if_pos (decide_eq_true hgt)]; congr 1; omega
          · rw [if_neg (by simpa using hgt)]; congr 1; omega
        have hc : cutO b (i : Int) ((min (i + 233) b.length : Nat) : Int) = some ((b.take (min (i + 233) b.length)).drop i) := by
          unfold cutO; rw [if_pos (by omega)]; rfl
        rw [if_pos (decide_eq_true (by omega)), hm]
        simp only [Option.bind_some, hc]
        rw [app_eq (by simp; omega)]
        rfl
    · rw [if_neg hi, List.append_nil]
      refine ⟨loopO_out (body := fun s => region_Split_b0 b s.1 s.2) ?_, loopO_out (body := fun s => butteryref14_Split_b0 b s.1 s.2) ?_⟩
      · simp only [region_Split_b0, lt_eq]
        rw [if_neg (by rw [decide_eq_false (by omega)]; simp)]
      · simp only [butteryref14_Split_b0, lt_eq]
        rw [if_neg (by rw [decide_eq_false (by omega)]; simp)]
theorem split_eq {b : List (BitVec 8)} (hb : b.length ≤ 100000) : region_Split b = some (sp b b.length 0) := by
  have h := (split_l hb b.length 0 [] (by omega) (by simp; omega) (by omega)).1
  have h' : region_Split_l0 b ([], 0) = some ([] ++ sp b b.length 0) := h
  unfold region_Split
  simp only [h', Option.bind_some, List.nil_append]
theorem refSplit_eq {b : List (BitVec 8)} (hb : b.length ≤ 100000) : butteryref14_Split b = some (sp b b.length 0) := by
  have h := (split_l hb b.length 0 [] (by omega) (by simp; omega) (by omega)).2
  have h' : butteryref14_Split_l0 b ([], 0) = some ([] ++ sp b b.length 0) := h
  unfold butteryref14_Split
  simp only [h', Option.bind_some, List.nil_append]
theorem flat_take_len {p : List (List (BitVec 8))} (i : Nat) : (p.take i).flatten.length ≤ p.flatten.length := by
  have e : p.flatten = (p.take i).flatten ++ (p.drop i).flatten := by rw [← List.flatten_append, List.take_append_drop]
  rw [e, List.length_append]; omega
theorem flat_take_succ {p : List (List (BitVec 8))} {i : Nat} (hi : i < p.length) : (p.take (i + 1)).flatten = (p.take i).flatten ++ p[i] := by
  rw [List.take_add_one, List.getElem?_eq_getElem hi, List.flatten_append]; simp
theorem whole_l (x : api_Foot) {p : List (List (BitVec 8))} (hp : p.length ≤ 1000000) (hf : p.flatten.length ≤ 1000000) : region_Whole_l0 x p (p.length : Int) ([], 0) = some p.flatten := by
  have k := loopO_up (body := fun s => region_Whole_b0 x p (p.length : Int) s.1 s.2) (fun i : Nat => ((p.take i).flatten, (i : Int))) p.length (x := p.flatten) (fun i hi => by
    simp only [region_Whole_b0, lt_eq]
    have h1 := flat_take_len (p := p) i
    have h2 := flat_take_len (p := p) (i + 1)
    rw [flat_take_succ hi, List.length_append] at h2
    rw [if_pos (decide_eq_true (by omega)), ix_nat hi]
    simp only [Option.bind_some]
    rw [app_eq (by omega)]
    simp only [Option.bind_some]
    rw [w64_nat (by omega), flat_take_succ hi]) (by
    simp only [region_Whole_b0, lt_eq, List.take_length]
    rw [if_neg (by simp)])
  exact k
theorem take_l (f : Int) (m : api_Mark) {p : List (List (BitVec 8))} (hp : p.length ≤ 1000000) (hf : p.flatten.length ≤ 1000000) : region_Take_l0 p f m (p.length : Int) ([], 0) = some p.flatten := by
  have k := loopO_up (body := fun s => region_Take_b0 p f m (p.length : Int) s.1 s.2) (fun i : Nat => ((p.take i).flatten, (i : Int))) p.length (x := p.flatten) (fun i hi => by
    simp only [region_Take_b0, lt_eq]
    have h1 := flat_take_len (p := p) i
    have h2 := flat_take_len (p := p) (i + 1)
    rw [flat_take_succ hi, List.length_append] at h2
    rw [if_pos (decide_eq_true (by omega)), ix_nat hi]
    simp only [Option.bind_some]
    rw [app_eq (by omega)]
    simp only [Option.bind_some]
    rw [w64_nat (by omega), flat_take_succ hi]) (by
    simp only [region_Take_b0, lt_eq, List.take_length]
    rw [if_neg (by simp)])
  exact k
theorem join_eq {p : List (List (BitVec 8))} (hp : p.length ≤ 1000000) (hf : p.flatten.length ≤ 1000000) : butteryref14_Join p = some p.flatten := by
  have k := loopO_up (body := fun s => butteryref14_Join_b0 p s.1 s.2) (fun i : Nat => ((p.take i).flatten, (i : Int))) p.length (x := p.flatten) (fun i hi => by
    simp only [butteryref14_Join_b0, lt_eq]
    have h1 := flat_take_len (p := p) i
    have h2 := flat_take_len (p := p) (i + 1)
    rw [flat_take_succ hi, List.length_append] at h2
    rw [if_pos (decide_eq_true (by omega)), ix_nat hi]
    simp only [Option.bind_some]
    rw [app_eq (by omega)]
    simp only [Option.bind_some]
    rw [w64_nat (by omega), flat_take_succ hi]) (by
    simp only [butteryref14_Join_b0, lt_eq, List.take_length]
    rw [if_neg (by simp)])
  have k' : butteryref14_Join_l0 p ([], 0) = some p.flatten := k
  unfold butteryref14_Join
  simp only [k', Option.bind_some]
/-- Both read the same things, or tell the same fault. -/
theorem reads_both {b : List (BitVec 8)} (hb : b.length ≤ 900000) : ∃ r e c, item_Read b = some (r, e) ∧ butteryref06_Read b = some (r, c) ∧ codeOf e = c ∧ e.isNil = decide (c = 0) ∧ (c = 0 → rdE b (b.length + 1) 0 = .inl r) ∧ r.length ≤ 1000000 ∧ ∀ x ∈ r, x.Value.length < 9223372036854775807 := by
  cases hr : rdE b (b.length + 1) 0 with
  | inl r => exact ⟨r, .nil, 0, (read_eq6 hb).1 r hr, (refRead_eq6 hb).1 r hr, rfl, rfl, fun _ => rfl, by have := rdE_len hr; omega, fun x hx => by have := rdE_val (by omega) hr x hx; omega⟩
  | inr c =>
    obtain ⟨e, e1, e2, e3⟩ := (read_eq6 (b := b) hb).2 c hr
    have hc := rdE_ne hr
    exact ⟨[], e, c, e1, (refRead_eq6 hb).2 c hr, e2, by rw [e3]; simp [hc], fun h => absurd h hc, by simp, by simp⟩
theorem whole_both (x : api_Foot) {p : List (List (BitVec 8))} (hp : p.length ≤ 1000000) (hf : p.flatten.length ≤ 900000) : ∃ r e c, region_Whole x p = some (r, e) ∧ butteryref14_Whole x p = some (r, c) ∧ codeOf e = c ∧ e.isNil = decide (c = 0) ∧ r.length ≤ 1000000 ∧ (∀ x ∈ r, x.Value.length < 9223372036854775807) ∧ (∀ l, rdE p.flatten (p.flatten.length + 1) 0 = .inl l → (p.flatten.length : Int) = x.Bytes → (l.length : Int) = x.Count → r = l ∧ e = .nil) := by
  obtain ⟨r, e, c, r1, r2, r3, r4, r5, r6, r7⟩ := reads_both hf
  unfold region_Whole butteryref14_Whole
  simp only [lt_eq, whole_l x hp (by omega), join_eq hp (by omega), Option.bind_some]
  generalize p.flatten = F at *
  by_cases hb : (F.length : Int) = x.Bytes
  · have hb2 : ((F.length : Int) != x.Bytes) = false := by simpa using hb
    simp only [hb2, Bool.false_eq_true, if_false, r1, r2, Option.bind_some, r4]
    by_cases hc : c = 0
    · subst hc
      have hq : (!decide ((0 : Int) = 0)) = false := rfl
      have hq2 : ((0 : Int) != 0) = false := rfl
      simp only [hq, hq2, Bool.false_eq_true, if_false]
      by_cases hl : (r.length : Int) = x.Count
      · have hl2 : ((r.length : Int) != x.Count) = false := by simpa using hl
        simp only [hl2, Bool.false_eq_true, if_false]
        refine ⟨r, .nil, 0, rfl, rfl, rfl, rfl, r6, r7, fun l h1 _ _ => ?_⟩
        have := r5 rfl
        rw [h1] at this
        exact ⟨(Sum.inl.inj this).symm, rfl⟩
      · have hl2 : ((r.length : Int) != x.Count) = true := by simpa using hl
        simp only [hl2, if_true]
        rw [new_eq _ _ _ (by decide)]
        refine ⟨[], _, 5, rfl, rfl, rfl, rfl, by simp, by simp, fun l h1 _ h3 => ?_⟩
        have := r5 rfl
        rw [h1] at this
        obtain rfl := Sum.inl.inj this
        exact absurd h3 hl
    · have hq : (!decide (c = 0)) = true := by simpa using hc
      have hq2 : (c != 0) = true := by simpa using hc
      simp only [hq, hq2, if_true]
      rw [wrap_eq _ _ _ (by rw [r4]; simpa using hc)]
      refine ⟨[], _, c, rfl, rfl, by simp only [codeOf, r3, if_true], by simp [Err.isNil, hc], by simp, by simp, fun l h1 _ _ => ?_⟩
      have := (read_eq6 hf).1 l h1
      rw [r1] at this
      have h2 := (Prod.mk.inj (Option.some.inj this)).2
      rw [h2] at r3
      exact absurd r3.symm hc
  · have hb2 : ((F.length : Int) != x.Bytes) = true := by simpa using hb
    simp only [hb2, if_true]
    rw [new_eq _ _ _ (by decide)]
    exact ⟨[], _, 6, rfl, rfl, rfl, rfl, by simp, by simp, fun l _ h2 _ => absurd h2 hb⟩
/-! ### marks -/
noncomputable def mkM (l : List api_Entry) (i : Nat) : api_Mark := ⟨hash (l.getD i zeroE).Key, (((l.take i).flatMap encE).length : Nat), (encE (l.getD i zeroE)).length⟩
noncomputable def marksE (l : List api_Entry) (n : Nat) : List api_Mark := (List.range n).map (mkM l)
theorem marks_succ (l : List api_Entry) (i : Nat) : marksE l (i + 1) = marksE l i ++ [mkM l i] := by simp [marksE, List.range_succ]
theorem take_enc {l : List api_Entry} {i : Nat} (hi : i < l.length) : (l.take (i + 1)).flatMap encE = (l.take i).flatMap encE ++ encE l[i] := by
  rw [List.take_add_one, List.getElem?_eq_getElem hi, List.flatMap_append]; simp
theorem getD_e {l : List api_Entry} {i : Nat} (hi : i < l.length) : l.getD i zeroE = l[i] := by
  rw [List.getD_eq_getElem?_getD, List.getElem?_eq_getElem hi]; rfl
theorem marks_eq {l : List api_Entry} (hl : l.length ≤ 200) (h : ∀ x ∈ l, ckE x = 0) : region_Marks l = some (marksE l l.length) := by
  have k := loopO_up (body := fun s => region_Marks_b0 l (l.length : Int) s.1 s.2.1 s.2.2) (fun i : Nat => (marksE l i, ((((l.take i).flatMap encE).length : Nat) : Int), (i : Int))) l.length (x := marksE l l.length) (fun i hi => by
    have hc := h _ (List.getElem_mem hi)
    have hk := (ck_ok hc).2.1
    have hn := encE_len hc
    have ht := all_len (l := l.take i) (fun x hx => h x (List.mem_of_mem_take hx))
    rw [List.length_take] at ht
    simp only [region_Marks_b0, lt_eq]
    rw [if_pos (decide_eq_true (by omega)), ix_nat hi]
    simp only [Option.bind_some]
    rw [size_eq6 hc]
    simp only [Option.bind_some]
    rw [bloom_Hash_eq _ (by omega)]
    simp only [Option.bind_some]
    rw [app_eq (by simp [marksE]; omega)]
    simp only [Option.bind_some]
    rw [w64_nat (by omega), w64_eq (by omega) (by omega), marks_succ, take_enc hi, List.length_append, mkM, getD_e hi]
    simp) (by
    simp only [region_Marks_b0, lt_eq]
    rw [if_neg (by simp)])
  have k' : region_Marks_l0 l (l.length : Int) ([], 0, 0) = some (marksE l l.length) := by
    unfold region_Marks_l0
    simpa [marksE] using k
  unfold region_Marks
  simp only [lt_eq, k', Option.bind_some]
theorem refMarks_eq {l : List api_Entry} (hl : l.length ≤ 200) (h : ∀ x ∈ l, ckE x = 0) : butteryref14_Marks l = some (marksE l l.length) := by
  have k := loopO_up (body := fun s => butteryref14_Marks_b0 l s.1 s.2) (fun i : Nat => (marksE l i, (i : Int))) l.length (x := marksE l l.length) (fun i hi => by
    have hc := h _ (List.getElem_mem hi)
    have hk := (ck_ok hc).2.1
    simp only [butteryref14_Marks_b0, lt_eq]
    rw [if_pos (decide_eq_true (by omega)), ix_nat hi]
    simp only [Option.bind_some]
    rw [refHash_eq _ (by omega), cutTo_eq (by omega)]
    simp only [Option.bind_some]
    rw [refAll_eq6 (by rw [List.length_take]; omega) (fun x hx => h x (List.mem_of_mem_take hx))]
    simp only [Option.bind_some]
    rw [refSize_eq6 hc]
    simp only [Option.bind_some]
    rw [app_eq (by simp [marksE]; omega)]
    simp only [Option.bind_some]
    rw [w64_nat (by omega), marks_succ, mkM, getD_e hi]) (by
    simp only [butteryref14_Marks_b0, lt_eq]
    rw [if_neg (by simp)])
  have k' : butteryref14_Marks_l0 l ([], 0) = some (marksE l l.length) := by
    unfold butteryref14_Marks_l0
    simpa [marksE] using k
  unfold butteryref14_Marks
  simp only [k', Option.bind_some]
theorem ints_refl {l : List Int} (hl : l.length ≤ 1000000) : butteryref02_Ints l l = some true := by
  have k := loopO_up (body := fun s => butteryref02_Ints_b0 l l s) (fun i : Nat => (i : Int)) l.length (x := .inl ()) (fun i hi => by
    simp only [butteryref02_Ints_b0, lt_eq]
    rw [if_pos (decide_eq_true (by omega)), ix_nat hi]
    simp only [Option.bind_some, bne_self_eq_false, Bool.false_eq_true, if_false]
    rw [w64_nat (by omega)]) (by
    simp only [butteryref02_Ints_b0, lt_eq]
    rw [if_neg (by simp)])
  have k' : butteryref02_Ints_l0 l l 0 = some (.inl ()) := k
  unfold butteryref02_Ints
  simp only [lt_eq, bne_self_eq_false, Bool.false_eq_true, if_false, k', Option.bind_some, Sum.elim_inl]
theorem same_refl14 (x : api_Foot) (hd : x.Dead.length ≤ 1000000) : butteryref14_Same x x = some true := by
  unfold butteryref14_Same
  simp only [lt_eq, beq_self_eq_true, if_true, ints_refl hd, Option.bind_some]
def eOne : api_Entry := ⟨[107#8], 3, 5, 9, [97#8, 98#8]⟩
theorem isNil_nil14 : Err.isNil .nil = true := rfl
theorem works14 : butterylaw14_works = some true := by
  have hx : fkE ⟨3, 8, 1, [0]⟩ = 0 := by decide
  have hbad : fkE ⟨3, 0, 1, [1]⟩ = 1 := by decide
  have p1 := (put_eq14 ⟨3, 8, 1, [0]⟩ (by simp)).1 hx
  have hfl : (ftE ⟨3, 8, 1, [0]⟩).length ≤ 100000 := by
    unfold ftE
    have k1 := num7_len (n := 3) (by omega)
    have k2 := num7_len (n := 8) (by omega)
    have k3 := num7_len (n := 1) (by omega)
    have k4 := num7_len (n := 0) (by omega)
    simp; omega
  obtain ⟨e1, g1, g2, g3⟩ := get_eq14 hfl
  rw [fg_ft hx] at g1 g2 g3
  obtain ⟨e2, q1, q2, q3⟩ := (put_eq14 ⟨3, 0, 1, [1]⟩ (by simp)).2 (by rw [hbad]; decide)
  rw [hbad] at q2
  have hc : ckE eOne = 0 := by decide
  have hall : ∀ x ∈ [eOne], ckE x = 0 := by intro x hx; simp at hx; subst hx; exact hc
  have ha := all_eq6 (l := [eOne]) (by simp) hall
  have hen : [eOne].flatMap encE = [1#8, 107#8, 3#8, 5#8, 9#8, 2#8, 97#8, 98#8] := by
    unfold eOne
    simp only [List.flatMap_cons, List.flatMap_nil, List.append_nil]
    unfold encE
    rw [num7_small (by simp), num7_small (by decide), num7_small (by decide), num7_small (by decide), num7_small (by simp)]
    rfl
  have hrd : rdE ([eOne].flatMap encE) (([eOne].flatMap encE).length + 1) 0 = .inl [eOne] := rdE_is (by omega) (by omega) (by simp) hall
  have hread := (read_eq6 (b := [eOne].flatMap encE) (by rw [hen]; simp)).1 _ hrd
  rw [hen] at ha hrd hread
  generalize hB : ([1#8, 107#8, 3#8, 5#8, 9#8, 2#8, 97#8, 98#8] : List (BitVec 8)) = B at *
  have hBl : B.length = 8 := by rw [← hB]; rfl
  have hsp := split_eq (b := B) (by omega)
  have hj := sp_join (b := B) B.length 0 (by omega)
  rw [List.drop_zero] at hj
  have hsl := sp_len (b := B) B.length 0
  generalize hP : sp B B.length 0 = P at *
  obtain ⟨r, e, c, w1, w2, w3, w4, w5, w6, w7⟩ := whole_both ⟨3, 8, 1, [0]⟩ (p := P) (by omega) (by rw [hj]; omega)
  rw [hj] at w7
  obtain ⟨rfl, rfl⟩ := w7 [eOne] hrd (by rw [hBl]; rfl) rfl
  have hm := marks_eq (l := [eOne]) (by simp) hall
  have hm1 : marksE [eOne] [eOne].length = [⟨hash [107#8], 0, 8⟩] := by
    have : (encE eOne).length = 8 := by
      have h5 := congrArg List.length hen
      rw [hBl] at h5
      simpa using h5
    simp [marksE, mkM, List.range, List.range.loop, this]
    simp [eOne]
  rw [hm1] at hm
  have ht : region_Take P 0 ⟨hash [107#8], 0, 8⟩ = some (eOne, .nil) := by
    unfold region_Take
    simp only [lt_eq, take_l _ _ (p := P) (by omega) (by rw [hj]; omega), Option.bind_some, hj]
    rw [w64_eq (n := (0 : Int) * 233) (by decide) (by decide), w64_eq (n := (0 : Int) - 0 * 233) (by decide) (by decide)]
    have e1 : w64 ((B.length : Int) - (0 - 0 * 233)) = 8 := by rw [hBl]; rfl
    have e2 : w64 ((0 : Int) - 0 * 233 + 8) = 8 := rfl
    have e3 : cutO B ((0 : Int) - 0 * 233) 8 = some B := by
      unfold cutO
      rw [if_pos (by rw [hBl]; decide)]
      have : B.take (8 : Int).toNat = B := List.take_of_length_le (by rw [hBl]; decide)
      rw [this]; rfl
    simp only [e1, e2, e3, Option.bind_some, hread]
    rw [hBl]
    rfl
  obtain ⟨e0, c1, c2, c3⟩ := check_eq14 ⟨3, 8, 1, [0]⟩ (by simp)
  have hs := sameAll_refl (l := [eOne]) (by simp) (by simp [eOne])
  have hcap : region_Cap 5 = some 932 := rfl
  have hspan : region_Span ⟨0#64, 232, 2⟩ = some (0, 1) := rfl
  unfold butterylaw14_works
  have he1 : (⟨[107#8], 3, 5, 9, [97#8, 98#8]⟩ : api_Entry) = eOne := rfl
  simp only [lt_eq, p1, g1, q1, he1, ha, hsp, w1, hm, Option.bind_some]
  rw [if_neg (by simp), show (ix [(⟨hash [107#8], 0, 8⟩ : api_Mark)] 0) = some ⟨hash [107#8], 0, 8⟩ from rfl]
  simp only [Option.bind_some, ht, hspan, g3, same_refl14 ⟨3, 8, 1, [0]⟩ (by simp), trouble_Of, q2, hs, hcap, c1, c3, hx, isNil_nil14, decide_true, if_true, beq_self_eq_true]
  rw [show (ix [eOne] 0) = some eOne from rfl]
  simp only [Option.bind_some, isame_eq6, decide_true, if_true]
end Go.Proofs.YtkmlinaofbcbaaaDoor
namespace Go.Proofs.YtkmlinaofbcbaaaDoor
open Go Go.Va
set_option linter.unusedSimpArgs false
set_option linter.unusedVariables false
def wf_runtime_boundsError (x : runtime_boundsError) : Prop := (wfI .i64) x.x ∧ (wfI .i64) x.y ∧ wfT x.signed ∧ wfT x.code
theorem opens7 : Opens Tryd.prog 7 e_runtime_boundsError wf_runtime_boundsError := by
  intro H enc w fuel cs x hx
  obtain ⟨xs, m, _, _, hl, hn, hx⟩ := DataW.trod_struct Tryd.underlying7 hx
  rw [cellsOf_sz tk sz7 (by decide)] at hl
  obtain ⟨y0, w0, r0, o0⟩ := opens_f hx hn 0 (o := 0) (s := 1) rfl (opens_i64 Tryd.underlying2) rfl (cellsOf_sz tk sz2 (by decide))
  obtain ⟨y1, w1, r1, o1⟩ := opens_f hx hn 1 (o := 1) (s := 1) rfl (opens_i64 Tryd.underlying3) rfl (cellsOf_sz tk sz3 (by decide))
  obtain ⟨y2, w2, r2, o2⟩ := opens_f hx hn 2 (o := 2) (s := 1) rfl (opens_b Tryd.underlying4) rfl (cellsOf_sz tk sz4 (by decide))
  obtain ⟨y3, w3, r3, o3⟩ := opens_f hx hn 3 (o := 3) (s := 1) rfl (opens_u rfl rfl Tryd.underlying6) rfl (cellsOf_sz tk sz6 (by decide))
  refine ⟨⟨y0, y1, y2, y3⟩, ⟨w0, w1, w2, w3⟩, ?_, ?_⟩
  · have h := (rel_piece r0 (rel_piece r1 (rel_piece r2 (rel_piece r3 (rel_end hl)))))
    rw [List.drop_zero] at h
    first | exact h | (simp only [List.append_nil, List.append_assoc] at h ⊢; exact h) | (simpa [AV.cells, e_runtime_boundsError, c_runtime_boundsError] using h)
  · have h := (one_piece o0 (one_piece o1 (one_piece o2 (one_piece o3 (one_end hl)))))
    rw [List.drop_zero] at h
    exact h
theorem opens8 : Opens Tryd.prog 8 e_runtime_boundsError wf_runtime_boundsError := by
  intro H enc w fuel cs x hx
  obtain ⟨xs, m, _, _, hl, hn, hx⟩ := DataW.trod_struct Tryd.underlying8 hx
  rw [cellsOf_sz tk sz8 (by decide)] at hl
  obtain ⟨y0, w0, r0, o0⟩ := opens_f hx hn 0 (o := 0) (s := 1) rfl (opens_i64 Tryd.underlying2) rfl (cellsOf_sz tk sz2 (by decide))
  obtain ⟨y1, w1, r1, o1⟩ := opens_f hx hn 1 (o := 1) (s := 1) rfl (opens_i64 Tryd.underlying3) rfl (cellsOf_sz tk sz3 (by decide))
  obtain ⟨y2, w2, r2, o2⟩ := opens_f hx hn 2 (o := 2) (s := 1) rfl (opens_b Tryd.underlying4) rfl (cellsOf_sz tk sz4 (by decide))
  obtain ⟨y3, w3, r3, o3⟩ := opens_f hx hn 3 (o := 3) (s := 1) rfl (opens_u rfl rfl Tryd.underlying6) rfl (cellsOf_sz tk sz6 (by decide))
  refine ⟨⟨y0, y1, y2, y3⟩, ⟨w0, w1, w2, w3⟩, ?_, ?_⟩
  · have h := (rel_piece r0 (rel_piece r1 (rel_piece r2 (rel_piece r3 (rel_end hl)))))
    rw [List.drop_zero] at h
    first | exact h | (simp only [List.append_nil, List.append_assoc] at h ⊢; exact h) | (simpa [AV.cells, e_runtime_boundsError, c_runtime_boundsError] using h)
  · have h := (one_piece o0 (one_piece o1 (one_piece o2 (one_piece o3 (one_end hl)))))
    rw [List.drop_zero] at h
    exact h
def wf_runtime_errorAddressString (x : runtime_errorAddressString) : Prop := wfS x.msg ∧ wfT x.addr
theorem opens13 : Opens Tryd.prog 13 e_runtime_errorAddressString wf_runtime_errorAddressString := by
  intro H enc w fuel cs x hx
  obtain ⟨xs, m, _, _, hl, hn, hx⟩ := DataW.trod_struct Tryd.underlying13 hx
  rw [cellsOf_sz tk sz13 (by decide)] at hl
  obtain ⟨y0, w0, r0, o0⟩ := opens_f hx hn 0 (o := 0) (s := 1) rfl (opens_s Tryd.underlying9) rfl (cellsOf_sz tk sz9 (by decide))
  obtain ⟨y1, w1, r1, o1⟩ := opens_f hx hn 1 (o := 1) (s := 1) rfl (opens_u rfl rfl Tryd.underlying12) rfl (cellsOf_sz tk sz12 (by decide))
  refine ⟨⟨y0, y1⟩, ⟨w0, w1⟩, ?_, ?_⟩
  · have h := (rel_piece r0 (rel_piece r1 (rel_end hl)))
    rw [List.drop_zero] at h
    first | exact h | (simp only [List.append_nil, List.append_assoc] at h ⊢; exact h) | (simpa [AV.cells, e_runtime_errorAddressString, c_runtime_errorAddressString] using h)
  · have h := (one_piece o0 (one_piece o1 (one_end hl)))
    rw [List.drop_zero] at h
    exact h
theorem opens14 : Opens Tryd.prog 14 e_runtime_errorAddressString wf_runtime_errorAddressString := by
  intro H enc w fuel cs x hx
  obtain ⟨xs, m, _, _, hl, hn, hx⟩ := DataW.trod_struct Tryd.underlying14 hx
  rw [cellsOf_sz tk sz14 (by decide)] at hl
  obtain ⟨y0, w0, r0, o0⟩ := opens_f hx hn 0 (o := 0) (s := 1) rfl (opens_s Tryd.underlying9) rfl (cellsOf_sz tk sz9 (by decide))
  obtain ⟨y1, w1, r1, o1⟩ := opens_f hx hn 1 (o := 1) (s := 1) rfl (opens_u rfl rfl Tryd.underlying12) rfl (cellsOf_sz tk sz12 (by decide))
  refine ⟨⟨y0, y1⟩, ⟨w0, w1⟩, ?_, ?_⟩
  · have h := (rel_piece r0 (rel_piece r1 (rel_end hl)))
    rw [List.drop_zero] at h
    first | exact h | (simp only [List.append_nil, List.append_assoc] at h ⊢; exact h) | (simpa [AV.cells, e_runtime_errorAddressString, c_runtime_errorAddressString] using h)
  · have h := (one_piece o0 (one_piece o1 (one_end hl)))
    rw [List.drop_zero] at h
    exact h
def wf_api_Entry (x : api_Entry) : Prop := wfS x.Key ∧ (wfI .i64) x.Version ∧ (wfI .i64) x.AsOf ∧ (wfI .i64) x.Ends ∧ (wfL wfT) x.Value
theorem opens23 : Opens Tryd.prog 23 e_api_Entry wf_api_Entry := by
  intro H enc w fuel cs x hx
  obtain ⟨xs, m, _, _, hl, hn, hx⟩ := DataW.trod_struct Tryd.underlying23 hx
  rw [cellsOf_sz tk sz23 (by decide)] at hl
  obtain ⟨y0, w0, r0, o0⟩ := opens_f hx hn 0 (o := 0) (s := 1) rfl (opens_s Tryd.underlying9) rfl (cellsOf_sz tk sz9 (by decide))
  obtain ⟨y1, w1, r1, o1⟩ := opens_f hx hn 1 (o := 1) (s := 1) rfl (opens_i64 Tryd.underlying3) rfl (cellsOf_sz tk sz3 (by decide))
  obtain ⟨y2, w2, r2, o2⟩ := opens_f hx hn 2 (o := 2) (s := 1) rfl (opens_i64 Tryd.underlying3) rfl (cellsOf_sz tk sz3 (by decide))
  obtain ⟨y3, w3, r3, o3⟩ := opens_f hx hn 3 (o := 3) (s := 1) rfl (opens_i64 Tryd.underlying3) rfl (cellsOf_sz tk sz3 (by decide))
  obtain ⟨y4, w4, r4, o4⟩ := opens_f hx hn 4 (o := 4) (s := 1) rfl (opens_l tk Tryd.underlying22 (enc_u td5 sz5) (opens_u rfl rfl Tryd.underlying5)) rfl (cellsOf_sz tk sz22 (by decide))
  refine ⟨⟨y0, y1, y2, y3, y4⟩, ⟨w0, w1, w2, w3, w4⟩, ?_, ?_⟩
  · have h := (rel_piece r0 (rel_piece r1 (rel_piece r2 (rel_piece r3 (rel_piece r4 (rel_end hl))))))
    rw [List.drop_zero] at h
    first | exact h | (simp only [List.append_nil, List.append_assoc] at h ⊢; exact h) | (simpa [AV.cells, e_api_Entry, c_api_Entry] using h)
  · have h := (one_piece o0 (one_piece o1 (one_piece o2 (one_piece o3 (one_piece o4 (one_end hl))))))
    rw [List.drop_zero] at h
    exact h
theorem opens24 : Opens Tryd.prog 24 e_api_Entry wf_api_Entry := by
  intro H enc w fuel cs x hx
  obtain ⟨xs, m, _, _, hl, hn, hx⟩ := DataW.trod_struct Tryd.underlying24 hx
  rw [cellsOf_sz tk sz24 (by decide)] at hl
  obtain ⟨y0, w0, r0, o0⟩ := opens_f hx hn 0 (o := 0) (s := 1) rfl (opens_s Tryd.underlying9) rfl (cellsOf_sz tk sz9 (by decide))
  obtain ⟨y1, w1, r1, o1⟩ := opens_f hx hn 1 (o := 1) (s := 1) rfl (opens_i64 Tryd.underlying3) rfl (cellsOf_sz tk sz3 (by decide))
  obtain ⟨y2, w2, r2, o2⟩ := opens_f hx hn 2 (o := 2) (s := 1) rfl (opens_i64 Tryd.underlying3) rfl (cellsOf_sz tk sz3 (by decide))
  obtain ⟨y3, w3, r3, o3⟩ := opens_f hx hn 3 (o := 3) (s := 1) rfl (opens_i64 Tryd.underlying3) rfl (cellsOf_sz tk sz3 (by decide))
  obtain ⟨y4, w4, r4, o4⟩ := opens_f hx hn 4 (o := 4) (s := 1) rfl (opens_l tk Tryd.underlying22 (enc_u td5 sz5) (opens_u rfl rfl Tryd.underlying5)) rfl (cellsOf_sz tk sz22 (by decide))
  refine ⟨⟨y0, y1, y2, y3, y4⟩, ⟨w0, w1, w2, w3, w4⟩, ?_, ?_⟩
  · have h := (rel_piece r0 (rel_piece r1 (rel_piece r2 (rel_piece r3 (rel_piece r4 (rel_end hl))))))
    rw [List.drop_zero] at h
    first | exact h | (simp only [List.append_nil, List.append_assoc] at h ⊢; exact h) | (simpa [AV.cells, e_api_Entry, c_api_Entry] using h)
  · have h := (one_piece o0 (one_piece o1 (one_piece o2 (one_piece o3 (one_piece o4 (one_end hl))))))
    rw [List.drop_zero] at h
    exact h
def wf_api_Msg (x : api_Msg) : Prop := (wfI .i64) x.Kind ∧ (wfI .i64) x.From ∧ (wfI .i64) x.To ∧ (wfI .i64) x.Epoch ∧ (wfI .i64) x.Id ∧ wf_api_Entry x.X ∧ wfT x.Found
theorem opens25 : Opens Tryd.prog 25 e_api_Msg wf_api_Msg := by
  intro H enc w fuel cs x hx
  obtain ⟨xs, m, _, _, hl, hn, hx⟩ := DataW.trod_struct Tryd.underlying25 hx
  rw [cellsOf_sz tk sz25 (by decide)] at hl
  obtain ⟨y0, w0, r0, o0⟩ := opens_f hx hn 0 (o := 0) (s := 1) rfl (opens_i64 Tryd.underlying3) rfl (cellsOf_sz tk sz3 (by decide))
  obtain ⟨y1, w1, r1, o1⟩ := opens_f hx hn 1 (o := 1) (s := 1) rfl (opens_i64 Tryd.underlying3) rfl (cellsOf_sz tk sz3 (by decide))
  obtain ⟨y2, w2, r2, o2⟩ := opens_f hx hn 2 (o := 2) (s := 1) rfl (opens_i64 Tryd.underlying3) rfl (cellsOf_sz tk sz3 (by decide))
  obtain ⟨y3, w3, r3, o3⟩ := opens_f hx hn 3 (o := 3) (s := 1) rfl (opens_i64 Tryd.underlying3) rfl (cellsOf_sz tk sz3 (by decide))
  obtain ⟨y4, w4, r4, o4⟩ := opens_f hx hn 4 (o := 4) (s := 1) rfl (opens_i64 Tryd.underlying3) rfl (cellsOf_sz tk sz3 (by decide))
  obtain ⟨y5, w5, r5, o5⟩ := opens_f hx hn 5 (o := 5) (s := 5) rfl opens24 rfl (cellsOf_sz tk sz24 (by decide))
  obtain ⟨y6, w6, r6, o6⟩ := opens_f hx hn 6 (o := 10) (s := 1) rfl (opens_b Tryd.underlying4) rfl (cellsOf_sz tk sz4 (by decide))
  refine ⟨⟨y0, y1, y2, y3, y4, y5, y6⟩, ⟨w0, w1, w2, w3, w4, w5, w6⟩, ?_, ?_⟩
  · have h := (rel_piece r0 (rel_piece r1 (rel_piece r2 (rel_piece r3 (rel_piece r4 (rel_piece r5 (rel_piece r6 (rel_end hl))))))))
    rw [List.drop_zero] at h
    first | exact h | (simp only [List.append_nil, List.append_assoc] at h ⊢; exact h) | (simpa [AV.cells, e_api_Msg, c_api_Msg] using h)
  · have h := (one_piece o0 (one_piece o1 (one_piece o2 (one_piece o3 (one_piece o4 (one_piece o5 (one_piece o6 (one_end hl))))))))
    rw [List.drop_zero] at h
    exact h
theorem opens26 : Opens Tryd.prog 26 e_api_Msg wf_api_Msg := by
  intro H enc w fuel cs x hx
  obtain ⟨xs, m, _, _, hl, hn, hx⟩ := DataW.trod_struct Tryd.underlying26 hx
  rw [cellsOf_sz tk sz26 (by decide)] at hl
  obtain ⟨y0, w0, r0, o0⟩ := opens_f hx hn 0 (o := 0) (s := 1) rfl (opens_i64 Tryd.underlying3) rfl (cellsOf_sz tk sz3 (by decide))
  obtain ⟨y1, w1, r1, o1⟩ := opens_f hx hn 1 (o := 1) (s := 1) rfl (opens_i64 Tryd.underlying3) rfl (cellsOf_sz tk sz3 (by decide))
  obtain ⟨y2, w2, r2, o2⟩ := opens_f hx hn 2 (o := 2) (s := 1) rfl (opens_i64 Tryd.underlying3) rfl (cellsOf_sz tk sz3 (by decide))
  obtain ⟨y3, w3, r3, o3⟩ := opens_f hx hn 3 (o := 3) (s := 1) rfl (opens_i64 Tryd.underlying3) rfl (cellsOf_sz tk sz3 (by decide))
  obtain ⟨y4, w4, r4, o4⟩ := opens_f hx hn 4 (o := 4) (s := 1) rfl (opens_i64 Tryd.underlying3) rfl (cellsOf_sz tk sz3 (by decide))
  obtain ⟨y5, w5, r5, o5⟩ := opens_f hx hn 5 (o := 5) (s := 5) rfl opens24 rfl (cellsOf_sz tk sz24 (by decide))
  obtain ⟨y6, w6, r6, o6⟩ := opens_f hx hn 6 (o := 10) (s := 1) rfl (opens_b Tryd.underlying4) rfl (cellsOf_sz tk sz4 (by decide))
  refine ⟨⟨y0, y1, y2, y3, y4, y5, y6⟩, ⟨w0, w1, w2, w3, w4, w5, w6⟩, ?_, ?_⟩
  · have h := (rel_piece r0 (rel_piece r1 (rel_piece r2 (rel_piece r3 (rel_piece r4 (rel_piece r5 (rel_piece r6 (rel_end hl))))))))
    rw [List.drop_zero] at h
    first | exact h | (simp only [List.append_nil, List.append_assoc] at h ⊢; exact h) | (simpa [AV.cells, e_api_Msg, c_api_Msg] using h)
  · have h := (one_piece o0 (one_piece o1 (one_piece o2 (one_piece o3 (one_piece o4 (one_piece o5 (one_piece o6 (one_end hl))))))))
    rw [List.drop_zero] at h
    exact h
def wf_api_Foot (x : api_Foot) : Prop := (wfI .i64) x.Seq ∧ (wfI .i64) x.Bytes ∧ (wfI .i64) x.Count ∧ (wfL (wfI .i64)) x.Dead
theorem opens52 : Opens Tryd.prog 52 e_api_Foot wf_api_Foot := by
  intro H enc w fuel cs x hx
  obtain ⟨xs, m, _, _, hl, hn, hx⟩ := DataW.trod_struct Tryd.underlying52 hx
  rw [cellsOf_sz tk sz52 (by decide)] at hl
  obtain ⟨y0, w0, r0, o0⟩ := opens_f hx hn 0 (o := 0) (s := 1) rfl (opens_i64 Tryd.underlying3) rfl (cellsOf_sz tk sz3 (by decide))
  obtain ⟨y1, w1, r1, o1⟩ := opens_f hx hn 1 (o := 1) (s := 1) rfl (opens_i64 Tryd.underlying3) rfl (cellsOf_sz tk sz3 (by decide))
  obtain ⟨y2, w2, r2, o2⟩ := opens_f hx hn 2 (o := 2) (s := 1) rfl (opens_i64 Tryd.underlying3) rfl (cellsOf_sz tk sz3 (by decide))
  obtain ⟨y3, w3, r3, o3⟩ := opens_f hx hn 3 (o := 3) (s := 1) rfl (opens_l tk Tryd.underlying51 (enc_i64 td3 sz3) (opens_i64 Tryd.underlying3)) rfl (cellsOf_sz tk sz51 (by decide))
  refine ⟨⟨y0, y1, y2, y3⟩, ⟨w0, w1, w2, w3⟩, ?_, ?_⟩
  · have h := (rel_piece r0 (rel_piece r1 (rel_piece r2 (rel_piece r3 (rel_end hl)))))
    rw [List.drop_zero] at h
    first | exact h | (simp only [List.append_nil, List.append_assoc] at h ⊢; exact h) | (simpa [AV.cells, e_api_Foot, c_api_Foot] using h)
  · have h := (one_piece o0 (one_piece o1 (one_piece o2 (one_piece o3 (one_end hl)))))
    rw [List.drop_zero] at h
    exact h
theorem opens53 : Opens Tryd.prog 53 e_api_Foot wf_api_Foot := by
  intro H enc w fuel cs x hx
  obtain ⟨xs, m, _, _, hl, hn, hx⟩ := DataW.trod_struct Tryd.underlying53 hx
  rw [cellsOf_sz tk sz53 (by decide)] at hl
  obtain ⟨y0, w0, r0, o0⟩ := opens_f hx hn 0 (o := 0) (s := 1) rfl (opens_i64 Tryd.underlying3) rfl (cellsOf_sz tk sz3 (by decide))
  obtain ⟨y1, w1, r1, o1⟩ := opens_f hx hn 1 (o := 1) (s := 1) rfl (opens_i64 Tryd.underlying3) rfl (cellsOf_sz tk sz3 (by decide))
  obtain ⟨y2, w2, r2, o2⟩ := opens_f hx hn 2 (o := 2) (s := 1) rfl (opens_i64 Tryd.underlying3) rfl (cellsOf_sz tk sz3 (by decide))
  obtain ⟨y3, w3, r3, o3⟩ := opens_f hx hn 3 (o := 3) (s := 1) rfl (opens_l tk Tryd.underlying51 (enc_i64 td3 sz3) (opens_i64 Tryd.underlying3)) rfl (cellsOf_sz tk sz51 (by decide))
  refine ⟨⟨y0, y1, y2, y3⟩, ⟨w0, w1, w2, w3⟩, ?_, ?_⟩
  · have h := (rel_piece r0 (rel_piece r1 (rel_piece r2 (rel_piece r3 (rel_end hl)))))
    rw [List.drop_zero] at h
    first | exact h | (simp only [List.append_nil, List.append_assoc] at h ⊢; exact h) | (simpa [AV.cells, e_api_Foot, c_api_Foot] using h)
  · have h := (one_piece o0 (one_piece o1 (one_piece o2 (one_piece o3 (one_end hl)))))
    rw [List.drop_zero] at h
    exact h
def wf_api_Mark (x : api_Mark) : Prop := wfT x.Hash ∧ (wfI .i64) x.Off ∧ (wfI .i64) x.Size
theorem opens73 : Opens Tryd.prog 73 e_api_Mark wf_api_Mark := by
  intro H enc w fuel cs x hx
  obtain ⟨xs, m, _, _, hl, hn, hx⟩ := DataW.trod_struct Tryd.underlying73 hx
  rw [cellsOf_sz tk sz73 (by decide)] at hl
  obtain ⟨y0, w0, r0, o0⟩ := opens_f hx hn 0 (o := 0) (s := 1) rfl (opens_u rfl rfl Tryd.underlying72) rfl (cellsOf_sz tk sz72 (by decide))
  obtain ⟨y1, w1, r1, o1⟩ := opens_f hx hn 1 (o := 1) (s := 1) rfl (opens_i64 Tryd.underlying3) rfl (cellsOf_sz tk sz3 (by decide))
  obtain ⟨y2, w2, r2, o2⟩ := opens_f hx hn 2 (o := 2) (s := 1) rfl (opens_i64 Tryd.underlying3) rfl (cellsOf_sz tk sz3 (by decide))
  refine ⟨⟨y0, y1, y2⟩, ⟨w0, w1, w2⟩, ?_, ?_⟩
  · have h := (rel_piece r0 (rel_piece r1 (rel_piece r2 (rel_end hl))))
    rw [List.drop_zero] at h
    first | exact h | (simp only [List.append_nil, List.append_assoc] at h ⊢; exact h) | (simpa [AV.cells, e_api_Mark, c_api_Mark] using h)
  · have h := (one_piece o0 (one_piece o1 (one_piece o2 (one_end hl))))
    rw [List.drop_zero] at h
    exact h
theorem opens74 : Opens Tryd.prog 74 e_api_Mark wf_api_Mark := by
  intro H enc w fuel cs x hx
  obtain ⟨xs, m, _, _, hl, hn, hx⟩ := DataW.trod_struct Tryd.underlying74 hx
  rw [cellsOf_sz tk sz74 (by decide)] at hl
  obtain ⟨y0, w0, r0, o0⟩ := opens_f hx hn 0 (o := 0) (s := 1) rfl (opens_u rfl rfl Tryd.underlying72) rfl (cellsOf_sz tk sz72 (by decide))
  obtain ⟨y1, w1, r1, o1⟩ := opens_f hx hn 1 (o := 1) (s := 1) rfl (opens_i64 Tryd.underlying3) rfl (cellsOf_sz tk sz3 (by decide))
  obtain ⟨y2, w2, r2, o2⟩ := opens_f hx hn 2 (o := 2) (s := 1) rfl (opens_i64 Tryd.underlying3) rfl (cellsOf_sz tk sz3 (by decide))
  refine ⟨⟨y0, y1, y2⟩, ⟨w0, w1, w2⟩, ?_, ?_⟩
  · have h := (rel_piece r0 (rel_piece r1 (rel_piece r2 (rel_end hl))))
    rw [List.drop_zero] at h
    first | exact h | (simp only [List.append_nil, List.append_assoc] at h ⊢; exact h) | (simpa [AV.cells, e_api_Mark, c_api_Mark] using h)
  · have h := (one_piece o0 (one_piece o1 (one_piece o2 (one_end hl))))
    rw [List.drop_zero] at h
    exact h
def wf_butteryref02_Reader (x : butteryref02_Reader) : Prop := (wfL wfT) x.B ∧ (wfI .i64) x.At ∧ (wfI .i64) x.Code
theorem opens126 : Opens Tryd.prog 126 e_butteryref02_Reader wf_butteryref02_Reader := by
  intro H enc w fuel cs x hx
  obtain ⟨xs, m, _, _, hl, hn, hx⟩ := DataW.trod_struct Tryd.underlying126 hx
  rw [cellsOf_sz tk sz126 (by decide)] at hl
  obtain ⟨y0, w0, r0, o0⟩ := opens_f hx hn 0 (o := 0) (s := 1) rfl (opens_l tk Tryd.underlying22 (enc_u td5 sz5) (opens_u rfl rfl Tryd.underlying5)) rfl (cellsOf_sz tk sz22 (by decide))
  obtain ⟨y1, w1, r1, o1⟩ := opens_f hx hn 1 (o := 1) (s := 1) rfl (opens_i64 Tryd.underlying3) rfl (cellsOf_sz tk sz3 (by decide))
  obtain ⟨y2, w2, r2, o2⟩ := opens_f hx hn 2 (o := 2) (s := 1) rfl (opens_i64 Tryd.underlying33) rfl (cellsOf_sz tk sz33 (by decide))
  refine ⟨⟨y0, y1, y2⟩, ⟨w0, w1, w2⟩, ?_, ?_⟩
  · have h := (rel_piece r0 (rel_piece r1 (rel_piece r2 (rel_end hl))))
    rw [List.drop_zero] at h
    first | exact h | (simp only [List.append_nil, List.append_assoc] at h ⊢; exact h) | (simpa [AV.cells, e_butteryref02_Reader, c_butteryref02_Reader] using h)
  · have h := (one_piece o0 (one_piece o1 (one_piece o2 (one_end hl))))
    rw [List.drop_zero] at h
    exact h
theorem opens127 : Opens Tryd.prog 127 e_butteryref02_Reader wf_butteryref02_Reader := by
  intro H enc w fuel cs x hx
  obtain ⟨xs, m, _, _, hl, hn, hx⟩ := DataW.trod_struct Tryd.underlying127 hx
  rw [cellsOf_sz tk sz127 (by decide)] at hl
  obtain ⟨y0, w0, r0, o0⟩ := opens_f hx hn 0 (o := 0) (s := 1) rfl (opens_l tk Tryd.underlying22 (enc_u td5 sz5) (opens_u rfl rfl Tryd.underlying5)) rfl (cellsOf_sz tk sz22 (by decide))
  obtain ⟨y1, w1, r1, o1⟩ := opens_f hx hn 1 (o := 1) (s := 1) rfl (opens_i64 Tryd.underlying3) rfl (cellsOf_sz tk sz3 (by decide))
  obtain ⟨y2, w2, r2, o2⟩ := opens_f hx hn 2 (o := 2) (s := 1) rfl (opens_i64 Tryd.underlying33) rfl (cellsOf_sz tk sz33 (by decide))
  refine ⟨⟨y0, y1, y2⟩, ⟨w0, w1, w2⟩, ?_, ?_⟩
  · have h := (rel_piece r0 (rel_piece r1 (rel_piece r2 (rel_end hl))))
    rw [List.drop_zero] at h
    first | exact h | (simp only [List.append_nil, List.append_assoc] at h ⊢; exact h) | (simpa [AV.cells, e_butteryref02_Reader, c_butteryref02_Reader] using h)
  · have h := (one_piece o0 (one_piece o1 (one_piece o2 (one_end hl))))
    rw [List.drop_zero] at h
    exact h
def wf_octets_Reader (x : octets_Reader) : Prop := (wfL wfT) x.b ∧ (wfI .i64) x.at_ ∧ (wfI .i64) x.code
theorem opens169 : Opens Tryd.prog 169 e_octets_Reader wf_octets_Reader := by
  intro H enc w fuel cs x hx
  obtain ⟨xs, m, _, _, hl, hn, hx⟩ := DataW.trod_struct Tryd.underlying169 hx
  rw [cellsOf_sz tk sz169 (by decide)] at hl
  obtain ⟨y0, w0, r0, o0⟩ := opens_f hx hn 0 (o := 0) (s := 1) rfl (opens_l tk Tryd.underlying22 (enc_u td5 sz5) (opens_u rfl rfl Tryd.underlying5)) rfl (cellsOf_sz tk sz22 (by decide))
  obtain ⟨y1, w1, r1, o1⟩ := opens_f hx hn 1 (o := 1) (s := 1) rfl (opens_i64 Tryd.underlying3) rfl (cellsOf_sz tk sz3 (by decide))
  obtain ⟨y2, w2, r2, o2⟩ := opens_f hx hn 2 (o := 2) (s := 1) rfl (opens_i64 Tryd.underlying33) rfl (cellsOf_sz tk sz33 (by decide))
  refine ⟨⟨y0, y1, y2⟩, ⟨w0, w1, w2⟩, ?_, ?_⟩
  · have h := (rel_piece r0 (rel_piece r1 (rel_piece r2 (rel_end hl))))
    rw [List.drop_zero] at h
    first | exact h | (simp only [List.append_nil, List.append_assoc] at h ⊢; exact h) | (simpa [AV.cells, e_octets_Reader, c_octets_Reader] using h)
  · have h := (one_piece o0 (one_piece o1 (one_piece o2 (one_end hl))))
    rw [List.drop_zero] at h
    exact h
theorem opens170 : Opens Tryd.prog 170 e_octets_Reader wf_octets_Reader := by
  intro H enc w fuel cs x hx
  obtain ⟨xs, m, _, _, hl, hn, hx⟩ := DataW.trod_struct Tryd.underlying170 hx
  rw [cellsOf_sz tk sz170 (by decide)] at hl
  obtain ⟨y0, w0, r0, o0⟩ := opens_f hx hn 0 (o := 0) (s := 1) rfl (opens_l tk Tryd.underlying22 (enc_u td5 sz5) (opens_u rfl rfl Tryd.underlying5)) rfl (cellsOf_sz tk sz22 (by decide))
  obtain ⟨y1, w1, r1, o1⟩ := opens_f hx hn 1 (o := 1) (s := 1) rfl (opens_i64 Tryd.underlying3) rfl (cellsOf_sz tk sz3 (by decide))
  obtain ⟨y2, w2, r2, o2⟩ := opens_f hx hn 2 (o := 2) (s := 1) rfl (opens_i64 Tryd.underlying33) rfl (cellsOf_sz tk sz33 (by decide))
  refine ⟨⟨y0, y1, y2⟩, ⟨w0, w1, w2⟩, ?_, ?_⟩
  · have h := (rel_piece r0 (rel_piece r1 (rel_piece r2 (rel_end hl))))
    rw [List.drop_zero] at h
    first | exact h | (simp only [List.append_nil, List.append_assoc] at h ⊢; exact h) | (simpa [AV.cells, e_octets_Reader, c_octets_Reader] using h)
  · have h := (one_piece o0 (one_piece o1 (one_piece o2 (one_end hl))))
    rw [List.drop_zero] at h
    exact h
def wf_reflectlite_ValueError (x : reflectlite_ValueError) : Prop := wfS x.Method ∧ wfT x.Kind
theorem opens211 : Opens Tryd.prog 211 e_reflectlite_ValueError wf_reflectlite_ValueError := by
  intro H enc w fuel cs x hx
  obtain ⟨xs, m, _, _, hl, hn, hx⟩ := DataW.trod_struct Tryd.underlying211 hx
  rw [cellsOf_sz tk sz211 (by decide)] at hl
  obtain ⟨y0, w0, r0, o0⟩ := opens_f hx hn 0 (o := 0) (s := 1) rfl (opens_s Tryd.underlying9) rfl (cellsOf_sz tk sz9 (by decide))
  obtain ⟨y1, w1, r1, o1⟩ := opens_f hx hn 1 (o := 1) (s := 1) rfl (opens_u rfl rfl Tryd.underlying164) rfl (cellsOf_sz tk sz164 (by decide))
  refine ⟨⟨y0, y1⟩, ⟨w0, w1⟩, ?_, ?_⟩
  · have h := (rel_piece r0 (rel_piece r1 (rel_end hl)))
    rw [List.drop_zero] at h
    first | exact h | (simp only [List.append_nil, List.append_assoc] at h ⊢; exact h) | (simpa [AV.cells, e_reflectlite_ValueError, c_reflectlite_ValueError] using h)
  · have h := (one_piece o0 (one_piece o1 (one_end hl)))
    rw [List.drop_zero] at h
    exact h
theorem opens212 : Opens Tryd.prog 212 e_reflectlite_ValueError wf_reflectlite_ValueError := by
  intro H enc w fuel cs x hx
  obtain ⟨xs, m, _, _, hl, hn, hx⟩ := DataW.trod_struct Tryd.underlying212 hx
  rw [cellsOf_sz tk sz212 (by decide)] at hl
  obtain ⟨y0, w0, r0, o0⟩ := opens_f hx hn 0 (o := 0) (s := 1) rfl (opens_s Tryd.underlying9) rfl (cellsOf_sz tk sz9 (by decide))
  obtain ⟨y1, w1, r1, o1⟩ := opens_f hx hn 1 (o := 1) (s := 1) rfl (opens_u rfl rfl Tryd.underlying164) rfl (cellsOf_sz tk sz164 (by decide))
  refine ⟨⟨y0, y1⟩, ⟨w0, w1⟩, ?_, ?_⟩
  · have h := (rel_piece r0 (rel_piece r1 (rel_end hl)))
    rw [List.drop_zero] at h
    first | exact h | (simp only [List.append_nil, List.append_assoc] at h ⊢; exact h) | (simpa [AV.cells, e_reflectlite_ValueError, c_reflectlite_ValueError] using h)
  · have h := (one_piece o0 (one_piece o1 (one_end hl)))
    rw [List.drop_zero] at h
    exact h
def wf_abi_Method (x : abi_Method) : Prop := (wfI .i32) x.Name ∧ (wfI .i32) x.Mtyp ∧ (wfI .i32) x.Ifn ∧ (wfI .i32) x.Tfn
theorem opens219 : Opens Tryd.prog 219 e_abi_Method wf_abi_Method := by
  intro H enc w fuel cs x hx
  obtain ⟨xs, m, _, _, hl, hn, hx⟩ := DataW.trod_struct Tryd.underlying219 hx
  rw [cellsOf_sz tk sz219 (by decide)] at hl
  obtain ⟨y0, w0, r0, o0⟩ := opens_f hx hn 0 (o := 0) (s := 1) rfl (opens_i Tryd.underlying205) rfl (cellsOf_sz tk sz205 (by decide))
  obtain ⟨y1, w1, r1, o1⟩ := opens_f hx hn 1 (o := 1) (s := 1) rfl (opens_i Tryd.underlying206) rfl (cellsOf_sz tk sz206 (by decide))
  obtain ⟨y2, w2, r2, o2⟩ := opens_f hx hn 2 (o := 2) (s := 1) rfl (opens_i Tryd.underlying218) rfl (cellsOf_sz tk sz218 (by decide))
  obtain ⟨y3, w3, r3, o3⟩ := opens_f hx hn 3 (o := 3) (s := 1) rfl (opens_i Tryd.underlying218) rfl (cellsOf_sz tk sz218 (by decide))
  refine ⟨⟨y0, y1, y2, y3⟩, ⟨w0, w1, w2, w3⟩, ?_, ?_⟩
  · have h := (rel_piece r0 (rel_piece r1 (rel_piece r2 (rel_piece r3 (rel_end hl)))))
    rw [List.drop_zero] at h
    first | exact h | (simp only [List.append_nil, List.append_assoc] at h ⊢; exact h) | (simpa [AV.cells, e_abi_Method, c_abi_Method] using h)
  · have h := (one_piece o0 (one_piece o1 (one_piece o2 (one_piece o3 (one_end hl)))))
    rw [List.drop_zero] at h
    exact h
theorem opens220 : Opens Tryd.prog 220 e_abi_Method wf_abi_Method := by
  intro H enc w fuel cs x hx
  obtain ⟨xs, m, _, _, hl, hn, hx⟩ := DataW.trod_struct Tryd.underlying220 hx
  rw [cellsOf_sz tk sz220 (by decide)] at hl
  obtain ⟨y0, w0, r0, o0⟩ := opens_f hx hn 0 (o := 0) (s := 1) rfl (opens_i Tryd.underlying205) rfl (cellsOf_sz tk sz205 (by decide))
  obtain ⟨y1, w1, r1, o1⟩ := opens_f hx hn 1 (o := 1) (s := 1) rfl (opens_i Tryd.underlying206) rfl (cellsOf_sz tk sz206 (by decide))
  obtain ⟨y2, w2, r2, o2⟩ := opens_f hx hn 2 (o := 2) (s := 1) rfl (opens_i Tryd.underlying218) rfl (cellsOf_sz tk sz218 (by decide))
  obtain ⟨y3, w3, r3, o3⟩ := opens_f hx hn 3 (o := 3) (s := 1) rfl (opens_i Tryd.underlying218) rfl (cellsOf_sz tk sz218 (by decide))
  refine ⟨⟨y0, y1, y2, y3⟩, ⟨w0, w1, w2, w3⟩, ?_, ?_⟩
  · have h := (rel_piece r0 (rel_piece r1 (rel_piece r2 (rel_piece r3 (rel_end hl)))))
    rw [List.drop_zero] at h
    first | exact h | (simp only [List.append_nil, List.append_assoc] at h ⊢; exact h) | (simpa [AV.cells, e_abi_Method, c_abi_Method] using h)
  · have h := (one_piece o0 (one_piece o1 (one_piece o2 (one_piece o3 (one_end hl)))))
    rw [List.drop_zero] at h
    exact h
end Go.Proofs.YtkmlinaofbcbaaaDoor
namespace Go.Proofs.YtkmlinaofbcbaaaDoor
open Go Go.Va
set_option linter.unusedVariables false
set_option linter.unusedSimpArgs false
theorem lays_l0 (l : List api_Entry) (x : api_Foot) {p : List (List (BitVec 8))} (hp : p.length ≤ 1000000) (hs : ∀ y ∈ p, y.length ≤ 1000000) : butterylaw14_RegionLays_l0 l x p p 0 = some (.inl ()) := by
  have k := loopO_up (body := fun s => butterylaw14_RegionLays_b0 l x p p s) (fun i : Nat => (i : Int)) p.length (x := .inl ()) (fun i hi => by
    simp only [butterylaw14_RegionLays_b0, lt_eq]
    have := hs _ (List.getElem_mem hi)
    rw [if_pos (decide_eq_true (by omega)), ix_nat hi]
    simp only [Option.bind_some, same_eq p[i] p[i] (by omega), decide_true, Bool.not_true, Bool.false_eq_true, if_false]
    rw [w64_nat (by omega)]) (by
    simp only [butterylaw14_RegionLays_b0, lt_eq]
    rw [if_neg (by simp)])
  exact k
theorem lays_l2 {m : List api_Mark} (hm : m.length ≤ 1000000) : butterylaw14_RegionLays_l2 m m 0 = some (.inl ()) := by
  have k := loopO_up (body := fun s => butterylaw14_RegionLays_b2 m m s) (fun i : Nat => (i : Int)) m.length (x := .inl ()) (fun i hi => by
    simp only [butterylaw14_RegionLays_b2, lt_eq]
    rw [if_pos (decide_eq_true (by omega)), ix_nat hi]
    simp only [Option.bind_some, beq_self_eq_true, Bool.not_true, Bool.false_eq_true, if_false]
    rw [w64_nat (by omega)]) (by
    simp only [butterylaw14_RegionLays_b2, lt_eq]
    rw [if_neg (by simp)])
  exact k
theorem lays_l1 {l : List api_Entry} (hl : l.length ≤ 40) : ∀ (k i : Nat), k + i = l.length → ∃ y, butterylaw14_RegionLays_l1 l (i : Int) = some y ∧ (y = .inr true ∨ (y = .inl () ∧ ∀ j, i ≤ j → (h : j < l.length) → ckE l[j] = 0))
  | 0, i, h => by
    refine ⟨.inl (), loopO_out (body := fun s => butterylaw14_RegionLays_b1 l s) ?_, .inr ⟨rfl, fun j h1 h2 => absurd h2 (by omega)⟩⟩
    simp only [butterylaw14_RegionLays_b1, lt_eq]
    rw [if_neg (by rw [decide_eq_false (by omega)]; simp)]
  | k + 1, i, h => by
    have hi : i < l.length := by omega
    by_cases hc : ckE l[i] = 0
    · obtain ⟨y, h1, h2⟩ := lays_l1 hl k (i + 1) (by omega)
      have e1 : butterylaw14_RegionLays_l1 l (i : Int) = butterylaw14_RegionLays_l1 l ((i + 1 : Nat) : Int) := by
        refine loopO_in (body := fun s => butterylaw14_RegionLays_b1 l s) ?_
        simp only [butterylaw14_RegionLays_b1, lt_eq]
        rw [if_pos (decide_eq_true (by omega)), ix_nat hi]
        simp only [Option.bind_some, refCheck_eq, hc, bne_self_eq_false, Bool.false_eq_true, if_false]
        rw [w64_nat (by omega)]
      refine ⟨y, by rw [e1]; exact h1, ?_⟩
      rcases h2 with h2 | ⟨h2, h3⟩
      · exact .inl h2
      · refine .inr ⟨h2, fun j hj hj2 => ?_⟩
        by_cases hji : j = i
        · subst hji; exact hc
        · exact h3 j (by omega) hj2
    · refine ⟨.inr true, loopO_out (body := fun s => butterylaw14_RegionLays_b1 l s) ?_, .inl rfl⟩
      simp only [butterylaw14_RegionLays_b1, lt_eq]
      rw [if_pos (decide_eq_true (by omega)), ix_nat hi]
      simp only [Option.bind_some, refCheck_eq]
      rw [if_pos (by simpa using hc)]
      simp [works14]
theorem RegionLays_pure (l : List api_Entry) (b : List (BitVec 8)) (x : api_Foot) (_ : wfL wf_api_Entry l) (_ : wfL wfT b) (_ : wf_api_Foot x) : butterylaw14_RegionLays l b x = some true := by
  unfold butterylaw14_RegionLays
  simp only [lt_eq]
  rcases light_eq l with h | ⟨h, h1, h2⟩
  · simp [h, works14]
  · simp only [h, Option.bind_some]
    rw [if_neg (by decide)]
    by_cases hb : (b.length : Int) > 3000
    · simp [hb, works14]
    · by_cases hd : (x.Dead.length : Int) > 200
      · simp [hb, hd, works14]
      · simp only [decide_eq_false hb, decide_eq_false hd, Bool.false_eq_true, if_false, Option.bind_some]
        have hsl := sp_len (b := b) b.length 0
        have hj := sp_join (b := b) b.length 0 (by omega)
        rw [List.drop_zero] at hj
        have hpl : ∀ y ∈ sp b b.length 0, y.length ≤ 1000000 := fun y hy => by
          have : y.length ≤ (sp b b.length 0).flatten.length := by
            obtain ⟨s, t, e⟩ := List.append_of_mem hy
            rw [e]; simp; omega
          rw [hj] at this; omega
        rw [split_eq (by omega), refSplit_eq (by omega)]
        simp only [Option.bind_some, bne_self_eq_false, Bool.false_eq_true, if_false, lays_l0 l x (p := sp b b.length 0) (by omega) hpl, Sum.elim_inl]
        obtain ⟨r, e, c, w1, w2, w3, w4, w5, w6, w7⟩ := whole_both x (p := sp b b.length 0) (by omega) (by rw [hj]; omega)
        simp only [w1, w2, Option.bind_some, sameAll_refl w5 w6, Bool.not_true, Bool.false_eq_true, if_false, trouble_Of, w3, bne_self_eq_false]
        obtain ⟨y, y1, y2⟩ := lays_l1 h1 l.length 0 rfl
        have y1' : butterylaw14_RegionLays_l1 l 0 = some y := y1
        simp only [y1', Option.bind_some]
        rcases y2 with rfl | ⟨rfl, h3⟩
        · rfl
        · have hall : ∀ z ∈ l, ckE z = 0 := fun z hz => by
            obtain ⟨j, hj, rfl⟩ := List.mem_iff_getElem.1 hz
            exact h3 j (by omega) hj
          simp only [Sum.elim_inl, marks_eq (by omega) hall, refMarks_eq (by omega) hall, Option.bind_some, bne_self_eq_false, Bool.false_eq_true, if_false, lays_l2 (m := marksE l l.length) (by simp [marksE]; omega), works14]
end Go.Proofs.YtkmlinaofbcbaaaDoor
namespace Go.Proofs.YtkmlinaofbcbaaaDoor
open Go.ChangeShapes Go.WideShapes Go.RowKit
theorem own : ownKnob Tryd.prog.godebug = none := by kernel_rfl
theorem laidEt : Tryd.prog.globalNamed "errors.errorType" = some 0 := by kernel_rfl
theorem laidRt : (Tryd.prog.cutTypes.find? (·.1 == "internal/reflectlite.rtype")).map (·.2) = some 181 := by kernel_rfl
theorem laidRow : ((List.range 222).filter fun t => Tryd.prog.rowNamed t [101, 114, 114, 111, 114]) = [30] := by kernel_rfl
theorem laidSize : Tryd.prog.types.size = 222 := by kernel_rfl
def laidL {H : Type} : List (String × DataW H) := [("errors.errorType", Rows.laid_errors_errorType)]
theorem handle_of_laid {W : World} (h : laidMetH Tryd.prog laidL W) : W.cell? ⟨0, 0, none⟩ = some (.iface 181 (.agg #[.pointer (some ⟨1, 30, none⟩)])) := by
  have h' : laidMet Tryd.prog [] W ∧ handlesMet Tryd.prog laidL W := h
  obtain ⟨name, u, ty, e1, e2, e3, e4, e5⟩ := h'.2 _ (List.mem_singleton.2 rfl)
  have en : name = [101, 114, 114, 111, 114] := (Option.some.inj e1).symm
  subst en
  obtain rfl := Option.some.inj (laidRt.symm.trans e2)
  have hm : ty ∈ (List.range 222).filter fun t => Tryd.prog.rowNamed t [101, 114, 114, 111, 114] := List.mem_filter.2 ⟨List.mem_range.2 (by rw [← laidSize]; exact e3), e4⟩
  rw [laidRow] at hm
  obtain rfl := List.mem_singleton.1 hm
  have hh : typeHandle Tryd.prog 30 = .pointer (some ⟨1, 30, none⟩) := by kernel_rfl
  rw [hh] at e5
  simpa using World.var?_cell laidEt e5 0
/-- A world that meets the condition. -/
noncomputable def laidWorld (os : Os) : World :=
  let w0 := World.holding Tryd.prog os ⟨#[], #[], []⟩
  { w0 with heap := w0.heap.modify 0 fun
      | .cells _ t frozen => .cells #[.iface 181 (.agg #[.pointer (some ⟨1, 30, none⟩)])] t frozen
      | o => o }
theorem laidWorld_met (os : Os) (args : Array Value) : laidMetH Tryd.prog laidL ((laidWorld os).forCall (fun _ _ => 0) ⟨#[], args, []⟩).memory :=
  laidMetH_of_parts (laidMet_nil _ _) (by kernel_rfl)
theorem gls_met {W : World} (h : laidMetH Tryd.prog laidL W) : ∀ p ∈ gls, W.cell? p.1 = some p.2 := by
  intro p hp
  obtain rfl := List.mem_singleton.1 hp
  exact handle_of_laid h
theorem laidOut : laidOutB Tryd.prog = true := by kernel_rfl
end Go.Proofs.YtkmlinaofbcbaaaDoor
