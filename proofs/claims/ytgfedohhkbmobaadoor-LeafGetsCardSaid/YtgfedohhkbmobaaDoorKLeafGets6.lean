/- What any bytes hold as a page, or what is wrong with them first, and their stamps, is what the chapter says. (part 6 of 7) -/
import Derived.Test.YtgfedohhkbmobaaDoorKLeafGets5
import Derived.ChangeSame
import Derived.ChangeVars
import Derived.JoinedOf
import Derived.LaidHandle
import Derived.LaidLaws
import Derived.RowKit
import Derived.RowKitTokens
import Derived.Stop.Joined
import Derived.Test.YtgfedohhkbmobaaDoorRows
namespace Go.Proofs.YtgfedohhkbmobaaDoor
open Go Go.Va
set_option linter.unusedVariables false
set_option linter.unusedSimpArgs false
/-- What is wrong with an entry. -/
def ckK (k : List (BitVec 8)) : Int := if k.length = 0 then 1 else if 40 < k.length then 3 else 0
def ckE (x : api_Entry) : Int :=
  if ckK x.Key ≠ 0 then ckK x.Key else
  if (x.Version < 1 ∨ x.Version > 1099511627776) ∨ (x.AsOf < x.Version ∨ x.AsOf > 1099511627776) ∨ (x.Ends < 0 ∨ x.Ends > 1099511627776) then 2 else
  if 4096 < x.Value.length then 3 else 0
theorem octKey_eq (k : List (BitVec 8)) : octets_Key k = some (ckK k) := by
  unfold octets_Key ckK
  simp only [lt_eq]
  by_cases h0 : k.length = 0
  · rw [if_pos h0, if_pos (by simp [h0])]
  · rw [if_neg h0, if_neg (by simp; intro h; subst h; simp at h0)]
    by_cases h1 : 40 < k.length
    · rw [if_pos h1, if_pos (decide_eq_true (by omega))]
    · rw [if_neg h1, if_neg (by rw [decide_eq_false (by omega)]; simp)]
theorem refKey_eq (k : List (BitVec 8)) : butteryref02_Key k = some (ckK k) := by rw [← key_eq, octKey_eq]
theorem new_eq (op : List (BitVec 8)) (n c : Int) (hc : c ≠ 0) : trouble_New op n c = some (.fault op n c .nil) := by
  simp [trouble_New, lt_eq, hc]
theorem wrap_eq (op : List (BitVec 8)) (n : Int) (e : Err) (he : e.isNil = false) : trouble_Wrap op n e = some (.fault op n 0 e) := by
  simp [trouble_Wrap, lt_eq, he]
theorem num_ck (op : List (BitVec 8)) (n low : Int) (e : Err) : ∃ e', item_Check_1_c op n low e = some e' ∧ (e.isNil = false → e' = e) ∧ (e = .nil → (n < low ∨ n > 1099511627776) → ∃ o a, e' = .fault o a 2 .nil) ∧ (e = .nil → ¬ (n < low ∨ n > 1099511627776) → e' = .nil) := by
  unfold item_Check_1_c
  simp only [lt_eq]
  cases e with
  | fault o a c u => exact ⟨_, rfl, fun _ => rfl, (fun h => by cases h), (fun h => by cases h)⟩
  | nil =>
    simp only [Err.isNil, if_true]
    by_cases h1 : n < low
    · rw [if_pos (decide_eq_true h1)]
      exact ⟨_, rfl, (fun h => by cases h), fun _ _ => ⟨_, _, rfl⟩, fun _ h => absurd (.inl h1) h⟩
    · rw [if_neg (by rw [decide_eq_false h1]; simp)]
      by_cases h2 : n > 1099511627776
      · rw [decide_eq_true h2]
        exact ⟨_, rfl, (fun h => by cases h), fun _ _ => ⟨_, _, rfl⟩, fun _ h => absurd (.inr h2) h⟩
      · rw [decide_eq_false h2]
        exact ⟨_, rfl, (fun h => by cases h), fun _ h => absurd h (by omega), fun _ _ => rfl⟩
theorem check_eq (x : api_Entry) : ∃ e, item_Check x = some e ∧ codeOf e = ckE x ∧ e.isNil = decide (ckE x = 0) := by
  unfold item_Check ckE
  rw [octKey_eq]
  simp only [Option.bind_some, lt_eq]
  by_cases hk : ckK x.Key = 0
  · rw [if_neg (show ¬ ((ckK x.Key != 0) = true) by simpa using hk), if_neg (show ¬ (ckK x.Key ≠ 0) by simpa using hk)]
    obtain ⟨e1, a1, a2, a3, a4⟩ := num_ck [118#8, 101#8, 114#8, 115#8, 105#8, 111#8, 110#8] x.Version 1 .nil
    obtain ⟨e2, b1, b2, b3, b4⟩ := num_ck [97#8, 115#8, 111#8, 102#8] x.AsOf x.Version e1
    obtain ⟨e3, c1, c2, c3, c4⟩ := num_ck [101#8, 110#8, 100#8, 115#8] x.Ends 0 e2
    simp only [a1, b1, c1, Option.bind_some]
    by_cases h : (x.Version < 1 ∨ x.Version > 1099511627776) ∨ (x.AsOf < x.Version ∨ x.AsOf > 1099511627776) ∨ (x.Ends < 0 ∨ x.Ends > 1099511627776)
    · rw [if_pos h]
      have key : ∃ o a, e3 = .fault o a 2 .nil := by
        by_cases h1 : x.Version < 1 ∨ x.Version > 1099511627776
        · obtain ⟨o, a, rfl⟩ := a3 rfl h1
          have := b2 rfl; subst this
          have := c2 rfl; subst this
          exact ⟨o, a, rfl⟩
        · have := a4 rfl h1; subst this
          by_cases h2 : x.AsOf < x.Version ∨ x.AsOf > 1099511627776
          · obtain ⟨o, a, rfl⟩ := b3 rfl h2
            have := c2 rfl; subst this
            exact ⟨o, a, rfl⟩
          · have := b4 rfl h2; subst this
            have h3 : x.Ends < 0 ∨ x.Ends > 1099511627776 := by
              rcases h with h | h | h
              · exact absurd h h1
              · exact absurd h h2
              · exact h
            exact c3 rfl h3
      obtain ⟨o, a, rfl⟩ := key
      exact ⟨_, rfl, rfl, rfl⟩
    · rw [if_neg h]
      simp only [not_or] at h
      have := a4 rfl (by omega); subst this
      have := b4 rfl (by omega); subst this
      have := c4 rfl (by omega); subst this
      simp only [Err.isNil, if_true, Option.bind_some]
      by_cases hv : 4096 < x.Value.length
      · rw [if_pos (decide_eq_true (by omega)), if_pos hv, new_eq _ _ _ (by decide)]
        exact ⟨_, rfl, rfl, rfl⟩
      · rw [if_neg (by rw [decide_eq_false (by omega)]; simp), if_neg hv]
        exact ⟨_, rfl, rfl, rfl⟩
  · rw [if_pos (by simpa using hk), if_pos hk, new_eq _ _ _ hk]
    exact ⟨_, rfl, by simp [codeOf, hk], by simp [Err.isNil, hk]⟩
theorem refCheck_eq (x : api_Entry) : butteryref06_Check x = some (ckE x) := by
  unfold butteryref06_Check ckE
  rw [refKey_eq]
  simp only [Option.bind_some, lt_eq]
  by_cases hk : ckK x.Key = 0
  · rw [if_neg (show ¬ ((ckK x.Key != 0) = true) by simpa using hk), if_neg (show ¬ (ckK x.Key ≠ 0) by simpa using hk)]
    have hb : (if decide (x.Version < 1) = true then some true else if decide (x.Version > 1099511627776) = true then some true else if decide (x.AsOf < x.Version) = true then some true else if decide (x.AsOf > 1099511627776) = true then some true else if decide (x.Ends < 0) = true then some true else some (decide (x.Ends > 1099511627776))) = some (decide ((x.Version < 1 ∨ x.Version > 1099511627776) ∨ (x.AsOf < x.Version ∨ x.AsOf > 1099511627776) ∨ (x.Ends < 0 ∨ x.Ends > 1099511627776))) := by
      by_cases h1 : x.Version < 1
      · simp [h1]
      by_cases h2 : x.Version > 1099511627776
      · simp [h1, h2]
      by_cases h3 : x.AsOf < x.Version
      · simp [h1, h2, h3]
      by_cases h4 : x.AsOf > 1099511627776
      · simp [h1, h2, h3, h4]
      by_cases h5 : x.Ends < 0
      · simp [h1, h2, h3, h4, h5]
      · simp [h1, h2, h3, h4, h5]
    rw [hb]
    simp only [Option.bind_some, decide_eq_true_eq]
    split
    · rfl
    · by_cases hv : 4096 < x.Value.length
      · rw [if_pos (by omega), if_pos hv]
      · rw [if_neg (by omega), if_neg hv]
  · rw [if_pos (show (ckK x.Key != 0) = true by simpa using hk), if_pos (show ckK x.Key ≠ 0 from hk)]
/-- An entry that may be. -/
theorem ck_ok {x : api_Entry} (h : ckE x = 0) : 1 ≤ x.Key.length ∧ x.Key.length ≤ 40 ∧ 1 ≤ x.Version ∧ x.Version ≤ 1099511627776 ∧ x.Version ≤ x.AsOf ∧ x.AsOf ≤ 1099511627776 ∧ 0 ≤ x.Ends ∧ x.Ends ≤ 1099511627776 ∧ x.Value.length ≤ 4096 := by
  unfold ckE ckK at h
  by_cases h1 : x.Key.length = 0
  · simp [h1] at h
  by_cases h2 : 40 < x.Key.length
  · simp [h1, h2] at h
  simp only [if_neg h1, if_neg h2] at h
  rw [if_neg (by simp)] at h
  by_cases h3 : (x.Version < 1 ∨ x.Version > 1099511627776) ∨ (x.AsOf < x.Version ∨ x.AsOf > 1099511627776) ∨ (x.Ends < 0 ∨ x.Ends > 1099511627776)
  · rw [if_pos h3] at h; cases h
  rw [if_neg h3] at h
  by_cases h4 : 4096 < x.Value.length
  · rw [if_pos h4] at h; cases h
  omega
/-- The bytes of an entry. -/
def encE (x : api_Entry) : List (BitVec 8) := num7 x.Key.length ++ (x.Key ++ (num7 x.Version.toNat ++ (num7 x.AsOf.toNat ++ (num7 x.Ends.toNat ++ (num7 x.Value.length ++ x.Value)))))
theorem okN_ck {x : api_Entry} (h : ckE x = 0) : okN [x.Version, x.AsOf, x.Ends] := by
  obtain ⟨h1, h2, h3, h4, h5, h6, h7, h8, h9⟩ := ck_ok h
  refine ⟨by simp, fun n hn => ?_⟩
  simp only [List.mem_cons, List.not_mem_nil, or_false] at hn
  rcases hn with rfl | rfl | rfl <;> omega
theorem num7_le {n : Nat} (h : n < 9223372036854775808) : (num7 n).length ≤ 9 := num7_len h
theorem encE_len {x : api_Entry} (h : ckE x = 0) : (encE x).length ≤ 4181 ∧ 1 ≤ (encE x).length := by
  obtain ⟨h1, h2, h3, h4, h5, h6, h7, h8, h9⟩ := ck_ok h
  have a1 := num7_len (n := x.Key.length) (by omega)
  have a2 := num7_len (n := x.Version.toNat) (by omega)
  have a3 := num7_len (n := x.AsOf.toNat) (by omega)
  have a4 := num7_len (n := x.Ends.toNat) (by omega)
  have a5 := num7_len (n := x.Value.length) (by omega)
  simp only [encE, List.length_append]
  omega
theorem put_eq {b : List (BitVec 8)} {x : api_Entry} (hb : b.length ≤ 900000) (h : ckE x = 0) : item_Put b x = some (b ++ encE x) := by
  obtain ⟨h1, h2, h3, h4, h5, h6, h7, h8, h9⟩ := ck_ok h
  have a1 := num7_len (n := x.Key.length) (by omega)
  have a2 := num7_len (n := x.Version.toNat) (by omega)
  have a3 := num7_len (n := x.AsOf.toNat) (by omega)
  have a4 := num7_len (n := x.Ends.toNat) (by omega)
  unfold item_Put
  rw [show toBytes x.Key = some x.Key by unfold toBytes; rw [if_pos (by omega)]]
  simp only [Option.bind_some, lt_eq]
  rw [octBytes_eq _ _ (by omega) (by omega)]
  simp only [Option.bind_some]
  rw [octPut_eq _ (by simp only [List.length_append]; omega) (okN_ck h)]
  simp only [Option.bind_some]
  rw [octBytes_eq _ _ (by simp only [List.length_append, nums, List.flatMap_cons, List.flatMap_nil, List.length_nil]; omega) (by omega)]
  simp [encE, nums]
theorem refPutE_eq {b : List (BitVec 8)} {x : api_Entry} (hb : b.length ≤ 900000) (h : ckE x = 0) : butteryref06_Put b x = some (b ++ encE x) := by
  obtain ⟨h1, h2, h3, h4, h5, h6, h7, h8, h9⟩ := ck_ok h
  have a1 := num7_len (n := x.Key.length) (by omega)
  have a2 := num7_len (n := x.Version.toNat) (by omega)
  have a3 := num7_len (n := x.AsOf.toNat) (by omega)
  have a4 := num7_len (n := x.Ends.toNat) (by omega)
  unfold butteryref06_Put
  rw [show toBytes x.Key = some x.Key by unfold toBytes; rw [if_pos (by omega)]]
  simp only [Option.bind_some, lt_eq]
  rw [refBytes_eq _ _ (by omega) (by omega)]
  simp only [Option.bind_some]
  rw [refPut_eq _ (by simp only [List.length_append]; omega) (okN_ck h)]
  simp only [Option.bind_some]
  rw [refBytes_eq _ _ (by simp only [List.length_append, nums, List.flatMap_cons, List.flatMap_nil, List.length_nil]; omega) (by omega)]
  simp [encE, nums]
theorem nlen_num7 : ∀ (k n : Nat), n < 128 ^ k → (num7 n).length = nlen n
  | 0, n, h => by
    have : n = 0 := by simpa using h
    subst this
    rw [num7_small (by omega), nlen_lt (by omega)]; rfl
  | k + 1, n, h => by
    by_cases h1 : n < 128
    · rw [num7_small h1, nlen_lt h1]; rfl
    · rw [nlen_ge (by omega), ← nlen_num7 k (n / 128) (by rw [Nat.div_lt_iff_lt_mul (by decide)]; rw [Nat.pow_succ] at h; exact h)]
      simp only [num7, List.length_append, List.length_cons, List.length_nil]
      rw [pre_pos (m := n / 128) (by omega)]
      simp
theorem nlen_eq {n : Nat} (h : n < 9223372036854775808) : (num7 n).length = nlen n := nlen_num7 9 n (by omega)
theorem size_eq6 {x : api_Entry} (h : ckE x = 0) : item_Size x = some ((encE x).length : Int) := by
  obtain ⟨h1, h2, h3, h4, h5, h6, h7, h8, h9⟩ := ck_ok h
  have a1 := num7_len (n := x.Key.length) (by omega)
  have a2 := num7_len (n := x.Version.toNat) (by omega)
  have a3 := num7_len (n := x.AsOf.toNat) (by omega)
  have a4 := num7_len (n := x.Ends.toNat) (by omega)
  have a5 := num7_len (n := x.Value.length) (by omega)
  have e2 : x.Version = (x.Version.toNat : Int) := by omega
  have e3 : x.AsOf = (x.AsOf.toNat : Int) := by omega
  have e4 : x.Ends = (x.Ends.toNat : Int) := by omega
  have hl : (encE x).length = (num7 x.Key.length).length + (x.Key.length + ((num7 x.Version.toNat).length + ((num7 x.AsOf.toNat).length + ((num7 x.Ends.toNat).length + ((num7 x.Value.length).length + x.Value.length))))) := by simp [encE]
  rw [hl]
  rw [nlen_eq (by omega), nlen_eq (by omega), nlen_eq (by omega), nlen_eq (by omega), nlen_eq (by omega)] at *
  unfold item_Size
  rw [e2, e3, e4]
  simp only [lt_eq, octLen_eq (n := x.Key.length) (by omega), octLen_eq (n := x.Value.length) (by omega), octLen_eq (n := x.Version.toNat) (by omega), octLen_eq (n := x.AsOf.toNat) (by omega), octLen_eq (n := x.Ends.toNat) (by omega), Option.bind_some, Int.toNat_natCast]
  generalize nlen x.Key.length = n1 at *
  generalize nlen x.Value.length = n2 at *
  generalize nlen x.Version.toNat = n3 at *
  generalize nlen x.AsOf.toNat = n4 at *
  generalize nlen x.Ends.toNat = n5 at *
  rw [w64_eq (n := (n1 : Int) + (x.Key.length : Int)) (by omega) (by omega), w64_eq (n := (n1 : Int) + (x.Key.length : Int) + (n2 : Int)) (by omega) (by omega), w64_eq (n := (n1 : Int) + (x.Key.length : Int) + (n2 : Int) + (x.Value.length : Int)) (by omega) (by omega)]
  rw [w64_eq (n := (n1 : Int) + (x.Key.length : Int) + (n2 : Int) + (x.Value.length : Int) + (n3 : Int)) (by omega) (by omega), w64_eq (n := (n1 : Int) + (x.Key.length : Int) + (n2 : Int) + (x.Value.length : Int) + (n3 : Int) + (n4 : Int)) (by omega) (by omega), w64_eq (n := (n1 : Int) + (x.Key.length : Int) + (n2 : Int) + (x.Value.length : Int) + (n3 : Int) + (n4 : Int) + (n5 : Int)) (by omega) (by omega)]
  congr 1
  omega
theorem refSize_eq6 {x : api_Entry} (h : ckE x = 0) : butteryref06_Size x = some ((encE x).length : Int) := by
  unfold butteryref06_Size
  rw [refPutE_eq (b := []) (by simp) h]
  simp [lt_eq]
def zeroE : api_Entry := ⟨[], 0, 0, 0, []⟩
/-- What is read as an entry. -/
def frE (b : List (BitVec 8)) (r : rdr) : api_Entry × rdr :=
  let k := rB b r 40
  let v := rN b k.2 1099511627776
  let a := rN b v.2 1099511627776
  let n := rN b a.2 1099511627776
  let w := rB b n.2 4096
  let x : api_Entry := ⟨k.1, v.1, a.1, n.1, w.1⟩
  if w.2.e = 0 then (if ckE x = 0 then (x, w.2) else (zeroE, ⟨w.2.a, ckE x⟩)) else (zeroE, w.2)
theorem from_eq {b : List (BitVec 8)} (hb : b.length ≤ 1000000) {r : rdr} (hr : r.a ≤ b.length) : item_From (r.o b) = some ((frE b r).1, (frE b r).2.o b) := by
  unfold item_From frE
  have h1 := rB_le hr 40
  rw [show (40 : Int) = ((40 : Nat) : Int) from rfl, octB_r hb hr (by omega)]
  simp only [Option.bind_some]
  have h2 := rN_le h1.1 1099511627776
  rw [show (1099511627776 : Int) = ((1099511627776 : Nat) : Int) from rfl, octN_r hb h1.1 (by omega)]
  simp only [Option.bind_some]
  have h3 := rN_le h2.1 1099511627776
  rw [octN_r hb h2.1 (by omega)]
  simp only [Option.bind_some]
  have h4 := rN_le h3.1 1099511627776
  rw [octN_r hb h3.1 (by omega)]
  simp only [Option.bind_some]
  rw [show (4096 : Int) = ((4096 : Nat) : Int) from rfl, octB_r hb h4.1 (by omega)]
  simp only [Option.bind_some, lt_eq]
  generalize rN b (rN b (rN b (rB b r 40).2 1099511627776).2 1099511627776).2 1099511627776 = n at *
  generalize rN b (rN b (rB b r 40).2 1099511627776).2 1099511627776 = a at *
  generalize rN b (rB b r 40).2 1099511627776 = v at *
  generalize rB b r 40 = k at *
  generalize rB b n.2 4096 = w
  obtain ⟨wv, wa, we⟩ := w
  simp only [octets_Reader_Code, rdr.o, Option.bind_some]
  by_cases he : we = 0
  · subst he
    obtain ⟨e, c1, c2, c3⟩ := check_eq ⟨k.1, v.1, a.1, n.1, wv⟩
    rw [if_pos (by rfl), c1, if_pos rfl]
    simp only [Option.bind_some, c3]
    by_cases hc : ckE ⟨k.1, v.1, a.1, n.1, wv⟩ = 0
    · rw [if_pos hc]
      simp [hc]
    · rw [if_neg hc]
      simp only [hc, decide_false, Bool.not_false, if_true, trouble_Of, c2, Option.bind_some, fail_eq]
      rw [if_pos (by simpa using hc)]
      rfl
  · rw [if_neg (by simpa using he), if_neg he]
    simp only [Option.bind_some]
    rw [if_pos (by simpa using he)]
    rfl
theorem refFrom_eq {b : List (BitVec 8)} (hb : b.length ≤ 1000000) {r : rdr} (hr : r.a ≤ b.length) : butteryref06_From (r.x b) = some ((frE b r).2.x b, (frE b r).1) := by
  unfold butteryref06_From frE
  have h1 := rB_le hr 40
  rw [show (40 : Int) = ((40 : Nat) : Int) from rfl, refB_r hb hr (by omega)]
  simp only [Option.bind_some]
  have h2 := rN_le h1.1 1099511627776
  rw [show (1099511627776 : Int) = ((1099511627776 : Nat) : Int) from rfl, refN_r hb h1.1 (by omega)]
  simp only [Option.bind_some]
  have h3 := rN_le h2.1 1099511627776
  rw [refN_r hb h2.1 (by omega)]
  simp only [Option.bind_some]
  have h4 := rN_le h3.1 1099511627776
  rw [refN_r hb h3.1 (by omega)]
  simp only [Option.bind_some]
  rw [show (4096 : Int) = ((4096 : Nat) : Int) from rfl, refB_r hb h4.1 (by omega)]
  simp only [Option.bind_some, lt_eq]
  generalize rN b (rN b (rN b (rB b r 40).2 1099511627776).2 1099511627776).2 1099511627776 = n at *
  generalize rN b (rN b (rB b r 40).2 1099511627776).2 1099511627776 = a at *
  generalize rN b (rB b r 40).2 1099511627776 = v at *
  generalize rB b r 40 = k at *
  generalize rB b n.2 4096 = w
  obtain ⟨wv, wa, we⟩ := w
  simp only [rdr.x]
  by_cases he : we = 0
  · subst he
    rw [refCheck_eq]
    simp only [Option.bind_some, beq_self_eq_true, if_true]
    by_cases hc : ckE ⟨k.1, v.1, a.1, n.1, wv⟩ = 0
    · rw [if_pos hc]
      simp [hc]
    · rw [if_neg hc]
      rw [if_pos (by simpa using hc)]
      rfl
  · have hf : (we == 0) = false := by simpa using he
    simp only [hf, if_neg he, Option.bind_some, Bool.false_eq_true, if_false]
    simp [he]
    rfl
theorem frE_le {b : List (BitVec 8)} {r : rdr} (hr : r.a ≤ b.length) : (frE b r).2.a ≤ b.length := by
  unfold frE
  have h1 := rB_le hr 40
  have h2 := rN_le h1.1 1099511627776
  have h3 := rN_le h2.1 1099511627776
  have h4 := rN_le h3.1 1099511627776
  have h5 := rB_le h4.1 4096
  simp only
  split
  · split
    · exact h5.1
    · exact h5.1
  · exact h5.1
/-- An entry that is there is read. -/
theorem frE_is {b l : List (BitVec 8)} {r : rdr} {x : api_Entry} (he : r.e = 0) (hr : r.a ≤ b.length) (h : b.drop r.a = encE x ++ l) (hc : ckE x = 0) : frE b r = (x, ⟨r.a + (encE x).length, 0⟩) := by
  obtain ⟨h1, h2, h3, h4, h5, h6, h7, h8, h9⟩ := ck_ok hc
  simp only [encE, List.append_assoc] at h
  have k1 := rB_is he hr h (m := 40) (by omega) (by omega)
  have d1 : b.drop (r.a + (num7 x.Key.length).length + x.Key.length) = _ := drop_app (drop_app h)
  have l1 : r.a + (num7 x.Key.length).length + x.Key.length ≤ b.length := by have := (rB_le hr 40).1; rw [k1] at this; exact this
  have k2 := rN_is (r := ⟨r.a + (num7 x.Key.length).length + x.Key.length, 0⟩) rfl d1 (m := 1099511627776) (by omega) (by omega)
  have d2 := drop_app d1
  have l2 := (rN_le (b := b) (r := ⟨r.a + (num7 x.Key.length).length + x.Key.length, 0⟩) l1 1099511627776).1
  rw [k2] at l2
  have k3 := rN_is (r := ⟨r.a + (num7 x.Key.length).length + x.Key.length + (num7 x.Version.toNat).length, 0⟩) rfl d2 (m := 1099511627776) (by omega) (by omega)
  have d3 := drop_app d2
  have l3 := (rN_le (b := b) (r := ⟨r.a + (num7 x.Key.length).length + x.Key.length + (num7 x.Version.toNat).length, 0⟩) l2 1099511627776).1
  rw [k3] at l3
  have k4 := rN_is (r := ⟨r.a + (num7 x.Key.length).length + x.Key.length + (num7 x.Version.toNat).length + (num7 x.AsOf.toNat).length, 0⟩) rfl d3 (m := 1099511627776) (by omega) (by omega)
  have d4 := drop_app d3
  have l4 := (rN_le (b := b) (r := ⟨r.a + (num7 x.Key.length).length + x.Key.length + (num7 x.Version.toNat).length + (num7 x.AsOf.toNat).length, 0⟩) l3 1099511627776).1
  rw [k4] at l4
  have k5 := rB_is (r := ⟨r.a + (num7 x.Key.length).length + x.Key.length + (num7 x.Version.toNat).length + (num7 x.AsOf.toNat).length + (num7 x.Ends.toNat).length, 0⟩) rfl l4 d4 (m := 4096) (by omega) (by omega)
  have e2 : (x.Version.toNat : Int) = x.Version := by omega
  have e3 : (x.AsOf.toNat : Int) = x.AsOf := by omega
  have e4 : (x.Ends.toNat : Int) = x.Ends := by omega
  unfold frE
  simp only [k1, k2, k3, k4, k5, if_true, e2, e3, e4]
  rw [if_pos hc]
  refine Prod.ext rfl ?_
  simp only [encE, List.length_append, rdr.mk.injEq, and_true]
  omega
/-- What was read as an entry is its bytes. -/
theorem frE_one {b : List (BitVec 8)} {r : rdr} (hr : r.a ≤ b.length) (h : (frE b r).2.e = 0) : ckE (frE b r).1 = 0 ∧ b.drop r.a = encE (frE b r).1 ++ b.drop (frE b r).2.a ∧ r.a < (frE b r).2.a := by
  unfold frE at h ⊢
  have h1 := rB_le hr 40
  have h2 := rN_le h1.1 1099511627776
  have h3 := rN_le h2.1 1099511627776
  have h4 := rN_le h3.1 1099511627776
  have h5 := rB_le h4.1 4096
  have o5 := rB_one (b := b) h4.1 (m := 4096) (by omega)
  have f5 := rB_off (b := b) (r := (rN b (rN b (rN b (rB b r 40).2 1099511627776).2 1099511627776).2 1099511627776).2) (m := 4096)
  have o4 := rN_one (b := b) (r := (rN b (rN b (rB b r 40).2 1099511627776).2 1099511627776).2) (m := 1099511627776) (by omega)
  have f4 := rN_off (b := b) (r := (rN b (rN b (rB b r 40).2 1099511627776).2 1099511627776).2) (m := 1099511627776)
  have o3 := rN_one (b := b) (r := (rN b (rB b r 40).2 1099511627776).2) (m := 1099511627776) (by omega)
  have f3 := rN_off (b := b) (r := (rN b (rB b r 40).2 1099511627776).2) (m := 1099511627776)
  have o2 := rN_one (b := b) (r := (rB b r 40).2) (m := 1099511627776) (by omega)
  have f2 := rN_off (b := b) (r := (rB b r 40).2) (m := 1099511627776)
  have o1 := rB_one (b := b) hr (m := 40) (by omega)
  simp only at h ⊢
  generalize rB b (rN b (rN b (rN b (rB b r 40).2 1099511627776).2 1099511627776).2 1099511627776).2 4096 = w at *
  generalize rN b (rN b (rN b (rB b r 40).2 1099511627776).2 1099511627776).2 1099511627776 = n at *
  generalize rN b (rN b (rB b r 40).2 1099511627776).2 1099511627776 = a at *
  generalize rN b (rB b r 40).2 1099511627776 = v at *
  generalize rB b r 40 = k at *
  by_cases he : w.2.e = 0
  · rw [if_pos he] at h ⊢
    by_cases hc : ckE ⟨k.1, v.1, a.1, n.1, w.1⟩ = 0
    · rw [if_pos hc]
      have g4 := f5 he
      have g3 := f4 g4
      have g2 := f3 g3
      have g1 := f2 g2
      refine ⟨hc, ?_, ?_⟩
      · simp only [encE, Int.toNat_natCast, List.append_assoc]
        rw [(o1 g1).1, (o2 g2).1, (o3 g3).1, (o4 g4).1, (o5 he).1]
      · have := (o1 g1).2.1
        simp only
        omega
    · rw [if_neg hc] at h
      exact absurd h hc
  · rw [if_neg he] at h
    exact absurd h he
end Go.Proofs.YtgfedohhkbmobaaDoor
namespace Go.Proofs.YtgfedohhkbmobaaDoor
open Go Go.Va
set_option linter.unusedVariables false
set_option linter.unusedSimpArgs false
set_option maxRecDepth 20000
noncomputable def butteryref05_Put_b0 (x0 : api_Leaf) (c35 : List (BitVec 8)) : Option (((List (BitVec 8))) ⊕ ((List (BitVec 8)))) :=
  lt (((c35).length : Int)) fun v46 =>
  lt (decide (v46 < (244 : Int))) fun v48 =>
  if v48 = true then
    (app 1 c35 ([0#8] : List (BitVec 8))).bind fun v51 =>
    some (.inl v51)
  else
    some (.inr c35)
noncomputable def butteryref05_Put_l0 (x0 : api_Leaf) (s : (List (BitVec 8))) : Option ((List (BitVec 8))) := loopO (fun s => butteryref05_Put_b0 x0 s) s
noncomputable def butteryref05_Put (x0 : api_Leaf) : Option ((List (BitVec 8)) × Int) :=
  (butteryref05_Check x0).bind fun v2 =>
  lt (v2 != (0 : Int)) fun v4 =>
  if v4 = true then
    some ([], v2)
  else
    lt (BitVec.ofInt 64 x0.Stamp) fun v7 =>
    (butteryref02_Word [] v7).bind fun v9 =>
    lt (BitVec.ofInt 8 x0.Kind) fun v12 =>
    lt (((x0.Bytes).length : Int)) fun v14 =>
    lt (quo64 v14 (256 : Int)) fun v16 =>
    lt (BitVec.ofInt 8 v16) fun v18 =>
    lt (((x0.Bytes).length : Int)) fun v20 =>
    lt (Int.tmod v20 (256 : Int)) fun v22 =>
    lt (BitVec.ofInt 8 v22) fun v24 =>
    lt (([v12, v18, v24] : List (BitVec 8))) fun v26 =>
    (app 1 v9 v26).bind fun v28 =>
    (app 1 v28 x0.Bytes).bind fun v32 =>
    (butteryref05_Put_l0 x0 v32).bind fun s43 =>
      (butteryref03_Seal s43).bind fun v56 =>
      lt (BitVec.ofInt 64 x0.Stamp) fun v58 =>
      (butteryref02_Word v56 v58).bind fun v60 =>
      some (v60, (0 : Int))
end Go.Proofs.YtgfedohhkbmobaaDoor
namespace Go.Proofs.YtgfedohhkbmobaaDoor
open Go Go.Va
set_option linter.unusedVariables false
set_option linter.unusedSimpArgs false
def lkE (x : api_Leaf) : Int :=
  if x.Stamp < 1 ∨ x.Stamp > 1099511627776 then 2 else if x.Kind < 1 ∨ x.Kind > 5 then 12 else if 233 < x.Bytes.length then 3 else 0
def lkErr (x : api_Leaf) : Err :=
  if x.Stamp < 1 ∨ x.Stamp > 1099511627776 then .fault [115#8, 116#8, 97#8, 109#8, 112#8] x.Stamp 2 .nil else if x.Kind < 1 ∨ x.Kind > 5 then .fault [107#8, 105#8, 110#8, 100#8] x.Kind 12 .nil else if 233 < x.Bytes.length then .fault [108#8, 101#8, 97#8, 102#8] x.Bytes.length 3 .nil else .nil
theorem leafCheck_eq (x : api_Leaf) : leaf_Check x = some (lkErr x) := by
  unfold leaf_Check lkErr
  have n1 := new_eq [115#8, 116#8, 97#8, 109#8, 112#8] x.Stamp 2 (by decide)
  have n2 := new_eq [107#8, 105#8, 110#8, 100#8] x.Kind 12 (by decide)
  have n3 := new_eq [108#8, 101#8, 97#8, 102#8] x.Bytes.length 3 (by decide)
  have e5 : decide ((x.Bytes.length : Int) > 233) = decide (233 < x.Bytes.length) := decide_eq_decide.2 (by omega)
  simp only [lt_eq, n1, n2, n3, Option.bind_some, e5]
  by_cases h1 : x.Stamp < 1 <;> by_cases h2 : x.Stamp > 1099511627776 <;> by_cases h3 : x.Kind < 1 <;> by_cases h4 : x.Kind > 5 <;> by_cases h5 : 233 < x.Bytes.length <;> simp [h1, h2, h3, h4, h5]
theorem check_eq5 (x : api_Leaf) : ∃ e, leaf_Check x = some e ∧ codeOf e = lkE x ∧ e.isNil = decide (lkE x = 0) := by
  refine ⟨lkErr x, leafCheck_eq x, ?_, ?_⟩
  · unfold lkErr lkE
    split
    · rfl
    · split
      · rfl
      · split
        · rfl
        · rfl
  · unfold lkErr lkE
    split
    · rfl
    · split
      · rfl
      · split
        · rfl
        · rfl
theorem refCheck_eq5 (x : api_Leaf) : butteryref05_Check x = some (lkE x) := by
  unfold butteryref05_Check lkE
  have e5 : decide ((x.Bytes.length : Int) > 233) = decide (233 < x.Bytes.length) := decide_eq_decide.2 (by omega)
  simp only [lt_eq, e5]
  by_cases h1 : x.Stamp < 1 <;> by_cases h2 : x.Stamp > 1099511627776 <;> by_cases h3 : x.Kind < 1 <;> by_cases h4 : x.Kind > 5 <;> by_cases h5 : 233 < x.Bytes.length <;> simp [h1, h2, h3, h4, h5]
theorem lk_ok {x : api_Leaf} (h : lkE x = 0) : 1 ≤ x.Stamp ∧ x.Stamp ≤ 1099511627776 ∧ 1 ≤ x.Kind ∧ x.Kind ≤ 5 ∧ x.Bytes.length ≤ 233 := by
  unfold lkE at h
  split at h
  · cases h
  · split at h
    · cases h
    · split at h
      · cases h
      · omega
theorem lk_of {x : api_Leaf} (h1 : 1 ≤ x.Stamp) (h2 : x.Stamp ≤ 1099511627776) (h3 : 1 ≤ x.Kind) (h4 : x.Kind ≤ 5) (h5 : x.Bytes.length ≤ 233) : lkE x = 0 := by
  unfold lkE
  rw [if_neg (by omega), if_neg (by omega), if_neg (by omega)]
/-! ### words and stamps -/
theorem word_app (l : List (BitVec 8)) (c : BitVec 8) : word (l ++ [c]) = stp (word l) c := by simp [word]
/-- Eight bytes are those of their word. -/
theorem wd_word {l : List (BitVec 8)} (h : l.length = 8) : wd (word l) 8 = l := by
  obtain ⟨a, b, c, d, e, f, g, k, rfl⟩ : ∃ a b c d e f g k, l = [a, b, c, d, e, f, g, k] := by
    match l, h with
    | [a, b, c, d, e, f, g, k], _ => exact ⟨a, b, c, d, e, f, g, k, rfl⟩
  simp only [wd, List.range, List.range.loop, List.map_cons, List.map_nil, word, List.foldl_cons, List.foldl_nil, stp, List.cons.injEq, and_true]
  refine ⟨?_, ?_, ?_, ?_, ?_, ?_, ?_, ?_⟩ <;>
  · apply BitVec.eq_of_getLsbD_eq
    intro i hi
    simp only [BitVec.getLsbD_setWidth, BitVec.getLsbD_ushiftRight, BitVec.getLsbD_or, BitVec.getLsbD_shiftLeft, BitVec.getLsbD_zero]
    have : i = 0 ∨ i = 1 ∨ i = 2 ∨ i = 3 ∨ i = 4 ∨ i = 5 ∨ i = 6 ∨ i = 7 := by omega
    rcases this with rfl | rfl | rfl | rfl | rfl | rfl | rfl | rfl <;> simp
theorem word_inj {l m : List (BitVec 8)} (h1 : l.length = 8) (h2 : m.length = 8) (h : word l = word m) : l = m := by
  rw [← wd_word h1, ← wd_word h2, h]
def fitN (n : BitVec 64) : Int := if 1099511627776#64 < n then 0 else n.toInt
theorem stamps1_eq (n : BitVec 64) : leaf_Stamps_1 n = some (fitN n) := by
  unfold leaf_Stamps_1 fitN
  simp only [lt_eq]
  by_cases h : 1099511627776#64 < n
  · rw [if_pos (decide_eq_true h), if_pos h]
  · rw [if_neg (by simpa using h), if_neg h]
theorem cut8_0 {b : List (BitVec 8)} : cut8 b 0 = b.take 8 := by simp [cut8]
theorem leafWord_eq {b : List (BitVec 8)} (h : 8 ≤ b.length) : leaf_word b = some (word (b.take 8)) := by
  unfold leaf_word
  rw [show (8 : Int) = ((8 : Nat) : Int) from rfl, cutTo_eq h]
  have hl : (b.take 8).length = 8 := by rw [List.length_take]; omega
  simp only [Option.bind_some]
  rw [read_eq (by omega)]
  simp only [Option.bind_some]
  have := octWordR_eq (b := b.take 8) (a := 0) (by omega) (by omega)
  rw [if_pos (by omega), cut8_0, List.take_take] at this
  rw [show ((0 : Nat) : Int) = 0 from rfl] at this
  rw [this]
  rfl
theorem stamp_eq {b : List (BitVec 8)} (h : b.length = 8) : butteryref05_stamp b = some (fitN (word b)) := by
  unfold butteryref05_stamp
  simp only [lt_eq]
  have := eight_eq (b := b) (a := 0) (by omega) (by omega)
  rw [if_pos (by omega), cut8_0, List.take_of_length_le (by omega)] at this
  rw [show ((0 : Nat) : Int) = 0 from rfl] at this
  rw [this]
  simp only [Option.bind_some]
  unfold fitN
  by_cases h : 1099511627776#64 < word b
  · rw [if_pos (decide_eq_true h), if_pos h]
  · rw [if_neg (by simpa using h), if_neg h]
def ahead (b : List (BitVec 8)) : List (BitVec 8) := b.take 8
def behind (b : List (BitVec 8)) : List (BitVec 8) := b.drop 248
def stE (b : List (BitVec 8)) : Int × Int := if b.length = 256 then (fitN (word (ahead b)), fitN (word (behind b))) else (0, 0)
theorem stamps_eq (b : List (BitVec 8)) : leaf_Stamps b = some (stE b) := by
  unfold leaf_Stamps stE
  simp only [lt_eq]
  by_cases h : b.length = 256
  · rw [if_neg (by simp [h]), if_pos h, leafWord_eq (by omega)]
    simp only [Option.bind_some, stamps1_eq]
    rw [show (248 : Int) = ((248 : Nat) : Int) from rfl, cutFrom_eq (by omega)]
    have hl : (b.drop 248).length = 8 := by rw [List.length_drop]; omega
    simp only [Option.bind_some]
    rw [leafWord_eq (by omega), List.take_of_length_le (by omega)]
    simp only [Option.bind_some, stamps1_eq]
    rfl
  · rw [if_pos (by simp; omega), if_neg h]
theorem refStamps_eq (b : List (BitVec 8)) : butteryref05_Stamps b = some (stE b) := by
  unfold butteryref05_Stamps stE
  simp only [lt_eq]
  by_cases h : b.length = 256
  · rw [if_neg (by simp [h]), if_pos h, show (248 : Int) = ((248 : Nat) : Int) from rfl, show (8 : Int) = ((8 : Nat) : Int) from rfl, cutFrom_eq (by omega), cutTo_eq (by omega)]
    simp only [Option.bind_some]
    rw [stamp_eq (by rw [List.length_take]; omega)]
    simp only [Option.bind_some]
    rw [stamp_eq (by rw [List.length_drop]; omega)]
    rfl
  · rw [if_pos (by simp; omega), if_neg h]
theorem fitN_zero {n : BitVec 64} (h : fitN n ≠ 0) : n = BitVec.ofInt 64 (fitN n) ∧ 1 ≤ fitN n ∧ fitN n ≤ 1099511627776 := by
  unfold fitN at h ⊢
  split at h
  · exact absurd rfl h
  · rename_i hn
    rw [if_neg hn]
    have h1 : n.toNat ≤ 1099511627776 := by
      have := hn
      rw [BitVec.lt_def] at this
      simpa using this
    have h2 : n.toInt = (n.toNat : Int) := by rw [BitVec.toInt_eq_toNat_of_lt (by omega)]
    rw [h2] at h ⊢
    refine ⟨?_, by omega, by omega⟩
    apply BitVec.eq_of_toNat_eq
    rw [BitVec.ofInt_natCast, BitVec.toNat_ofNat, Nat.mod_eq_of_lt n.isLt]
theorem fitN_of {s : Int} (h1 : 1 ≤ s) (h2 : s ≤ 1099511627776) : fitN (BitVec.ofInt 64 s) = s := by
  obtain ⟨k, rfl⟩ : ∃ k : Nat, s = k := ⟨s.toNat, by omega⟩
  unfold fitN
  have hk : (BitVec.ofInt 64 (k : Int)).toNat = k := by rw [BitVec.ofInt_natCast, BitVec.toNat_ofNat, Nat.mod_eq_of_lt (by omega)]
  rw [if_neg (by rw [BitVec.lt_def, hk]; simp; omega), BitVec.toInt_eq_toNat_of_lt (by omega), hk]
/-! ### pages put -/
def bodyE (x : api_Leaf) : List (BitVec 8) := wd (BitVec.ofInt 64 x.Stamp) 8 ++ ([BitVec.ofInt 8 x.Kind, 0#8, BitVec.ofNat 8 x.Bytes.length] ++ (x.Bytes ++ List.replicate (233 - x.Bytes.length) 0#8))
def pgE (x : api_Leaf) : List (BitVec 8) := cseal (bodyE x) ++ wd (BitVec.ofInt 64 x.Stamp) 8
theorem body_len {x : api_Leaf} (h : x.Bytes.length ≤ 233) : (bodyE x).length = 244 := by
  simp only [bodyE, List.length_append, wd_len, List.length_cons, List.length_nil, List.length_replicate]; omega
theorem pg_len {x : api_Leaf} (h : x.Bytes.length ≤ 233) : (pgE x).length = 256 := by
  simp only [pgE, List.length_append, wd_len, cseal_len, body_len h]
theorem put_eq5 (x : api_Leaf) : (lkE x = 0 → leaf_Put x = some (pgE x, .nil)) ∧ (lkE x ≠ 0 → ∃ e, leaf_Put x = some ([], e) ∧ codeOf e = lkE x ∧ e.isNil = false) := by
  obtain ⟨e, c1, c2, c3⟩ := check_eq5 x
  unfold leaf_Put
  simp only [c1, Option.bind_some, lt_eq, c3]
  refine ⟨fun h => ?_, fun h => ⟨e, by rw [if_pos (by simp [h])], c2, by rw [c3]; simpa using h⟩⟩
  have hl := (lk_ok h).2.2.2.2
  rw [if_neg (by simp [h]), octWord_eq _ _ (by simp)]
  simp only [Option.bind_some, List.nil_append]
  have e1 : BitVec.ofInt 8 (shr64 (x.Bytes.length : Int) 8) = 0#8 := by
    have : shr64 (x.Bytes.length : Int) 8 = 0 := by
      generalize x.Bytes.length = k at hl
      show Int.fdiv (k : Int) 256 = 0
      rw [Int.fdiv_eq_ediv_of_nonneg _ (by decide)]
      omega
    rw [this]; rfl
  have hw := wd_len (BitVec.ofInt 64 x.Stamp) 8
  rw [e1, app_eq (by simp [hw])]
  simp only [Option.bind_some]
  rw [app_eq (by simp [hw]; omega)]
  simp only [Option.bind_some]
  rw [w64_eq (by simp [hw]; omega) (by simp [hw]; omega)]
  have hm : mkS 1 ((244 : Int) - ((wd (BitVec.ofInt 64 x.Stamp) 8 ++ [BitVec.ofInt 8 x.Kind, 0#8, BitVec.ofInt 8 (x.Bytes.length : Int)] ++ x.Bytes).length : Int)) (0#8 : BitVec 8) = some (List.replicate (233 - x.Bytes.length) 0#8) := by
    have e2 : (244 : Int) - ((wd (BitVec.ofInt 64 x.Stamp) 8 ++ [BitVec.ofInt 8 x.Kind, 0#8, BitVec.ofInt 8 (x.Bytes.length : Int)] ++ x.Bytes).length : Int) = ((233 - x.Bytes.length : Nat) : Int) := by
      simp only [List.length_append, hw, List.length_cons, List.length_nil]; omega
    rw [e2]
    unfold mkS
    rw [if_pos (by omega), Int.toNat_natCast]
  rw [hm]
  simp only [Option.bind_some]
  rw [app_eq (by simp [hw]; omega)]
  simp only [Option.bind_some]
  have e3 : wd (BitVec.ofInt 64 x.Stamp) 8 ++ [BitVec.ofInt 8 x.Kind, 0#8, BitVec.ofInt 8 (x.Bytes.length : Int)] ++ x.Bytes ++ List.replicate (233 - x.Bytes.length) 0#8 = bodyE x := by
    rw [BitVec.ofInt_natCast]; simp [bodyE]
  have hbl := body_len hl
  rw [e3, seal_eq (by omega)]
  simp only [Option.bind_some]
  rw [octWord_eq _ _ (by rw [cseal_len]; omega)]
  rfl
theorem refPut_eq5 (x : api_Leaf) : (lkE x = 0 → butteryref05_Put x = some (pgE x, 0)) ∧ (lkE x ≠ 0 → butteryref05_Put x = some ([], lkE x)) := by
  unfold butteryref05_Put
  simp only [refCheck_eq5, Option.bind_some, lt_eq]
  refine ⟨fun h => ?_, fun h => by rw [if_pos (by simpa using h)]⟩
  have hl := (lk_ok h).2.2.2.2
  rw [if_neg (by simp [h]), refWord_eq _ _ (by simp)]
  simp only [Option.bind_some, List.nil_append]
  have e1 : BitVec.ofInt 8 (quo64 (x.Bytes.length : Int) 256) = 0#8 := by
    have : quo64 (x.Bytes.length : Int) 256 = 0 := by
      rw [quo64, Int.tdiv_eq_ediv_of_nonneg (by omega), w64_eq (by omega) (by omega)]; omega
    rw [this]; rfl
  have e2 : BitVec.ofInt 8 ((x.Bytes.length : Int).tmod 256) = BitVec.ofNat 8 x.Bytes.length := by
    rw [Int.tmod_eq_emod_of_nonneg (by omega), Int.emod_eq_of_lt (by omega) (by omega), BitVec.ofInt_natCast]
  have hw := wd_len (BitVec.ofInt 64 x.Stamp) 8
  rw [e1, e2, app_eq (by simp [hw])]
  simp only [Option.bind_some]
  rw [app_eq (by simp [hw]; omega)]
  simp only [Option.bind_some]
  have k := loopO_up (body := fun s => butteryref05_Put_b0 x s) (fun i : Nat => wd (BitVec.ofInt 64 x.Stamp) 8 ++ [BitVec.ofInt 8 x.Kind, 0#8, BitVec.ofNat 8 x.Bytes.length] ++ x.Bytes ++ List.replicate i 0#8) (233 - x.Bytes.length) (x := bodyE x) (fun i hi => by
    simp only [butteryref05_Put_b0, lt_eq]
    rw [if_pos (decide_eq_true (by simp [hw]; omega)), app_eq (by simp [hw]; omega)]
    simp only [Option.bind_some]
    rw [List.append_assoc, ← List.replicate_succ']) (by
    simp only [butteryref05_Put_b0, lt_eq]
    rw [if_neg (by rw [decide_eq_false (by simp [hw]; omega)]; simp)]
    simp [bodyE])
  have k' : butteryref05_Put_l0 x (wd (BitVec.ofInt 64 x.Stamp) 8 ++ [BitVec.ofInt 8 x.Kind, 0#8, BitVec.ofNat 8 x.Bytes.length] ++ x.Bytes) = some (bodyE x) := by
    unfold butteryref05_Put_l0
    simpa using k
  have hbl := body_len hl
  rw [k']
  simp only [Option.bind_some]
  rw [rcSeal_eq (by omega)]
  simp only [Option.bind_some]
  rw [refWord_eq _ _ (by rw [cseal_len]; omega)]
  rfl
end Go.Proofs.YtgfedohhkbmobaaDoor
namespace Go.Proofs.YtgfedohhkbmobaaDoor
open Go Go.Va
set_option linter.unusedVariables false
set_option linter.unusedSimpArgs false
def zeroL : api_Leaf := ⟨0, 0, []⟩
def szB (b : List (BitVec 8)) : Nat := (b.getD 9 0#8).toNat * 256 + (b.getD 10 0#8).toNat
def inE (b : List (BitVec 8)) (n : Nat) : api_Leaf := ⟨fitN (word (ahead b)), ((b.getD 8 0#8).toNat : Int), (b.take (11 + n)).drop 11⟩
def restE (b : List (BitVec 8)) (n : Nat) : List (BitVec 8) := (b.take 244).drop (11 + n)
def noughts (l : List (BitVec 8)) : Bool := l.all (· == 0#8)
def gtE (b : List (BitVec 8)) : api_Leaf × Int :=
  if b.length ≠ 256 then (zeroL, 6) else if word (ahead b) ≠ word (behind b) then (zeroL, 8) else if fitN (word (ahead b)) = 0 then (zeroL, 9) else if cfits (b.take 248) = false then (zeroL, 7)
  else if 233 < szB b then (zeroL, 5) else if lkE (inE b (szB b)) ≠ 0 then (zeroL, lkE (inE b (szB b))) else if noughts (restE b (szB b)) = false then (zeroL, 5) else (inE b (szB b), 0)
theorem or_shl (a c : BitVec 8) : or64 (shl64 (a.toNat : Int) 8) (c.toNat : Int) = ((a.toNat * 256 + c.toNat : Nat) : Int) := by
  have ha := a.isLt
  have hc := c.isLt
  have e1 : shl64 (a.toNat : Int) 8 = ((a.toNat * 256 : Nat) : Int) := by
    show w64 _ = _
    rw [w64_eq (by simp [Int.shiftLeft_eq]; omega) (by simp [Int.shiftLeft_eq]; omega)]
    simp [Int.shiftLeft_eq]
  rw [e1]
  have e2 : (a.toNat * 256) ||| c.toNat = a.toNat * 256 + c.toNat := by
    have := Nat.two_pow_add_eq_or_of_lt (i := 8) hc a.toNat
    rw [show (2 : Nat) ^ 8 = 256 from rfl, Nat.mul_comm] at this
    exact this.symm
  have e3 : (BitVec.ofInt 64 ((a.toNat * 256 : Nat) : Int) ||| BitVec.ofInt 64 (c.toNat : Int)).toNat = a.toNat * 256 + c.toNat := by
    rw [BitVec.toNat_or, BitVec.ofInt_natCast, BitVec.ofInt_natCast, BitVec.toNat_ofNat, BitVec.toNat_ofNat, Nat.mod_eq_of_lt (by omega), Nat.mod_eq_of_lt (by omega), e2]
  show IntKind.i64.wrap _ = _
  show w64 ((BitVec.ofInt 64 ((a.toNat * 256 : Nat) : Int) ||| BitVec.ofInt 64 (c.toNat : Int)).toNat : Int) = _
  rw [e3, w64_eq (by omega) (by omega)]
theorem noughts_cons (c : BitVec 8) (l : List (BitVec 8)) : noughts (c :: l) = (c == 0#8 && noughts l) := rfl
theorem gt_len {b : List (BitVec 8)} (hl : b.length ≠ 256) : gtE b = (zeroL, 6) := if_pos hl
theorem gt_torn {b : List (BitVec 8)} (hl : b.length = 256) (h1 : word (ahead b) ≠ word (behind b)) : gtE b = (zeroL, 8) := by
  unfold gtE
  rw [if_neg (show ¬ b.length ≠ 256 by simpa using hl), if_pos h1]
theorem gt_none {b : List (BitVec 8)} (hl : b.length = 256) (h1 : word (ahead b) = word (behind b)) (h2 : fitN (word (ahead b)) = 0) : gtE b = (zeroL, 9) := by
  unfold gtE
  rw [if_neg (show ¬ b.length ≠ 256 by simpa using hl), if_neg (show ¬ word (ahead b) ≠ word (behind b) by simpa using h1), if_pos h2]
theorem gt_go {b : List (BitVec 8)} (hl : b.length = 256) (h1 : word (ahead b) = word (behind b)) (h2 : fitN (word (ahead b)) ≠ 0) : gtE b = if cfits (b.take 248) = false then (zeroL, 7)
  else if 233 < szB b then (zeroL, 5) else if lkE (inE b (szB b)) ≠ 0 then (zeroL, lkE (inE b (szB b))) else if noughts (restE b (szB b)) = false then (zeroL, 5) else (inE b (szB b), 0) := by
  unfold gtE
  rw [if_neg (show ¬ b.length ≠ 256 by simpa using hl), if_neg (show ¬ word (ahead b) ≠ word (behind b) by simpa using h1), if_neg h2]
theorem zeros_l (p : Int × Int) (x : api_Leaf) {l : List (BitVec 8)} (hl : l.length ≤ 1000) : ∀ (k i : Nat), k + i = l.length → leaf_Get_l0 p x l (l.length : Int) (i : Int) = some (if noughts (l.drop i) = true then .inl () else .inr (zeroL, .fault [112#8, 97#8, 103#8, 101#8] p.1 5 .nil))
  | 0, i, h => by
    rw [List.drop_of_length_le (by omega), if_pos (show noughts [] = true from rfl)]
    refine loopO_out (body := fun s => leaf_Get_b0 p x l (l.length : Int) s) ?_
    simp only [leaf_Get_b0, lt_eq]
    rw [if_neg (by rw [decide_eq_false (by omega)]; simp)]
  | k + 1, i, h => by
    have hi : i < l.length := by omega
    rw [List.drop_eq_getElem_cons hi]
    by_cases hc : l[i] = 0#8
    · have e1 : leaf_Get_l0 p x l (l.length : Int) (i : Int) = leaf_Get_l0 p x l (l.length : Int) ((i + 1 : Nat) : Int) := by
        refine loopO_in (body := fun s => leaf_Get_b0 p x l (l.length : Int) s) ?_
        simp only [leaf_Get_b0, lt_eq]
        rw [if_pos (decide_eq_true (by omega)), ix_nat hi]
        simp only [Option.bind_some]
        rw [if_neg (by simp [hc]), w64_nat (by omega)]
      rw [e1, zeros_l p x hl k (i + 1) (by omega)]
      rw [noughts_cons]; simp [hc]
    · rw [noughts_cons, if_neg (by simp [hc])]
      refine loopO_out (body := fun s => leaf_Get_b0 p x l (l.length : Int) s) ?_
      simp only [leaf_Get_b0, lt_eq]
      rw [if_pos (decide_eq_true (by omega)), ix_nat hi]
      simp only [Option.bind_some]
      rw [if_pos (by simpa using hc), new_eq _ _ _ (by decide)]
      rfl
theorem refZeros_l (m s : Int) (y : List (BitVec 8)) {b : List (BitVec 8)} (hb : b.length = 256) : ∀ (k i : Nat), k + i = 244 → butteryref05_Get_l0 b m s y (i : Int) = some (if noughts ((b.take 244).drop i) = true then .inl () else .inr (zeroL, 5))
  | 0, i, h => by
    rw [List.drop_of_length_le (by rw [List.length_take]; omega), if_pos (show noughts [] = true from rfl)]
    refine loopO_out (body := fun t => butteryref05_Get_b0 b m s y t) ?_
    simp only [butteryref05_Get_b0, lt_eq]
    rw [if_neg (by rw [decide_eq_false (by omega)]; simp)]
  | k + 1, i, h => by
    have hi : i < (b.take 244).length := by rw [List.length_take]; omega
    have hi2 : i < b.length := by omega
    rw [List.drop_eq_getElem_cons hi, List.getElem_take]
    by_cases hc : b[i] = 0#8
    · have e1 : butteryref05_Get_l0 b m s y (i : Int) = butteryref05_Get_l0 b m s y ((i + 1 : Nat) : Int) := by
        refine loopO_in (body := fun t => butteryref05_Get_b0 b m s y t) ?_
        simp only [butteryref05_Get_b0, lt_eq]
        rw [if_pos (decide_eq_true (by omega)), ix_nat hi2]
        simp only [Option.bind_some]
        rw [if_neg (by simp [hc]), w64_nat (by omega)]
      rw [e1, refZeros_l m s y hb k (i + 1) (by omega)]
      rw [noughts_cons]; simp [hc]
    · rw [noughts_cons, if_neg (by simp [hc])]
      refine loopO_out (body := fun t => butteryref05_Get_b0 b m s y t) ?_
      simp only [butteryref05_Get_b0, lt_eq]
      rw [if_pos (decide_eq_true (by omega)), ix_nat hi2]
      simp only [Option.bind_some]
      rw [if_pos (by simpa using hc)]
      rfl
theorem getD_at {b : List (BitVec 8)} {i : Nat} (h : i < b.length) : b.getD i 0#8 = b[i] := by
  rw [List.getD_eq_getElem?_getD, List.getElem?_eq_getElem h]; rfl
theorem get_eq5 {b : List (BitVec 8)} (hb : b.length ≤ 1000000) : ∃ e, leaf_Get b = some ((gtE b).1, e) ∧ codeOf e = (gtE b).2 ∧ e.isNil = decide ((gtE b).2 = 0) := by
  unfold leaf_Get
  simp only [lt_eq]
  by_cases hl : b.length = 256
  · rw [if_neg (by simp [hl]), stamps_eq]
    have hst : stE b = (fitN (word (ahead b)), fitN (word (behind b))) := by unfold stE; rw [if_pos hl]
    have hbe : (behind b).length = 8 := by simp [behind, hl]
    rw [show (9 : Int) = ((9 : Nat) : Int) from rfl, show (10 : Int) = ((10 : Nat) : Int) from rfl, show (8 : Int) = ((8 : Nat) : Int) from rfl, show (248 : Int) = ((248 : Nat) : Int) from rfl, ix_nat (show 9 < b.length by omega), ix_nat (show 10 < b.length by omega), ix_nat (show 8 < b.length by omega), leafWord_eq (show 8 ≤ b.length by omega), cutFrom_eq (by omega), cutTo_eq (by omega)]
    simp only [Option.bind_some, hst]
    have hw2 : leaf_word (b.drop 248) = some (word (behind b)) := by
      rw [leafWord_eq (by simp [hl]), List.take_of_length_le (by simp [hl])]; rfl
    have hn : or64 (shl64 (b[9].toNat : Int) ((8 : Nat) : Int).toNat) (b[10].toNat : Int) = (szB b : Int) := by
      have := or_shl b[9] b[10]
      unfold szB
      rw [getD_at (show 9 < b.length by omega), getD_at (show 10 < b.length by omega)]
      exact this
    have hn' : or64 (shl64 (b[9].toNat : Int) 8) (b[10].toNat : Int) = (szB b : Int) := hn
    simp only [hw2, hn', Option.bind_some]
    have ha : b.take 8 = ahead b := rfl
    rw [ha]
    by_cases h1 : word (ahead b) = word (behind b)
    · rw [if_neg (by simp [h1])]
      by_cases h2 : fitN (word (ahead b)) = 0
      · rw [gt_none hl h1 h2, h2, new_eq _ _ _ (by decide)]
        exact ⟨_, rfl, rfl, rfl⟩
      · rw [gt_go hl h1 h2, ← h1]
        have h2' : (fitN (word (ahead b)) == 0) = false := by simpa using h2
        simp only [h2', Option.bind_some, Bool.false_eq_true, if_false]
        rw [fits_eq (by rw [List.length_take]; omega)]
        simp only [Option.bind_some]
        cases h3 : cfits (b.take 248) with
        | false =>
          simp only [Bool.not_false, if_true]
          rw [new_eq _ _ _ (by decide)]
          exact ⟨_, rfl, rfl, rfl⟩
        | true =>
          simp only [Bool.not_true, Bool.false_eq_true, if_false, reduceCtorEq]
          by_cases h4 : 233 < szB b
          · have h4' : decide ((szB b : Int) > 233) = true := decide_eq_true (by omega)
            simp only [h4', if_pos h4, if_true]
            rw [new_eq _ _ _ (by decide)]
            exact ⟨_, rfl, rfl, rfl⟩
          · have h4' : decide ((szB b : Int) > 233) = false := decide_eq_false (by omega)
            simp only [h4', if_neg h4, Bool.false_eq_true, if_false]
            have hw : w64 (11 + (szB b : Int)) = ((11 + szB b : Nat) : Int) := by rw [w64_eq (by omega) (by omega)]; omega
            have hc1 : cutO b 11 ((11 + szB b : Nat) : Int) = some ((b.take (11 + szB b)).drop 11) := by
              unfold cutO; rw [if_pos (by omega)]; rfl
            have hc2 : cutO b ((11 + szB b : Nat) : Int) 244 = some (restE b (szB b)) := by
              unfold cutO; rw [if_pos (by omega)]; rfl
            simp only [hw, hc1, hc2, Option.bind_some]
            rw [app_eq (by simp; omega)]
            simp only [Option.bind_some, List.nil_append]
            have hx : (⟨fitN (word (ahead b)), (b[8].toNat : Int), (b.take (11 + szB b)).drop 11⟩ : api_Leaf) = inE b (szB b) := by
              unfold inE; rw [getD_at (show 8 < b.length by omega)]
            rw [hx]
            obtain ⟨e, c1, c2, c3⟩ := check_eq5 (inE b (szB b))
            simp only [c1, Option.bind_some, c3]
            by_cases h5 : lkE (inE b (szB b)) = 0
            · have h5' : (!decide (lkE (inE b (szB b)) = 0)) = false := by simp [h5]
              simp only [h5, decide_true, Bool.not_true, Bool.false_eq_true, if_false, ne_eq, not_true_eq_false]
              have hz := zeros_l (fitN (word (ahead b)), fitN (word (ahead b))) (inE b (szB b)) (l := restE b (szB b)) (by simp [restE]; omega) (restE b (szB b)).length 0 rfl
              rw [List.drop_zero, show ((0 : Nat) : Int) = 0 from rfl] at hz
              rw [hz]
              simp only [Option.bind_some]
              cases h6 : noughts (restE b (szB b)) with
              | true => exact ⟨_, rfl, rfl, rfl⟩
              | false => exact ⟨_, rfl, rfl, rfl⟩
            · have h5' : (!decide (lkE (inE b (szB b)) = 0)) = true := by simp [h5]
              simp only [h5', if_true, if_pos (show lkE (inE b (szB b)) ≠ 0 from h5)]
              rw [wrap_eq _ _ _ (by rw [c3]; simpa using h5)]
              refine ⟨_, rfl, ?_, ?_⟩
              · simp only [codeOf, c2, if_true]
              · simp [Err.isNil, h5]
    · rw [if_pos (by simpa using h1), gt_torn hl h1, new_eq _ _ _ (by decide)]
      exact ⟨_, rfl, rfl, rfl⟩
  · rw [if_pos (by simp; omega), gt_len hl, new_eq _ _ _ (by decide)]
    exact ⟨_, rfl, rfl, rfl⟩
theorem refGet_eq5 {b : List (BitVec 8)} (hb : b.length ≤ 1000000) : butteryref05_Get b = some (gtE b) := by
  unfold butteryref05_Get
  simp only [lt_eq]
  by_cases hl : b.length = 256
  · rw [if_neg (by simp [hl])]
    have hah : (ahead b).length = 8 := by simp [ahead, hl]
    have hbe : (behind b).length = 8 := by simp [behind, hl]
    rw [show (9 : Int) = ((9 : Nat) : Int) from rfl, show (10 : Int) = ((10 : Nat) : Int) from rfl, show (8 : Int) = ((8 : Nat) : Int) from rfl, show (248 : Int) = ((248 : Nat) : Int) from rfl, ix_nat (show 9 < b.length by omega), ix_nat (show 10 < b.length by omega), ix_nat (show 8 < b.length by omega), cutFrom_eq (by omega), cutTo_eq (show 248 ≤ b.length by omega), cutTo_eq (show 8 ≤ b.length by omega)]
    have ha : b.take 8 = ahead b := rfl
    have hbb : b.drop 248 = behind b := rfl
    simp only [Option.bind_some, ha, hbb, same_eq (ahead b) (behind b) (by omega), stamp_eq hah]
    by_cases h1 : word (ahead b) = word (behind b)
    · have h0 := word_inj hah hbe h1
      rw [if_neg (by simp [h0])]
      by_cases h2 : fitN (word (ahead b)) = 0
      · rw [gt_none hl h1 h2, if_pos (by simp [h2])]
        rfl
      · rw [gt_go hl h1 h2, if_neg (by simpa using h2), rcFits_eq (by rw [List.length_take]; omega)]
        simp only [Option.bind_some]
        cases h3 : cfits (b.take 248) with
        | false =>
          simp only [Bool.not_false, if_true]
          rfl
        | true =>
          simp only [Bool.not_true, Bool.false_eq_true, if_false, reduceCtorEq]
          have h9 := b[9].isLt
          have h10 := b[10].isLt
          have hn : w64 (w64 ((b[9].toNat : Int) * 256) + (b[10].toNat : Int)) = (szB b : Int) := by
            unfold szB
            rw [getD_at (show 9 < b.length by omega), getD_at (show 10 < b.length by omega), w64_eq (n := (b[9].toNat : Int) * 256) (by omega) (by omega), w64_eq (by omega) (by omega)]
            omega
          rw [hn]
          by_cases h4 : 233 < szB b
          · have h4' : decide ((szB b : Int) > 233) = true := decide_eq_true (by omega)
            simp only [h4', if_pos h4, if_true]
            rfl
          · have h4' : decide ((szB b : Int) > 233) = false := decide_eq_false (by omega)
            simp only [h4', if_neg h4, Bool.false_eq_true, if_false]
            have hw : w64 (11 + (szB b : Int)) = ((11 + szB b : Nat) : Int) := by rw [w64_eq (by omega) (by omega)]; omega
            have hc1 : cutO b 11 ((11 + szB b : Nat) : Int) = some ((b.take (11 + szB b)).drop 11) := by
              unfold cutO; rw [if_pos (by omega)]; rfl
            simp only [hw, hc1, Option.bind_some]
            rw [app_eq (by simp; omega)]
            simp only [Option.bind_some, List.nil_append]
            have hx : (⟨fitN (word (ahead b)), (b[8].toNat : Int), (b.take (11 + szB b)).drop 11⟩ : api_Leaf) = inE b (szB b) := by
              unfold inE; rw [getD_at (show 8 < b.length by omega)]
            rw [hx]
            simp only [refCheck_eq5, Option.bind_some]
            by_cases h5 : lkE (inE b (szB b)) = 0
            · simp only [h5, bne_self_eq_false, Bool.false_eq_true, if_false, ne_eq, not_true_eq_false]
              rw [refZeros_l _ _ _ hl (244 - (11 + szB b)) (11 + szB b) (by omega)]
              simp only [Option.bind_some]
              have hr : (b.take 244).drop (11 + szB b) = restE b (szB b) := rfl
              rw [hr]
              cases h6 : noughts (restE b (szB b)) with
              | true => rfl
              | false => rfl
            · rw [if_pos (by simpa using h5)]
              simp only [if_pos (show lkE (inE b (szB b)) ≠ 0 from h5)]
              rfl
    · have h0 : ahead b ≠ behind b := fun h => h1 (by rw [h])
      rw [if_pos (by simp [h0]), gt_torn hl h1]
      rfl
  · rw [if_pos (by simp; omega), gt_len hl]
    rfl
theorem same_eq5 (x y : api_Leaf) (hx : x.Bytes.length < 9223372036854775807) : butteryref05_Same x y = some (decide (x = y)) := by
  obtain ⟨a, b, c⟩ := x
  obtain ⟨a', b', c'⟩ := y
  unfold butteryref05_Same
  simp only [lt_eq]
  by_cases h1 : a = a'
  · subst h1
    by_cases h2 : b = b'
    · subst h2
      simp only [beq_self_eq_true, if_true, same_eq c c' hx, Option.bind_some]
      simp
    · simp [h2]
  · simp [h1]
theorem lsame_eq5 (x y : api_Leaf) : leaf_Same x y = some (decide (x = y)) := by
  obtain ⟨a, b, c⟩ := x
  obtain ⟨a', b', c'⟩ := y
  unfold leaf_Same
  simp only [lt_eq]
  by_cases h1 : a = a'
  · subst h1
    by_cases h2 : b = b'
    · subst h2
      by_cases h3 : c = c'
      · subst h3; simp
      · simp [h3]
    · simp [h2]
  · simp [h1]
end Go.Proofs.YtgfedohhkbmobaaDoor
namespace Go.Proofs.YtgfedohhkbmobaaDoor
open Go Go.Va
set_option linter.unusedVariables false
set_option linter.unusedSimpArgs false
theorem gt_spec {b : List (BitVec 8)} (h : (gtE b).2 = 0) : b.length = 256 ∧ word (ahead b) = word (behind b) ∧ fitN (word (ahead b)) ≠ 0 ∧ cfits (b.take 248) = true ∧ szB b ≤ 233 ∧ lkE (inE b (szB b)) = 0 ∧ noughts (restE b (szB b)) = true ∧ (gtE b).1 = inE b (szB b) := by
  by_cases hl : b.length = 256
  · by_cases h1 : word (ahead b) = word (behind b)
    · by_cases h2 : fitN (word (ahead b)) = 0
      · rw [gt_none hl h1 h2] at h; cases h
      · rw [gt_go hl h1 h2] at h ⊢
        cases h3 : cfits (b.take 248) with
        | false => rw [h3] at h; cases h
        | true =>
          simp only [h3, reduceCtorEq, if_false] at h ⊢
          by_cases h4 : 233 < szB b
          · rw [if_pos h4] at h; cases h
          · rw [if_neg h4] at h ⊢
            by_cases h5 : lkE (inE b (szB b)) = 0
            · simp only [h5, ne_eq, not_true_eq_false, if_false] at h ⊢
              cases h6 : noughts (restE b (szB b)) with
              | false => rw [h6] at h; cases h
              | true => exact ⟨hl, h1, h2, by first | trivial | rfl, by omega, by first | trivial | rfl | exact h5, by first | trivial | rfl, rfl⟩
            · rw [if_pos h5] at h; exact absurd h h5
    · rw [gt_torn hl h1] at h; cases h
  · rw [gt_len hl] at h; cases h
theorem gt_zero {b : List (BitVec 8)} (h : (gtE b).2 ≠ 0) : (gtE b).1 = zeroL := by
  by_cases hl : b.length = 256
  · by_cases h1 : word (ahead b) = word (behind b)
    · by_cases h2 : fitN (word (ahead b)) = 0
      · rw [gt_none hl h1 h2]
      · rw [gt_go hl h1 h2] at h ⊢
        split
        · rfl
        · split
          · rfl
          · split
            · rfl
            · split
              · rfl
              · rename_i h3 h4 h5 h6
                rw [if_neg h3, if_neg h4, if_neg h5, if_neg h6] at h
                exact absurd rfl h
    · rw [gt_torn hl h1]
  · rw [gt_len hl]
theorem gt_bytes {b : List (BitVec 8)} (hb : b.length ≤ 1000000) : (gtE b).1.Bytes.length < 9223372036854775807 := by
  by_cases h : (gtE b).2 = 0
  · rw [(gt_spec h).2.2.2.2.2.2.2]
    simp only [inE, List.length_drop, List.length_take]; omega
  · rw [gt_zero h]; simp [zeroL]
theorem noughts_rep (k : Nat) : noughts (List.replicate k 0#8) = true := by
  induction k with
  | zero => rfl
  | succ k ih => rw [List.replicate_succ, noughts_cons, ih]; rfl
theorem rep_noughts : ∀ {l : List (BitVec 8)}, noughts l = true → l = List.replicate l.length 0#8
  | [], _ => rfl
  | c :: l, h => by
    rw [noughts_cons, Bool.and_eq_true] at h
    rw [List.length_cons, List.replicate_succ, ← rep_noughts h.2, eq_of_beq h.1]
theorem pg_ahead {x : api_Leaf} : ahead (pgE x) = wd (BitVec.ofInt 64 x.Stamp) 8 := by
  simp only [ahead, pgE, cseal, bodyE, List.append_assoc]
  rw [List.take_left' (wd_len _ _)]
theorem pg_behind {x : api_Leaf} (h : x.Bytes.length ≤ 233) : behind (pgE x) = wd (BitVec.ofInt 64 x.Stamp) 8 := by
  simp only [behind, pgE]
  rw [List.drop_left' (by rw [cseal_len, body_len h])]
theorem pg_248 {x : api_Leaf} (h : x.Bytes.length ≤ 233) : (pgE x).take 248 = cseal (bodyE x) := by
  simp only [pgE]
  rw [List.take_left' (by rw [cseal_len, body_len h])]
theorem pg_244 {x : api_Leaf} (h : x.Bytes.length ≤ 233) : (pgE x).take 244 = bodyE x := by
  simp only [pgE, cseal, List.append_assoc]
  rw [List.take_left' (body_len h)]
theorem pg_head (x : api_Leaf) : ∃ r, pgE x = wd (BitVec.ofInt 64 x.Stamp) 8 ++ (BitVec.ofInt 8 x.Kind :: 0#8 :: BitVec.ofNat 8 x.Bytes.length :: (x.Bytes ++ r)) := by
  refine ⟨List.replicate (233 - x.Bytes.length) 0#8 ++ (cfour (csum (bodyE x)) ++ wd (BitVec.ofInt 64 x.Stamp) 8), ?_⟩
  simp only [pgE, cseal]
  conv => lhs; unfold bodyE
  simp [bodyE]
theorem gt_pg {x : api_Leaf} (hx : lkE x = 0) : gtE (pgE x) = (x, 0) := by
  obtain ⟨h1, h2, h3, h4, h5⟩ := lk_ok hx
  have hl := pg_len h5
  have hf : fitN (word (ahead (pgE x))) = x.Stamp := by rw [pg_ahead, word_full, fitN_of h1 h2]
  obtain ⟨r, hr⟩ := pg_head x
  have hw := wd_len (BitVec.ofInt 64 x.Stamp) 8
  have hk : (BitVec.ofInt 8 x.Kind).toNat = x.Kind.toNat := by
    obtain ⟨k, hk⟩ : ∃ k : Nat, x.Kind = k := ⟨x.Kind.toNat, by omega⟩
    rw [hk, BitVec.ofInt_natCast, BitVec.toNat_ofNat, Int.toNat_natCast, Nat.mod_eq_of_lt (by omega)]
  have g8 : (pgE x).getD 8 0#8 = BitVec.ofInt 8 x.Kind := by
    rw [hr, List.getD_eq_getElem?_getD, List.getElem?_append_right (by omega), hw]; rfl
  have g9 : (pgE x).getD 9 0#8 = 0#8 := by
    rw [hr, List.getD_eq_getElem?_getD, List.getElem?_append_right (by omega), hw]; rfl
  have g10 : (pgE x).getD 10 0#8 = BitVec.ofNat 8 x.Bytes.length := by
    rw [hr, List.getD_eq_getElem?_getD, List.getElem?_append_right (by omega), hw]; rfl
  have hs : szB (pgE x) = x.Bytes.length := by
    unfold szB
    rw [g9, g10, BitVec.toNat_ofNat, BitVec.toNat_ofNat]
    omega
  have hi : inE (pgE x) x.Bytes.length = x := by
    unfold inE
    rw [hf, g8, hk]
    have e : ((pgE x).take (11 + x.Bytes.length)).drop 11 = x.Bytes := by
      have e2 : pgE x = (wd (BitVec.ofInt 64 x.Stamp) 8 ++ [BitVec.ofInt 8 x.Kind, 0#8, BitVec.ofNat 8 x.Bytes.length]) ++ (x.Bytes ++ r) := by rw [hr]; simp
      have hl2 : (wd (BitVec.ofInt 64 x.Stamp) 8 ++ [BitVec.ofInt 8 x.Kind, 0#8, BitVec.ofNat 8 x.Bytes.length]).length = 11 := by simp [hw]
      rw [List.drop_take, e2, List.drop_left' hl2, show 11 + x.Bytes.length - 11 = x.Bytes.length by omega, List.take_left]
    rw [e]
    obtain ⟨s, k, b⟩ := x
    simp only at h3 ⊢
    rw [Int.toNat_of_nonneg (by omega)]
  have hz : noughts (restE (pgE x) x.Bytes.length) = true := by
    unfold restE
    rw [pg_244 h5]
    have e : bodyE x = (wd (BitVec.ofInt 64 x.Stamp) 8 ++ ([BitVec.ofInt 8 x.Kind, 0#8, BitVec.ofNat 8 x.Bytes.length] ++ x.Bytes)) ++ List.replicate (233 - x.Bytes.length) 0#8 := by simp [bodyE]
    rw [e, List.drop_left' (by simp [hw]; omega)]
    exact noughts_rep _
  rw [gt_go hl (by rw [pg_ahead, pg_behind h5]) (by rw [hf]; omega), pg_248 h5, cseal_fits, hs, hi, hz]
  simp only [reduceCtorEq, if_false, hx, ne_eq, not_true_eq_false]
  rw [if_neg (by omega)]
theorem cut4 (b : List (BitVec 8)) (hl : b.length = 256) (h : cfits (b.take 248) = true) : b = cseal (b.take 244) ++ behind b := by
  unfold cfits at h
  simp only [Bool.and_eq_true, decide_eq_true_eq] at h
  have e1 : (b.take 248).length - 4 = 244 := by rw [List.length_take]; omega
  have e2 := h.2
  rw [e1, List.take_take, show min 244 248 = 244 by omega] at e2
  unfold cseal
  rw [e2]
  have e3 : b.take 244 ++ (b.take 248).drop 244 = b.take 248 := by
    have := List.take_append_drop 244 (b.take 248)
    rwa [List.take_take, show min 244 248 = 244 by omega] at this
  rw [e3]
  exact (List.take_append_drop 248 b).symm
/-- Bytes that are read are the page of what they hold. -/
theorem pg_gt {b : List (BitVec 8)} (h : (gtE b).2 = 0) : lkE (gtE b).1 = 0 ∧ pgE (gtE b).1 = b := by
  obtain ⟨hl, h1, h2, h3, h4, h5, h6, h7⟩ := gt_spec h
  rw [h7]
  refine ⟨h5, ?_⟩
  have hah : (ahead b).length = 8 := by simp [ahead, hl]
  have hbe : (behind b).length = 8 := by simp [behind, hl]
  have hab := word_inj hah hbe h1
  obtain ⟨f1, f2, f3⟩ := fitN_zero h2
  have hw : wd (BitVec.ofInt 64 (fitN (word (ahead b)))) 8 = ahead b := by rw [← f1, wd_word hah]
  generalize hn : szB b = n at *
  have hlen : ((b.take (11 + n)).drop 11).length = n := by rw [List.length_drop, List.length_take]; omega
  have h9 : b.getD 9 0#8 = 0#8 := by
    apply BitVec.eq_of_toNat_eq
    unfold szB at hn
    show _ = 0
    omega
  have h10 : (b.getD 10 0#8).toNat = n := by
    unfold szB at hn
    rw [h9] at hn
    have : (0#8 : BitVec 8).toNat = 0 := rfl
    omega
  have hr : restE b n = List.replicate (233 - n) 0#8 := by
    have e := rep_noughts h6
    have e2 : (restE b n).length = 233 - n := by simp only [restE, List.length_drop, List.length_take]; omega
    rw [e2] at e
    exact e
  have hbody : bodyE (inE b n) = b.take 244 := by
    unfold bodyE inE
    simp only [hw, hlen]
    have e8 : BitVec.ofInt 8 ((b.getD 8 0#8).toNat : Int) = b.getD 8 0#8 := by
      rw [BitVec.ofInt_natCast]
      apply BitVec.eq_of_toNat_eq
      rw [BitVec.toNat_ofNat, Nat.mod_eq_of_lt (b.getD 8 0#8).isLt]
    have e10 : BitVec.ofNat 8 n = b.getD 10 0#8 := by
      apply BitVec.eq_of_toNat_eq
      rw [BitVec.toNat_ofNat, ← h10, Nat.mod_eq_of_lt (b.getD 10 0#8).isLt]
    rw [e8, e10, ← hr]
    have e3 : ([b.getD 8 0#8, 0#8, b.getD 10 0#8] : List (BitVec 8)) = (b.take 11).drop 8 := by
      have h9' : b[9] = 0#8 := by rw [← getD_at (show 9 < b.length by omega), h9]
      have e4 : ([b.getD 8 0#8, 0#8, b.getD 10 0#8] : List (BitVec 8)) = [b[8], b[9], b[10]] := by
        rw [getD_at (show 8 < b.length by omega), getD_at (show 10 < b.length by omega), h9']
      rw [e4]
      apply List.ext_getElem?
      intro i
      rw [List.getElem?_drop, List.getElem?_take]
      match i with
      | 0 => simp
      | 1 => simp
      | 2 => simp
      | i + 3 => simp; omega
    rw [e3]
    unfold restE ahead
    have t1 : b.take 8 ++ (b.take 11).drop 8 = b.take 11 := by
      have := List.take_append_drop 8 (b.take 11)
      rwa [List.take_take, show min 8 11 = 8 by omega] at this
    have t2 : b.take 11 ++ (b.take (11 + n)).drop 11 = b.take (11 + n) := by
      have := List.take_append_drop 11 (b.take (11 + n))
      rwa [List.take_take, show min 11 (11 + n) = 11 by omega] at this
    have t3 : b.take (11 + n) ++ (b.take 244).drop (11 + n) = b.take 244 := by
      have := List.take_append_drop (11 + n) (b.take 244)
      rwa [List.take_take, show min (11 + n) 244 = 11 + n by omega] at this
    rw [← List.append_assoc, t1, ← List.append_assoc, t2, t3]
  unfold pgE
  rw [hbody, show (inE b n).Stamp = fitN (word (ahead b)) from rfl, hw, hab]
  exact (cut4 b hl h3).symm
theorem works05 : butterylaw05_works = some true := by
  have hx : lkE ⟨9, 3, [97#8, 98#8, 99#8]⟩ = 0 := by decide
  have hV : leaf_PutV ⟨9, 3, [97#8, 98#8, 99#8]⟩ = some (pgE ⟨9, 3, [97#8, 98#8, 99#8]⟩, .nil) := (put_eq5 ⟨9, 3, [97#8, 98#8, 99#8]⟩).1 hx
  have hl : (pgE ⟨9, 3, [97#8, 98#8, 99#8]⟩).length = 256 := pg_len (by decide)
  have hP : ∀ b : List (BitVec 8), leaf_GetP b = leaf_Get b := fun _ => rfl
  obtain ⟨e1, g1, g2, g3⟩ := get_eq5 (b := pgE ⟨9, 3, [97#8, 98#8, 99#8]⟩) (by omega)
  rw [gt_pg hx] at g1 g2 g3
  have hbad : lkE ⟨1, 6, []⟩ = 12 := by decide
  obtain ⟨e2, p1, p2, p3⟩ := (put_eq5 ⟨1, 6, []⟩).2 (by rw [hbad]; decide)
  rw [hbad] at p2
  have hE : lkErr ⟨9, 3, [97#8, 98#8, 99#8]⟩ = .nil := by simp [lkErr]
  have hA := pg_ahead (x := ⟨9, 3, [97#8, 98#8, 99#8]⟩)
  have hB := pg_behind (x := ⟨9, 3, [97#8, 98#8, 99#8]⟩) (by decide)
  have hst : stE (pgE ⟨9, 3, [97#8, 98#8, 99#8]⟩) = (9, 9) := by
    unfold stE
    rw [if_pos hl, hA, hB, word_full, fitN_of (by decide) (by decide)]
  unfold butterylaw05_works
  simp only [lt_eq, hV, Option.bind_some]
  generalize hp : pgE ⟨9, 3, [97#8, 98#8, 99#8]⟩ = p at *
  have hc : chk p.length 255 = some () := by unfold chk; rw [if_pos (by omega)]
  have hi : ixA p.length p 255 = some p[255] := ixA_nat (i := 255) (by omega) (by omega)
  have hu : ∀ v, updA p.length p 255 (fun _ => v) = some (p.set 255 v) := fun v => by unfold updA; rw [hi]; rfl
  rw [if_neg (by rw [hl]; decide)]
  simp only [hP, g1, p1, stamps_eq, hst, hc, hi, hu, Option.bind_some]
  have hq : ((p.set 255 (p[255] ^^^ 1#8)).length) = 256 := by rw [List.length_set, hl]
  have hne : word (ahead (p.set 255 (p[255] ^^^ 1#8))) ≠ word (behind (p.set 255 (p[255] ^^^ 1#8))) := by
    have ha : ahead (p.set 255 (p[255] ^^^ 1#8)) = ahead p := by
      unfold ahead
      rw [List.take_set_of_le (by omega)]
    intro h
    have h2 := word_inj (by simp [ahead, hq]) (by simp [behind, hq]) h
    rw [ha, hA, ← hB] at h2
    have h3 := congrArg (fun l : List (BitVec 8) => l[7]?) h2
    simp only [behind, List.getElem?_drop] at h3
    rw [List.getElem?_set_self (by omega), List.getElem?_eq_getElem (by omega)] at h3
    have h4 := Option.some.inj h3
    have h5 : ∀ c : BitVec 8, c ≠ c ^^^ 1#8 := by decide
    exact h5 _ h4
  obtain ⟨e3, q1, q2, q3⟩ := get_eq5 (b := p.set 255 (p[255] ^^^ 1#8)) (by omega)
  rw [gt_torn hq hne] at q1 q2 q3
  simp only [q1, Option.bind_some, g3, lsame_eq5, trouble_Of, p2, q2, leafCheck_eq, hE, decide_true, if_true, beq_self_eq_true]
  rfl
end Go.Proofs.YtgfedohhkbmobaaDoor
namespace Go.Proofs.YtgfedohhkbmobaaDoor
open Go Go.Va
set_option linter.unusedSimpArgs false
set_option linter.unusedVariables false
def wf_runtime_boundsError (x : runtime_boundsError) : Prop := (wfI .i64) x.x ∧ (wfI .i64) x.y ∧ wfT x.signed ∧ wfT x.code
theorem opens7 : Opens Tryd.prog 7 e_runtime_boundsError wf_runtime_boundsError := by
  intro H enc w fuel cs x hx
  obtain ⟨xs, m, _, _, hl, hn, hx⟩ := DataW.trod_struct Tryd.underlying7 hx
  rw [cellsOf_sz tk sz7 (by decide)] at hl
  obtain ⟨y0, w0, r0, o0⟩ := opens_f hx hn 0 (o := 0) (s := 1) rfl (opens_i64 Tryd.underlying2) rfl (cellsOf_sz tk sz2 (by decide))
  obtain ⟨y1, w1, r1, o1⟩ := opens_f hx hn 1 (o := 1) (s := 1) rfl (opens_i64 Tryd.underlying3) rfl (cellsOf_sz tk sz3 (by decide))
  obtain ⟨y2, w2, r2, o2⟩ := opens_f hx hn 2 (o := 2) (s := 1) rfl (opens_b Tryd.underlying4) rfl (cellsOf_sz tk sz4 (by decide))
  obtain ⟨y3, w3, r3, o3⟩ := opens_f hx hn 3 (o := 3) (s := 1) rfl (opens_u rfl rfl Tryd.underlying6) rfl (cellsOf_sz tk sz6 (by decide))
  refine ⟨⟨y0, y1, y2, y3⟩, ⟨w0, w1, w2, w3⟩, ?_, ?_⟩
  · have h := (rel_piece r0 (rel_piece r1 (rel_piece r2 (rel_piece r3 (rel_end hl)))))
    rw [List.drop_zero] at h
    first | exact h | (simp only [List.append_nil, List.append_assoc] at h ⊢; exact h) | (simpa [AV.cells, e_runtime_boundsError, c_runtime_boundsError] using h)
  · have h := (one_piece o0 (one_piece o1 (one_piece o2 (one_piece o3 (one_end hl)))))
    rw [List.drop_zero] at h
    exact h
theorem opens8 : Opens Tryd.prog 8 e_runtime_boundsError wf_runtime_boundsError := by
  intro H enc w fuel cs x hx
  obtain ⟨xs, m, _, _, hl, hn, hx⟩ := DataW.trod_struct Tryd.underlying8 hx
  rw [cellsOf_sz tk sz8 (by decide)] at hl
  obtain ⟨y0, w0, r0, o0⟩ := opens_f hx hn 0 (o := 0) (s := 1) rfl (opens_i64 Tryd.underlying2) rfl (cellsOf_sz tk sz2 (by decide))
  obtain ⟨y1, w1, r1, o1⟩ := opens_f hx hn 1 (o := 1) (s := 1) rfl (opens_i64 Tryd.underlying3) rfl (cellsOf_sz tk sz3 (by decide))
  obtain ⟨y2, w2, r2, o2⟩ := opens_f hx hn 2 (o := 2) (s := 1) rfl (opens_b Tryd.underlying4) rfl (cellsOf_sz tk sz4 (by decide))
  obtain ⟨y3, w3, r3, o3⟩ := opens_f hx hn 3 (o := 3) (s := 1) rfl (opens_u rfl rfl Tryd.underlying6) rfl (cellsOf_sz tk sz6 (by decide))
  refine ⟨⟨y0, y1, y2, y3⟩, ⟨w0, w1, w2, w3⟩, ?_, ?_⟩
  · have h := (rel_piece r0 (rel_piece r1 (rel_piece r2 (rel_piece r3 (rel_end hl)))))
    rw [List.drop_zero] at h
    first | exact h | (simp only [List.append_nil, List.append_assoc] at h ⊢; exact h) | (simpa [AV.cells, e_runtime_boundsError, c_runtime_boundsError] using h)
  · have h := (one_piece o0 (one_piece o1 (one_piece o2 (one_piece o3 (one_end hl)))))
    rw [List.drop_zero] at h
    exact h
def wf_runtime_errorAddressString (x : runtime_errorAddressString) : Prop := wfS x.msg ∧ wfT x.addr
theorem opens13 : Opens Tryd.prog 13 e_runtime_errorAddressString wf_runtime_errorAddressString := by
  intro H enc w fuel cs x hx
  obtain ⟨xs, m, _, _, hl, hn, hx⟩ := DataW.trod_struct Tryd.underlying13 hx
  rw [cellsOf_sz tk sz13 (by decide)] at hl
  obtain ⟨y0, w0, r0, o0⟩ := opens_f hx hn 0 (o := 0) (s := 1) rfl (opens_s Tryd.underlying9) rfl (cellsOf_sz tk sz9 (by decide))
  obtain ⟨y1, w1, r1, o1⟩ := opens_f hx hn 1 (o := 1) (s := 1) rfl (opens_u rfl rfl Tryd.underlying12) rfl (cellsOf_sz tk sz12 (by decide))
  refine ⟨⟨y0, y1⟩, ⟨w0, w1⟩, ?_, ?_⟩
  · have h := (rel_piece r0 (rel_piece r1 (rel_end hl)))
    rw [List.drop_zero] at h
    first | exact h | (simp only [List.append_nil, List.append_assoc] at h ⊢; exact h) | (simpa [AV.cells, e_runtime_errorAddressString, c_runtime_errorAddressString] using h)
  · have h := (one_piece o0 (one_piece o1 (one_end hl)))
    rw [List.drop_zero] at h
    exact h
theorem opens14 : Opens Tryd.prog 14 e_runtime_errorAddressString wf_runtime_errorAddressString := by
  intro H enc w fuel cs x hx
  obtain ⟨xs, m, _, _, hl, hn, hx⟩ := DataW.trod_struct Tryd.underlying14 hx
  rw [cellsOf_sz tk sz14 (by decide)] at hl
  obtain ⟨y0, w0, r0, o0⟩ := opens_f hx hn 0 (o := 0) (s := 1) rfl (opens_s Tryd.underlying9) rfl (cellsOf_sz tk sz9 (by decide))
  obtain ⟨y1, w1, r1, o1⟩ := opens_f hx hn 1 (o := 1) (s := 1) rfl (opens_u rfl rfl Tryd.underlying12) rfl (cellsOf_sz tk sz12 (by decide))
  refine ⟨⟨y0, y1⟩, ⟨w0, w1⟩, ?_, ?_⟩
  · have h := (rel_piece r0 (rel_piece r1 (rel_end hl)))
    rw [List.drop_zero] at h
    first | exact h | (simp only [List.append_nil, List.append_assoc] at h ⊢; exact h) | (simpa [AV.cells, e_runtime_errorAddressString, c_runtime_errorAddressString] using h)
  · have h := (one_piece o0 (one_piece o1 (one_end hl)))
    rw [List.drop_zero] at h
    exact h
def wf_api_Leaf (x : api_Leaf) : Prop := (wfI .i64) x.Stamp ∧ (wfI .i64) x.Kind ∧ (wfL wfT) x.Bytes
theorem opens23 : Opens Tryd.prog 23 e_api_Leaf wf_api_Leaf := by
  intro H enc w fuel cs x hx
  obtain ⟨xs, m, _, _, hl, hn, hx⟩ := DataW.trod_struct Tryd.underlying23 hx
  rw [cellsOf_sz tk sz23 (by decide)] at hl
  obtain ⟨y0, w0, r0, o0⟩ := opens_f hx hn 0 (o := 0) (s := 1) rfl (opens_i64 Tryd.underlying3) rfl (cellsOf_sz tk sz3 (by decide))
  obtain ⟨y1, w1, r1, o1⟩ := opens_f hx hn 1 (o := 1) (s := 1) rfl (opens_i64 Tryd.underlying3) rfl (cellsOf_sz tk sz3 (by decide))
  obtain ⟨y2, w2, r2, o2⟩ := opens_f hx hn 2 (o := 2) (s := 1) rfl (opens_l tk Tryd.underlying22 (enc_u td5 sz5) (opens_u rfl rfl Tryd.underlying5)) rfl (cellsOf_sz tk sz22 (by decide))
  refine ⟨⟨y0, y1, y2⟩, ⟨w0, w1, w2⟩, ?_, ?_⟩
  · have h := (rel_piece r0 (rel_piece r1 (rel_piece r2 (rel_end hl))))
    rw [List.drop_zero] at h
    first | exact h | (simp only [List.append_nil, List.append_assoc] at h ⊢; exact h) | (simpa [AV.cells, e_api_Leaf, c_api_Leaf] using h)
  · have h := (one_piece o0 (one_piece o1 (one_piece o2 (one_end hl))))
    rw [List.drop_zero] at h
    exact h
theorem opens24 : Opens Tryd.prog 24 e_api_Leaf wf_api_Leaf := by
  intro H enc w fuel cs x hx
  obtain ⟨xs, m, _, _, hl, hn, hx⟩ := DataW.trod_struct Tryd.underlying24 hx
  rw [cellsOf_sz tk sz24 (by decide)] at hl
  obtain ⟨y0, w0, r0, o0⟩ := opens_f hx hn 0 (o := 0) (s := 1) rfl (opens_i64 Tryd.underlying3) rfl (cellsOf_sz tk sz3 (by decide))
  obtain ⟨y1, w1, r1, o1⟩ := opens_f hx hn 1 (o := 1) (s := 1) rfl (opens_i64 Tryd.underlying3) rfl (cellsOf_sz tk sz3 (by decide))
  obtain ⟨y2, w2, r2, o2⟩ := opens_f hx hn 2 (o := 2) (s := 1) rfl (opens_l tk Tryd.underlying22 (enc_u td5 sz5) (opens_u rfl rfl Tryd.underlying5)) rfl (cellsOf_sz tk sz22 (by decide))
  refine ⟨⟨y0, y1, y2⟩, ⟨w0, w1, w2⟩, ?_, ?_⟩
  · have h := (rel_piece r0 (rel_piece r1 (rel_piece r2 (rel_end hl))))
    rw [List.drop_zero] at h
    first | exact h | (simp only [List.append_nil, List.append_assoc] at h ⊢; exact h) | (simpa [AV.cells, e_api_Leaf, c_api_Leaf] using h)
  · have h := (one_piece o0 (one_piece o1 (one_piece o2 (one_end hl))))
    rw [List.drop_zero] at h
    exact h
def wf_api_Entry (x : api_Entry) : Prop := wfS x.Key ∧ (wfI .i64) x.Version ∧ (wfI .i64) x.AsOf ∧ (wfI .i64) x.Ends ∧ (wfL wfT) x.Value
theorem opens49 : Opens Tryd.prog 49 e_api_Entry wf_api_Entry := by
  intro H enc w fuel cs x hx
  obtain ⟨xs, m, _, _, hl, hn, hx⟩ := DataW.trod_struct Tryd.underlying49 hx
  rw [cellsOf_sz tk sz49 (by decide)] at hl
  obtain ⟨y0, w0, r0, o0⟩ := opens_f hx hn 0 (o := 0) (s := 1) rfl (opens_s Tryd.underlying9) rfl (cellsOf_sz tk sz9 (by decide))
  obtain ⟨y1, w1, r1, o1⟩ := opens_f hx hn 1 (o := 1) (s := 1) rfl (opens_i64 Tryd.underlying3) rfl (cellsOf_sz tk sz3 (by decide))
  obtain ⟨y2, w2, r2, o2⟩ := opens_f hx hn 2 (o := 2) (s := 1) rfl (opens_i64 Tryd.underlying3) rfl (cellsOf_sz tk sz3 (by decide))
  obtain ⟨y3, w3, r3, o3⟩ := opens_f hx hn 3 (o := 3) (s := 1) rfl (opens_i64 Tryd.underlying3) rfl (cellsOf_sz tk sz3 (by decide))
  obtain ⟨y4, w4, r4, o4⟩ := opens_f hx hn 4 (o := 4) (s := 1) rfl (opens_l tk Tryd.underlying22 (enc_u td5 sz5) (opens_u rfl rfl Tryd.underlying5)) rfl (cellsOf_sz tk sz22 (by decide))
  refine ⟨⟨y0, y1, y2, y3, y4⟩, ⟨w0, w1, w2, w3, w4⟩, ?_, ?_⟩
  · have h := (rel_piece r0 (rel_piece r1 (rel_piece r2 (rel_piece r3 (rel_piece r4 (rel_end hl))))))
    rw [List.drop_zero] at h
    first | exact h | (simp only [List.append_nil, List.append_assoc] at h ⊢; exact h) | (simpa [AV.cells, e_api_Entry, c_api_Entry] using h)
  · have h := (one_piece o0 (one_piece o1 (one_piece o2 (one_piece o3 (one_piece o4 (one_end hl))))))
    rw [List.drop_zero] at h
    exact h
theorem opens50 : Opens Tryd.prog 50 e_api_Entry wf_api_Entry := by
  intro H enc w fuel cs x hx
  obtain ⟨xs, m, _, _, hl, hn, hx⟩ := DataW.trod_struct Tryd.underlying50 hx
  rw [cellsOf_sz tk sz50 (by decide)] at hl
  obtain ⟨y0, w0, r0, o0⟩ := opens_f hx hn 0 (o := 0) (s := 1) rfl (opens_s Tryd.underlying9) rfl (cellsOf_sz tk sz9 (by decide))
  obtain ⟨y1, w1, r1, o1⟩ := opens_f hx hn 1 (o := 1) (s := 1) rfl (opens_i64 Tryd.underlying3) rfl (cellsOf_sz tk sz3 (by decide))
  obtain ⟨y2, w2, r2, o2⟩ := opens_f hx hn 2 (o := 2) (s := 1) rfl (opens_i64 Tryd.underlying3) rfl (cellsOf_sz tk sz3 (by decide))
  obtain ⟨y3, w3, r3, o3⟩ := opens_f hx hn 3 (o := 3) (s := 1) rfl (opens_i64 Tryd.underlying3) rfl (cellsOf_sz tk sz3 (by decide))
  obtain ⟨y4, w4, r4, o4⟩ := opens_f hx hn 4 (o := 4) (s := 1) rfl (opens_l tk Tryd.underlying22 (enc_u td5 sz5) (opens_u rfl rfl Tryd.underlying5)) rfl (cellsOf_sz tk sz22 (by decide))
  refine ⟨⟨y0, y1, y2, y3, y4⟩, ⟨w0, w1, w2, w3, w4⟩, ?_, ?_⟩
  · have h := (rel_piece r0 (rel_piece r1 (rel_piece r2 (rel_piece r3 (rel_piece r4 (rel_end hl))))))
    rw [List.drop_zero] at h
    first | exact h | (simp only [List.append_nil, List.append_assoc] at h ⊢; exact h) | (simpa [AV.cells, e_api_Entry, c_api_Entry] using h)
  · have h := (one_piece o0 (one_piece o1 (one_piece o2 (one_piece o3 (one_piece o4 (one_end hl))))))
    rw [List.drop_zero] at h
    exact h
def wf_butteryref02_Reader (x : butteryref02_Reader) : Prop := (wfL wfT) x.B ∧ (wfI .i64) x.At ∧ (wfI .i64) x.Code
theorem opens61 : Opens Tryd.prog 61 e_butteryref02_Reader wf_butteryref02_Reader := by
  intro H enc w fuel cs x hx
  obtain ⟨xs, m, _, _, hl, hn, hx⟩ := DataW.trod_struct Tryd.underlying61 hx
  rw [cellsOf_sz tk sz61 (by decide)] at hl
  obtain ⟨y0, w0, r0, o0⟩ := opens_f hx hn 0 (o := 0) (s := 1) rfl (opens_l tk Tryd.underlying22 (enc_u td5 sz5) (opens_u rfl rfl Tryd.underlying5)) rfl (cellsOf_sz tk sz22 (by decide))
  obtain ⟨y1, w1, r1, o1⟩ := opens_f hx hn 1 (o := 1) (s := 1) rfl (opens_i64 Tryd.underlying3) rfl (cellsOf_sz tk sz3 (by decide))
  obtain ⟨y2, w2, r2, o2⟩ := opens_f hx hn 2 (o := 2) (s := 1) rfl (opens_i64 Tryd.underlying30) rfl (cellsOf_sz tk sz30 (by decide))
  refine ⟨⟨y0, y1, y2⟩, ⟨w0, w1, w2⟩, ?_, ?_⟩
  · have h := (rel_piece r0 (rel_piece r1 (rel_piece r2 (rel_end hl))))
    rw [List.drop_zero] at h
    first | exact h | (simp only [List.append_nil, List.append_assoc] at h ⊢; exact h) | (simpa [AV.cells, e_butteryref02_Reader, c_butteryref02_Reader] using h)
  · have h := (one_piece o0 (one_piece o1 (one_piece o2 (one_end hl))))
    rw [List.drop_zero] at h
    exact h
theorem opens62 : Opens Tryd.prog 62 e_butteryref02_Reader wf_butteryref02_Reader := by
  intro H enc w fuel cs x hx
  obtain ⟨xs, m, _, _, hl, hn, hx⟩ := DataW.trod_struct Tryd.underlying62 hx
  rw [cellsOf_sz tk sz62 (by decide)] at hl
  obtain ⟨y0, w0, r0, o0⟩ := opens_f hx hn 0 (o := 0) (s := 1) rfl (opens_l tk Tryd.underlying22 (enc_u td5 sz5) (opens_u rfl rfl Tryd.underlying5)) rfl (cellsOf_sz tk sz22 (by decide))
  obtain ⟨y1, w1, r1, o1⟩ := opens_f hx hn 1 (o := 1) (s := 1) rfl (opens_i64 Tryd.underlying3) rfl (cellsOf_sz tk sz3 (by decide))
  obtain ⟨y2, w2, r2, o2⟩ := opens_f hx hn 2 (o := 2) (s := 1) rfl (opens_i64 Tryd.underlying30) rfl (cellsOf_sz tk sz30 (by decide))
  refine ⟨⟨y0, y1, y2⟩, ⟨w0, w1, w2⟩, ?_, ?_⟩
  · have h := (rel_piece r0 (rel_piece r1 (rel_piece r2 (rel_end hl))))
    rw [List.drop_zero] at h
    first | exact h | (simp only [List.append_nil, List.append_assoc] at h ⊢; exact h) | (simpa [AV.cells, e_butteryref02_Reader, c_butteryref02_Reader] using h)
  · have h := (one_piece o0 (one_piece o1 (one_piece o2 (one_end hl))))
    rw [List.drop_zero] at h
    exact h
def wf_leaf_head (x : leaf_head) : Prop := (wfI .i64) x.stamp ∧ (wfI .i64) x.kind
theorem opens89 : Opens Tryd.prog 89 e_leaf_head wf_leaf_head := by
  intro H enc w fuel cs x hx
  obtain ⟨xs, m, _, _, hl, hn, hx⟩ := DataW.trod_struct Tryd.underlying89 hx
  rw [cellsOf_sz tk sz89 (by decide)] at hl
  obtain ⟨y0, w0, r0, o0⟩ := opens_f hx hn 0 (o := 0) (s := 1) rfl (opens_i64 Tryd.underlying3) rfl (cellsOf_sz tk sz3 (by decide))
  obtain ⟨y1, w1, r1, o1⟩ := opens_f hx hn 1 (o := 1) (s := 1) rfl (opens_i64 Tryd.underlying3) rfl (cellsOf_sz tk sz3 (by decide))
  refine ⟨⟨y0, y1⟩, ⟨w0, w1⟩, ?_, ?_⟩
  · have h := (rel_piece r0 (rel_piece r1 (rel_end hl)))
    rw [List.drop_zero] at h
    first | exact h | (simp only [List.append_nil, List.append_assoc] at h ⊢; exact h) | (simpa [AV.cells, e_leaf_head, c_leaf_head] using h)
  · have h := (one_piece o0 (one_piece o1 (one_end hl)))
    rw [List.drop_zero] at h
    exact h
theorem opens90 : Opens Tryd.prog 90 e_leaf_head wf_leaf_head := by
  intro H enc w fuel cs x hx
  obtain ⟨xs, m, _, _, hl, hn, hx⟩ := DataW.trod_struct Tryd.underlying90 hx
  rw [cellsOf_sz tk sz90 (by decide)] at hl
  obtain ⟨y0, w0, r0, o0⟩ := opens_f hx hn 0 (o := 0) (s := 1) rfl (opens_i64 Tryd.underlying3) rfl (cellsOf_sz tk sz3 (by decide))
  obtain ⟨y1, w1, r1, o1⟩ := opens_f hx hn 1 (o := 1) (s := 1) rfl (opens_i64 Tryd.underlying3) rfl (cellsOf_sz tk sz3 (by decide))
  refine ⟨⟨y0, y1⟩, ⟨w0, w1⟩, ?_, ?_⟩
  · have h := (rel_piece r0 (rel_piece r1 (rel_end hl)))
    rw [List.drop_zero] at h
    first | exact h | (simp only [List.append_nil, List.append_assoc] at h ⊢; exact h) | (simpa [AV.cells, e_leaf_head, c_leaf_head] using h)
  · have h := (one_piece o0 (one_piece o1 (one_end hl)))
    rw [List.drop_zero] at h
    exact h
def wf_octets_Reader (x : octets_Reader) : Prop := (wfL wfT) x.b ∧ (wfI .i64) x.at_ ∧ (wfI .i64) x.code
theorem opens97 : Opens Tryd.prog 97 e_octets_Reader wf_octets_Reader := by
  intro H enc w fuel cs x hx
  obtain ⟨xs, m, _, _, hl, hn, hx⟩ := DataW.trod_struct Tryd.underlying97 hx
  rw [cellsOf_sz tk sz97 (by decide)] at hl
  obtain ⟨y0, w0, r0, o0⟩ := opens_f hx hn 0 (o := 0) (s := 1) rfl (opens_l tk Tryd.underlying22 (enc_u td5 sz5) (opens_u rfl rfl Tryd.underlying5)) rfl (cellsOf_sz tk sz22 (by decide))
  obtain ⟨y1, w1, r1, o1⟩ := opens_f hx hn 1 (o := 1) (s := 1) rfl (opens_i64 Tryd.underlying3) rfl (cellsOf_sz tk sz3 (by decide))
  obtain ⟨y2, w2, r2, o2⟩ := opens_f hx hn 2 (o := 2) (s := 1) rfl (opens_i64 Tryd.underlying30) rfl (cellsOf_sz tk sz30 (by decide))
  refine ⟨⟨y0, y1, y2⟩, ⟨w0, w1, w2⟩, ?_, ?_⟩
  · have h := (rel_piece r0 (rel_piece r1 (rel_piece r2 (rel_end hl))))
    rw [List.drop_zero] at h
    first | exact h | (simp only [List.append_nil, List.append_assoc] at h ⊢; exact h) | (simpa [AV.cells, e_octets_Reader, c_octets_Reader] using h)
  · have h := (one_piece o0 (one_piece o1 (one_piece o2 (one_end hl))))
    rw [List.drop_zero] at h
    exact h
theorem opens98 : Opens Tryd.prog 98 e_octets_Reader wf_octets_Reader := by
  intro H enc w fuel cs x hx
  obtain ⟨xs, m, _, _, hl, hn, hx⟩ := DataW.trod_struct Tryd.underlying98 hx
  rw [cellsOf_sz tk sz98 (by decide)] at hl
  obtain ⟨y0, w0, r0, o0⟩ := opens_f hx hn 0 (o := 0) (s := 1) rfl (opens_l tk Tryd.underlying22 (enc_u td5 sz5) (opens_u rfl rfl Tryd.underlying5)) rfl (cellsOf_sz tk sz22 (by decide))
  obtain ⟨y1, w1, r1, o1⟩ := opens_f hx hn 1 (o := 1) (s := 1) rfl (opens_i64 Tryd.underlying3) rfl (cellsOf_sz tk sz3 (by decide))
  obtain ⟨y2, w2, r2, o2⟩ := opens_f hx hn 2 (o := 2) (s := 1) rfl (opens_i64 Tryd.underlying30) rfl (cellsOf_sz tk sz30 (by decide))
  refine ⟨⟨y0, y1, y2⟩, ⟨w0, w1, w2⟩, ?_, ?_⟩
  · have h := (rel_piece r0 (rel_piece r1 (rel_piece r2 (rel_end hl))))
    rw [List.drop_zero] at h
    first | exact h | (simp only [List.append_nil, List.append_assoc] at h ⊢; exact h) | (simpa [AV.cells, e_octets_Reader, c_octets_Reader] using h)
  · have h := (one_piece o0 (one_piece o1 (one_piece o2 (one_end hl))))
    rw [List.drop_zero] at h
    exact h
def wf_reflectlite_ValueError (x : reflectlite_ValueError) : Prop := wfS x.Method ∧ wfT x.Kind
theorem opens162 : Opens Tryd.prog 162 e_reflectlite_ValueError wf_reflectlite_ValueError := by
  intro H enc w fuel cs x hx
  obtain ⟨xs, m, _, _, hl, hn, hx⟩ := DataW.trod_struct Tryd.underlying162 hx
  rw [cellsOf_sz tk sz162 (by decide)] at hl
  obtain ⟨y0, w0, r0, o0⟩ := opens_f hx hn 0 (o := 0) (s := 1) rfl (opens_s Tryd.underlying9) rfl (cellsOf_sz tk sz9 (by decide))
  obtain ⟨y1, w1, r1, o1⟩ := opens_f hx hn 1 (o := 1) (s := 1) rfl (opens_u rfl rfl Tryd.underlying122) rfl (cellsOf_sz tk sz122 (by decide))
  refine ⟨⟨y0, y1⟩, ⟨w0, w1⟩, ?_, ?_⟩
  · have h := (rel_piece r0 (rel_piece r1 (rel_end hl)))
    rw [List.drop_zero] at h
    first | exact h | (simp only [List.append_nil, List.append_assoc] at h ⊢; exact h) | (simpa [AV.cells, e_reflectlite_ValueError, c_reflectlite_ValueError] using h)
  · have h := (one_piece o0 (one_piece o1 (one_end hl)))
    rw [List.drop_zero] at h
    exact h
theorem opens163 : Opens Tryd.prog 163 e_reflectlite_ValueError wf_reflectlite_ValueError := by
  intro H enc w fuel cs x hx
  obtain ⟨xs, m, _, _, hl, hn, hx⟩ := DataW.trod_struct Tryd.underlying163 hx
  rw [cellsOf_sz tk sz163 (by decide)] at hl
  obtain ⟨y0, w0, r0, o0⟩ := opens_f hx hn 0 (o := 0) (s := 1) rfl (opens_s Tryd.underlying9) rfl (cellsOf_sz tk sz9 (by decide))
  obtain ⟨y1, w1, r1, o1⟩ := opens_f hx hn 1 (o := 1) (s := 1) rfl (opens_u rfl rfl Tryd.underlying122) rfl (cellsOf_sz tk sz122 (by decide))
  refine ⟨⟨y0, y1⟩, ⟨w0, w1⟩, ?_, ?_⟩
  · have h := (rel_piece r0 (rel_piece r1 (rel_end hl)))
    rw [List.drop_zero] at h
    first | exact h | (simp only [List.append_nil, List.append_assoc] at h ⊢; exact h) | (simpa [AV.cells, e_reflectlite_ValueError, c_reflectlite_ValueError] using h)
  · have h := (one_piece o0 (one_piece o1 (one_end hl)))
    rw [List.drop_zero] at h
    exact h
def wf_abi_Method (x : abi_Method) : Prop := (wfI .i32) x.Name ∧ (wfI .i32) x.Mtyp ∧ (wfI .i32) x.Ifn ∧ (wfI .i32) x.Tfn
theorem opens170 : Opens Tryd.prog 170 e_abi_Method wf_abi_Method := by
  intro H enc w fuel cs x hx
  obtain ⟨xs, m, _, _, hl, hn, hx⟩ := DataW.trod_struct Tryd.underlying170 hx
  rw [cellsOf_sz tk sz170 (by decide)] at hl
  obtain ⟨y0, w0, r0, o0⟩ := opens_f hx hn 0 (o := 0) (s := 1) rfl (opens_i Tryd.underlying156) rfl (cellsOf_sz tk sz156 (by decide))
  obtain ⟨y1, w1, r1, o1⟩ := opens_f hx hn 1 (o := 1) (s := 1) rfl (opens_i Tryd.underlying157) rfl (cellsOf_sz tk sz157 (by decide))
  obtain ⟨y2, w2, r2, o2⟩ := opens_f hx hn 2 (o := 2) (s := 1) rfl (opens_i Tryd.underlying169) rfl (cellsOf_sz tk sz169 (by decide))
  obtain ⟨y3, w3, r3, o3⟩ := opens_f hx hn 3 (o := 3) (s := 1) rfl (opens_i Tryd.underlying169) rfl (cellsOf_sz tk sz169 (by decide))
  refine ⟨⟨y0, y1, y2, y3⟩, ⟨w0, w1, w2, w3⟩, ?_, ?_⟩
  · have h := (rel_piece r0 (rel_piece r1 (rel_piece r2 (rel_piece r3 (rel_end hl)))))
    rw [List.drop_zero] at h
    first | exact h | (simp only [List.append_nil, List.append_assoc] at h ⊢; exact h) | (simpa [AV.cells, e_abi_Method, c_abi_Method] using h)
  · have h := (one_piece o0 (one_piece o1 (one_piece o2 (one_piece o3 (one_end hl)))))
    rw [List.drop_zero] at h
    exact h
theorem opens171 : Opens Tryd.prog 171 e_abi_Method wf_abi_Method := by
  intro H enc w fuel cs x hx
  obtain ⟨xs, m, _, _, hl, hn, hx⟩ := DataW.trod_struct Tryd.underlying171 hx
  rw [cellsOf_sz tk sz171 (by decide)] at hl
  obtain ⟨y0, w0, r0, o0⟩ := opens_f hx hn 0 (o := 0) (s := 1) rfl (opens_i Tryd.underlying156) rfl (cellsOf_sz tk sz156 (by decide))
  obtain ⟨y1, w1, r1, o1⟩ := opens_f hx hn 1 (o := 1) (s := 1) rfl (opens_i Tryd.underlying157) rfl (cellsOf_sz tk sz157 (by decide))
  obtain ⟨y2, w2, r2, o2⟩ := opens_f hx hn 2 (o := 2) (s := 1) rfl (opens_i Tryd.underlying169) rfl (cellsOf_sz tk sz169 (by decide))
  obtain ⟨y3, w3, r3, o3⟩ := opens_f hx hn 3 (o := 3) (s := 1) rfl (opens_i Tryd.underlying169) rfl (cellsOf_sz tk sz169 (by decide))
  refine ⟨⟨y0, y1, y2, y3⟩, ⟨w0, w1, w2, w3⟩, ?_, ?_⟩
  · have h := (rel_piece r0 (rel_piece r1 (rel_piece r2 (rel_piece r3 (rel_end hl)))))
    rw [List.drop_zero] at h
    first | exact h | (simp only [List.append_nil, List.append_assoc] at h ⊢; exact h) | (simpa [AV.cells, e_abi_Method, c_abi_Method] using h)
  · have h := (one_piece o0 (one_piece o1 (one_piece o2 (one_piece o3 (one_end hl)))))
    rw [List.drop_zero] at h
    exact h
end Go.Proofs.YtgfedohhkbmobaaDoor
namespace Go.Proofs.YtgfedohhkbmobaaDoor
open Go Go.Va
set_option linter.unusedVariables false
set_option linter.unusedSimpArgs false
theorem LeafGets_pure (b : List (BitVec 8)) (_ : wfL wfT b) : butterylaw05_LeafGets b = some true := by
  unfold butterylaw05_LeafGets
  simp only [lt_eq]
  by_cases h1 : (b.length : Int) > 600
  · simp [h1, works05]
  · obtain ⟨e, g1, g2, g3⟩ := get_eq5 (b := b) (by omega)
    simp only [decide_eq_false h1, Bool.false_eq_true, if_false, g1, refGet_eq5 (b := b) (by omega), stamps_eq, refStamps_eq, Option.bind_some, same_eq5 _ _ (gt_bytes (b := b) (by omega)), trouble_Of, g2, decide_true, if_true, beq_self_eq_true, works05]
end Go.Proofs.YtgfedohhkbmobaaDoor
namespace Go.Proofs.YtgfedohhkbmobaaDoor
open Go.ChangeShapes Go.WideShapes Go.RowKit
theorem own : ownKnob Tryd.prog.godebug = none := by kernel_rfl
theorem laidEt : Tryd.prog.globalNamed "errors.errorType" = some 0 := by kernel_rfl
theorem laidRt : (Tryd.prog.cutTypes.find? (·.1 == "internal/reflectlite.rtype")).map (·.2) = some 132 := by kernel_rfl
theorem laidRow : ((List.range 173).filter fun t => Tryd.prog.rowNamed t [101, 114, 114, 111, 114]) = [27] := by kernel_rfl
theorem laidSize : Tryd.prog.types.size = 173 := by kernel_rfl
def laidL {H : Type} : List (String × DataW H) := [("errors.errorType", Rows.laid_errors_errorType)]
theorem handle_of_laid {W : World} (h : laidMetH Tryd.prog laidL W) : W.cell? ⟨0, 0, none⟩ = some (.iface 132 (.agg #[.pointer (some ⟨1, 27, none⟩)])) := by
  have h' : laidMet Tryd.prog [] W ∧ handlesMet Tryd.prog laidL W := h
  obtain ⟨name, u, ty, e1, e2, e3, e4, e5⟩ := h'.2 _ (List.mem_singleton.2 rfl)
  have en : name = [101, 114, 114, 111, 114] := (Option.some.inj e1).symm
  subst en
  obtain rfl := Option.some.inj (laidRt.symm.trans e2)
  have hm : ty ∈ (List.range 173).filter fun t => Tryd.prog.rowNamed t [101, 114, 114, 111, 114] := List.mem_filter.2 ⟨List.mem_range.2 (by rw [← laidSize]; exact e3), e4⟩
  rw [laidRow] at hm
  obtain rfl := List.mem_singleton.1 hm
  have hh : typeHandle Tryd.prog 27 = .pointer (some ⟨1, 27, none⟩) := by kernel_rfl
  rw [hh] at e5
  simpa using World.var?_cell laidEt e5 0
/-- A world that meets the condition. -/
noncomputable def laidWorld (os : Os) : World :=
  let w0 := World.holding Tryd.prog os ⟨#[], #[], []⟩
  { w0 with heap := w0.heap.modify 0 fun
      | .cells _ t frozen => .cells #[.iface 132 (.agg #[.pointer (some ⟨1, 27, none⟩)])] t frozen
      | o => o }
theorem laidWorld_met (os : Os) (args : Array Value) : laidMetH Tryd.prog laidL ((laidWorld os).forCall (fun _ _ => 0) ⟨#[], args, []⟩).memory :=
  laidMetH_of_parts (laidMet_nil _ _) (by kernel_rfl)
theorem gls_met {W : World} (h : laidMetH Tryd.prog laidL W) : ∀ p ∈ gls, W.cell? p.1 = some p.2 := by
  intro p hp
  obtain rfl := List.mem_singleton.1 hp
  exact handle_of_laid h
theorem laidOut : laidOutB Tryd.prog = true := by kernel_rfl
end Go.Proofs.YtgfedohhkbmobaaDoor
