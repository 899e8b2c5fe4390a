/- Any numbers, bytes, and words of eight bytes, behind any bytes, are what the chapter says; what was handed in stays. (part 4 of 5) -/
import Derived.Test.YtjaaepnejihbkaaKOctetsPuts3
namespace Go.Proofs.Ytjaaepnejihbkaa
open Go Go.Va
set_option linter.unusedVariables false
set_option linter.unusedSimpArgs false
def stp (a : BitVec 64) (c : BitVec 8) : BitVec 64 := a <<< 8 ||| c.setWidth 64
def word (l : List (BitVec 8)) : BitVec 64 := l.foldl stp 0#64
theorem stp_add (a : BitVec 64) (c : BitVec 8) : a * 256#64 + c.setWidth 64 = stp a c := by
  have h1 : a * 256#64 = a <<< 8 := by
    apply BitVec.eq_of_toNat_eq
    simp [Nat.shiftLeft_eq]
  have h2 : a <<< 8 &&& c.setWidth 64 = 0#64 := by
    apply BitVec.eq_of_getLsbD_eq
    intro i hi
    simp only [BitVec.getLsbD_and, BitVec.getLsbD_shiftLeft, BitVec.getLsbD_setWidth, BitVec.getLsbD_zero]
    by_cases h : i < 8
    · simp [h]
    · rw [BitVec.getLsbD_of_ge c i (by omega)]; simp
  rw [h1, BitVec.add_eq_or_of_and_eq_zero _ _ h2]; rfl
theorem word_wd (n : BitVec 64) : ∀ i, i ≤ 8 → word (wd n i) = n >>> (64 - 8 * i)
  | 0, _ => by
    apply BitVec.eq_of_getLsbD_eq
    intro j hj
    rw [BitVec.getLsbD_ushiftRight, BitVec.getLsbD_of_ge n _ (by omega)]; simp [word, wd]
  | i + 1, h => by
    rw [wd_succ, word, List.foldl_append]
    have ih := word_wd n i (by omega)
    rw [word] at ih
    rw [ih]
    simp only [List.foldl_cons, List.foldl_nil, stp]
    apply BitVec.eq_of_getLsbD_eq
    intro j hj
    simp only [BitVec.getLsbD_or, BitVec.getLsbD_shiftLeft, BitVec.getLsbD_ushiftRight, BitVec.getLsbD_setWidth]
    by_cases h8 : j < 8
    · simp [h8, hj, show 64 - 8 * (i + 1) = 56 - 8 * i by omega]
    · simp only [h8, hj, decide_true, decide_false, Bool.not_false, Bool.and_true, Bool.true_and, Bool.false_and, Bool.and_false, Bool.or_false]
      congr 1; omega
theorem word_full (n : BitVec 64) : word (wd n 8) = n := by
  rw [word_wd n 8 (by omega)]; simp
/-- Eight bytes. -/
def cut8 (b : List (BitVec 8)) (a : Nat) : List (BitVec 8) := (b.take (a + 8)).drop a
theorem cut8_len {b : List (BitVec 8)} {a : Nat} (h : a + 8 ≤ b.length) : (cut8 b a).length = 8 := by simp [cut8]; omega
theorem octWord_l (l : List (BitVec 8)) (hl : l.length < 9223372036854775807) : octets_Reader_Word_l0 l (l.length : Int) (0#64, 0) = some (word l) :=
  loopO_foldl l stp id (body := fun s => octets_Reader_Word_b0 l (l.length : Int) s.1 s.2) (fun s i hi => by
    simp only [octets_Reader_Word_b0, lt_eq, ix_nat hi, Option.bind_some, w64_nat (show i < 9223372036854775807 by omega)]
    rw [if_pos (by simpa using hi)]; rfl) (fun s => by simp [octets_Reader_Word_b0, lt_eq]) 0#64
theorem octWordR_eq {b : List (BitVec 8)} {a : Nat} (hb : b.length ≤ 1000000) (ha : a ≤ b.length) : octets_Reader_Word ⟨b, a, 0⟩ = some (if a + 8 ≤ b.length then (word (cut8 b a), ⟨b, ((a + 8 : Nat) : Int), 0⟩) else (0#64, ⟨b, a, 6⟩)) := by
  simp only [octets_Reader_Word, lt_eq]
  rw [if_pos (by rfl), left_eq hb ha]
  simp only [Option.bind_some]
  by_cases h : a + 8 ≤ b.length
  · rw [if_pos h, if_neg (by rw [decide_eq_false (by omega)]; simp)]
    simp only [Option.bind_some]
    rw [if_neg (by simp), w64_eq (by omega) (by omega), show (a : Int) + 8 = ((a + 8 : Nat) : Int) by omega, cutO_eq (by omega) h]
    have := octWord_l (cut8 b a) (by rw [cut8_len h]; omega)
    unfold cut8 at this
    simp only [Option.bind_some, this]
    rfl
  · rw [if_neg h, if_pos (decide_eq_true (by omega)), fail_eq]
    rfl
theorem octWordR_off {b : List (BitVec 8)} {a e : Int} (he : e ≠ 0) : octets_Reader_Word ⟨b, a, e⟩ = some (0#64, ⟨b, a, e⟩) := by
  simp [octets_Reader_Word, lt_eq, he]
theorem eight_eq {b : List (BitVec 8)} {a : Nat} (hb : b.length ≤ 1000000) (ha : a ≤ b.length) : butteryref02_Eight ⟨b, a, 0⟩ = some (if a + 8 ≤ b.length then (⟨b, ((a + 8 : Nat) : Int), 0⟩, word (cut8 b a)) else (⟨b, a, 6⟩, 0#64)) := by
  simp only [butteryref02_Eight, lt_eq]
  rw [if_neg (by simp), w64_eq (by omega) (by omega)]
  by_cases h : a + 8 ≤ b.length
  · rw [if_pos h, if_neg (by rw [decide_eq_false (by omega)]; simp)]
    have hl := cut8_len h
    have k := loopO_foldl (cut8 b a) stp id (body := fun s => butteryref02_Eight_b0 ⟨b, a, 0⟩ s.1 s.2) (fun s i hi => by
      have hi8 : i < 8 := by omega
      have e1 : w64 ((a : Int) + (i : Int)) = ((a + i : Nat) : Int) := by rw [w64_eq (by omega) (by omega)]; omega
      simp only [butteryref02_Eight_b0, lt_eq, e1, ix_nat (show a + i < b.length by omega), Option.bind_some, w64_nat (show i < 9223372036854775807 by omega)]
      rw [if_pos (decide_eq_true (by omega)), stp_add]
      have : (cut8 b a)[i] = b[a + i] := by simp [cut8]
      rw [this]) (fun s => by rw [hl]; simp [butteryref02_Eight_b0, lt_eq]) 0#64
    simp only [butteryref02_Eight_l0, k, Option.bind_some]
    rw [w64_eq (n := (a : Int) + 8) (by omega) (by omega), show (a : Int) + 8 = ((a + 8 : Nat) : Int) by omega]
    rfl
  · rw [if_neg h, if_pos (decide_eq_true (by omega)), rfail_eq]
    rfl
theorem eight_off {b : List (BitVec 8)} {a e : Int} (he : e ≠ 0) : butteryref02_Eight ⟨b, a, e⟩ = some (⟨b, a, e⟩, 0#64) := by
  simp [butteryref02_Eight, lt_eq, he]
/-- What bytes are read: they, where the reader stands then, what is wrong. -/
def rdB (b : List (BitVec 8)) (a most : Nat) : List (BitVec 8) × Nat × Int :=
  if (rdN b a most).2.2 ≠ 0 then ([], (rdN b a most).2.1, (rdN b a most).2.2) else
  if b.length < (rdN b a most).2.1 + (rdN b a most).1 then ([], a, 6) else ((b.take ((rdN b a most).2.1 + (rdN b a most).1)).drop (rdN b a most).2.1, (rdN b a most).2.1 + (rdN b a most).1, 0)
theorem octBytesR_eq {b : List (BitVec 8)} {a most : Nat} (hb : b.length ≤ 1000000) (ha : a ≤ b.length) (hm : most < 9223372036854775808) : octets_Reader_Bytes ⟨b, a, 0⟩ most = some ((rdB b a most).1, ⟨b, ((rdB b a most).2.1 : Int), (rdB b a most).2.2⟩) := by
  simp only [octets_Reader_Bytes, octNum_eq hb ha hm, Option.bind_some, lt_eq]
  obtain ⟨h1, h2, h3, h4⟩ := rdN_le (most := most) ha
  unfold rdB
  generalize rdN b a most = z at *
  obtain ⟨n, p, e⟩ := z
  simp only at *
  by_cases he : e = 0
  · subst he
    rw [if_neg (by simp), if_neg (by simp), left_eq hb h1]
    simp only [Option.bind_some]
    by_cases hc : b.length < p + n
    · rw [if_pos hc, if_pos (decide_eq_true (by omega)), fail_eq]; rfl
    · rw [if_neg hc, if_neg (by rw [decide_eq_false (by omega)]; simp), w64_eq (by omega) (by omega), show (p : Int) + (n : Int) = ((p + n : Nat) : Int) by omega, cutO_eq (by omega) (by omega)]
      simp only [Option.bind_some]
      rw [app_eq (by simp; omega)]; rfl
  · rw [if_pos (by simpa using he), if_pos he]
theorem octBytesR_off {b : List (BitVec 8)} {a e most : Int} (he : e ≠ 0) : octets_Reader_Bytes ⟨b, a, e⟩ most = some ([], ⟨b, a, e⟩) := by
  simp [octets_Reader_Bytes, rdN_off he, lt_eq, he]
theorem text_eq {b : List (BitVec 8)} {a most : Nat} (hb : b.length ≤ 1000000) (ha : a ≤ b.length) (hm : most < 9223372036854775808) : butteryref02_Text ⟨b, a, 0⟩ most = some (⟨b, ((rdB b a most).2.1 : Int), (rdB b a most).2.2⟩, (rdB b a most).1) := by
  simp only [butteryref02_Text, refNum_eq hb ha hm, Option.bind_some, lt_eq]
  obtain ⟨h1, h2, h3, h4⟩ := rdN_le (most := most) ha
  unfold rdB
  generalize rdN b a most = z at *
  obtain ⟨n, p, e⟩ := z
  simp only at *
  by_cases he : e = 0
  · subst he
    rw [if_neg (show ¬ (((0 : Int) != 0) = true) by simp), if_neg (show ¬ ((0 : Int) ≠ 0) by simp), w64_eq (n := (b.length : Int) - (p : Int)) (by omega) (by omega)]
    by_cases hc : b.length < p + n
    · rw [if_pos hc, if_pos (decide_eq_true (by omega)), rfail_eq]; rfl
    · rw [if_neg hc, if_neg (by rw [decide_eq_false (by omega)]; simp), w64_eq (by omega) (by omega), show (p : Int) + (n : Int) = ((p + n : Nat) : Int) by omega, cutO_eq (by omega) (by omega)]
      simp only [Option.bind_some]
      rw [app_eq (by simp; omega)]; rfl
  · rw [if_pos (by simpa using he), if_pos he]
theorem text_off {b : List (BitVec 8)} {a e most : Int} (he : e ≠ 0) : butteryref02_Text ⟨b, a, e⟩ most = some (⟨b, a, e⟩, []) := by
  simp [butteryref02_Text, refN_off he, lt_eq, he]
theorem rdB_le {b : List (BitVec 8)} {a most : Nat} (ha : a ≤ b.length) : (rdB b a most).2.1 ≤ b.length ∧ a ≤ (rdB b a most).2.1 ∧ (rdB b a most).1.length ≤ b.length := by
  obtain ⟨h1, h2, h3, h4⟩ := rdN_le (most := most) ha
  unfold rdB
  generalize rdN b a most = z at *
  obtain ⟨n, p, e⟩ := z
  simp only at *
  split
  · exact ⟨h1, h2, by simp⟩
  · split
    · exact ⟨ha, Nat.le_refl _, by simp⟩
    · exact ⟨by simp only; omega, by simp only; omega, by simp; omega⟩
theorem end_eq {b : List (BitVec 8)} {a : Nat} {e : Int} (hb : b.length ≤ 1000000) (ha : a ≤ b.length) : octets_Reader_End ⟨b, a, e⟩ = some (if e = 0 ∧ a < b.length then 5 else e, ⟨b, a, if e = 0 ∧ a < b.length then 5 else e⟩) := by
  simp only [octets_Reader_End, left_eq hb ha, Option.bind_some, lt_eq]
  by_cases h : a < b.length
  · rw [if_pos (decide_eq_true (by omega))]
    by_cases he : e = 0
    · subst he; rw [fail_eq]; simp [h]
    · simp [octets_Reader_Fail, lt_eq, he]
  · rw [if_neg (by rw [decide_eq_false (by omega)]; simp)]; simp [h]
theorem rend_eq {b : List (BitVec 8)} {a : Nat} {e : Int} : butteryref02_End ⟨b, a, e⟩ = some (if e = 0 ∧ a < b.length then 5 else e) := by
  simp only [butteryref02_End, lt_eq]
  by_cases he : e = 0
  · subst he
    rw [if_pos (by rfl)]
    by_cases h : a < b.length
    · simp [h]
    · simp [h]
  · simp [he]
theorem read_eq {b : List (BitVec 8)} (hb : b.length ≤ 1000000) : octets_Read b = some ⟨b, 0, 0⟩ := by
  simp only [octets_Read, lt_eq]
  rw [app_eq (by simp; omega)]; rfl
theorem works02 : butterylaw02_works = some true := by
  have n1 : num7 300 = [130#8, 44#8] := by rw [num7, pre_pos (by decide), pre_zero]; rfl
  have n2 : num7 5 = [5#8] := by rw [num7_small (by decide)]
  have n3 : num7 2 = [2#8] := by rw [num7_small (by decide)]
  have p1 : octets_Put [] [(300 : Int), 5] = some [130#8, 44#8, 5#8] := by
    rw [octPut_eq [] (by simp) ⟨by simp, by simp⟩]
    simp [nums, n1, n2]
  have p2 : octets_Bytes [130#8, 44#8, 5#8] [97#8, 98#8] = some [130#8, 44#8, 5#8, 2#8, 97#8, 98#8] := by
    rw [octBytes_eq _ _ (by simp) (by simp)]
    simp [n3]
  have r1 : octets_Reader_Number ⟨[130#8, 44#8, 5#8, 2#8, 97#8, 98#8], 0, 0⟩ 1000 = some (300, ⟨[130#8, 44#8, 5#8, 2#8, 97#8, 98#8], 2, 0⟩) := by
    have := octNum_eq (b := [130#8, 44#8, 5#8, 2#8, 97#8, 98#8]) (a := 0) (most := 1000) (by simp) (by simp) (by omega)
    exact this
  have r2 : octets_Reader_Number ⟨[130#8, 44#8, 5#8, 2#8, 97#8, 98#8], 2, 0⟩ 9 = some (5, ⟨[130#8, 44#8, 5#8, 2#8, 97#8, 98#8], 3, 0⟩) := by
    have := octNum_eq (b := [130#8, 44#8, 5#8, 2#8, 97#8, 98#8]) (a := 2) (most := 9) (by simp) (by simp) (by omega)
    exact this
  have r3 : octets_Reader_Bytes ⟨[130#8, 44#8, 5#8, 2#8, 97#8, 98#8], 3, 0⟩ 2 = some ([97#8, 98#8], ⟨[130#8, 44#8, 5#8, 2#8, 97#8, 98#8], 6, 0⟩) := by
    have := octBytesR_eq (b := [130#8, 44#8, 5#8, 2#8, 97#8, 98#8]) (a := 3) (most := 2) (by simp) (by simp) (by omega)
    exact this
  have r4 : octets_Reader_End ⟨[130#8, 44#8, 5#8, 2#8, 97#8, 98#8], 6, 0⟩ = some (0, ⟨[130#8, 44#8, 5#8, 2#8, 97#8, 98#8], 6, 0⟩) := by
    have := end_eq (b := [130#8, 44#8, 5#8, 2#8, 97#8, 98#8]) (a := 6) (e := 0) (by simp) (by simp)
    exact this
  have l1 : octets_Len 300 = some 2 := by
    have := octLen_eq (n := 300) (by omega)
    rw [nlen_ge (by omega), nlen_lt (by omega)] at this
    exact this
  unfold butterylaw02_works
  rw [p1, Option.bind_some, p2, Option.bind_some, read_eq (by simp), Option.bind_some]
  simp only [lt_eq]
  rw [if_neg (by simp), r1, Option.bind_some, r2, Option.bind_some, r3, Option.bind_some]
  simp only [lt_eq, ix, octWord_eq [] 1#64 (by simp), l1]
  simp [r4, lt_eq, wd_len, octets_Key]
end Go.Proofs.Ytjaaepnejihbkaa
namespace Go.Proofs.Ytjaaepnejihbkaa
open Go Go.Va
set_option linter.unusedVariables false
set_option linter.unusedSimpArgs false
theorem OctetsPuts_pure (b : List (BitVec 8)) (l : List Int) (t : List (BitVec 8)) (n : BitVec 64) (s : List (BitVec 8)) (_ : wfL wfT b) (hl : wfL (wfI .i64) l) (_ : wfL wfT t) (_ : wfT n) (_ : wfS s) : butterylaw02_OctetsPuts b l t n s = some true := by
  obtain ⟨v, hv⟩ := few_some l
  have hok : v = true → okN l := by
    rintro rfl
    obtain ⟨h1, h2⟩ := few_true hv
    exact ⟨by omega, fun m hm => ⟨h2 m hm, (hl.2 m hm).2⟩⟩
  unfold butterylaw02_OctetsPuts
  simp only [hv, Option.bind_some, lt_eq, works02]
  cases v with
  | false => rfl
  | true =>
  have hok := hok rfl
  rw [if_neg (by simp)]
  by_cases hb : b.length > 1000
  · rw [if_pos (decide_eq_true (by omega))]; rfl
  rw [if_neg (by rw [decide_eq_false (by omega)]; simp)]
  by_cases ht : t.length > 1000
  · rw [if_pos (decide_eq_true (by omega))]; rfl
  rw [if_neg (by rw [decide_eq_false (by omega)]; simp)]
  by_cases hs : s.length > 1000
  · rw [decide_eq_true (show (s.length : Int) > 1000 by omega)]; rfl
  rw [decide_eq_false (show ¬ (s.length : Int) > 1000 by omega)]
  simp only [Option.bind_some]
  rw [if_neg (by simp), app_eq (by simp; omega)]
  have hn := nums_len hok.2
  have hn1 := hok.1
  have h9 := num7_len (n := t.length) (by omega)
  simp only [Option.bind_some, List.nil_append]
  rw [octPut_eq b (by omega) hok, refPut_eq b (by omega) hok]
  simp only [Option.bind_some]
  rw [same_eq _ _ (by simp only [List.length_append]; omega)]
  simp only [decide_true, Option.bind_some, Bool.not_true]
  rw [if_neg (by simp), octBytes_eq b t (by omega) (by omega), refBytes_eq b t (by omega) (by omega)]
  simp only [Option.bind_some]
  rw [same_eq _ _ (by simp only [List.length_append]; omega)]
  simp only [decide_true, Option.bind_some, Bool.not_true]
  rw [if_neg (by simp), octWord_eq b n (by omega), refWord_eq b n (by omega)]
  simp only [Option.bind_some]
  rw [same_eq _ _ (by simp only [List.length_append, wd_len]; omega)]
  simp only [decide_true, Option.bind_some, Bool.not_true]
  rw [if_neg (by simp)]
  have k := loopO_up (body := fun s' => butterylaw02_OctetsPuts_b0 b l s b s') (fun i : Nat => (i : Int)) l.length (x := .inl ()) (fun i hi => by
    obtain ⟨hn0, hn1⟩ := hok.2 _ (List.getElem_mem hi)
    obtain ⟨m, hm⟩ : ∃ m : Nat, l[i] = (m : Int) := ⟨l[i].toNat, by omega⟩
    simp only [butterylaw02_OctetsPuts_b0, lt_eq, ix_nat hi, Option.bind_some, hm, octLen_eq (n := m) (by omega), refLen_eq (n := m) (by omega), bne_self_eq_false]
    rw [if_pos (decide_eq_true (by omega)), if_neg (by simp), w64_nat (by omega)]) (by simp [butterylaw02_OctetsPuts_b0, lt_eq])
  rw [show ((0 : Nat) : Int) = 0 from rfl] at k
  obtain ⟨w, hw⟩ := key_some s
  simp only [butterylaw02_OctetsPuts_l0, k, Option.bind_some, Sum.elim_inl]
  rw [same_eq _ _ (by omega), ← key_eq, hw]
  simp
end Go.Proofs.Ytjaaepnejihbkaa
namespace Go.Proofs.Ytjaaepnejihbkaa
open Go Go.Va
set_option linter.unusedSimpArgs false
set_option linter.unusedVariables false
def wf_runtime_boundsError (x : runtime_boundsError) : Prop := (wfI .i64) x.x ∧ (wfI .i64) x.y ∧ wfT x.signed ∧ wfT x.code
theorem opens7 : Opens Try.prog 7 e_runtime_boundsError wf_runtime_boundsError := by
  intro H enc w fuel cs x hx
  obtain ⟨xs, m, _, _, hl, hn, hx⟩ := DataW.trod_struct Try.underlying7 hx
  rw [cellsOf_sz tk sz7 (by decide)] at hl
  obtain ⟨y0, w0, r0, o0⟩ := opens_f hx hn 0 (o := 0) (s := 1) rfl (opens_i64 Try.underlying2) rfl (cellsOf_sz tk sz2 (by decide))
  obtain ⟨y1, w1, r1, o1⟩ := opens_f hx hn 1 (o := 1) (s := 1) rfl (opens_i64 Try.underlying3) rfl (cellsOf_sz tk sz3 (by decide))
  obtain ⟨y2, w2, r2, o2⟩ := opens_f hx hn 2 (o := 2) (s := 1) rfl (opens_b Try.underlying4) rfl (cellsOf_sz tk sz4 (by decide))
  obtain ⟨y3, w3, r3, o3⟩ := opens_f hx hn 3 (o := 3) (s := 1) rfl (opens_u rfl rfl Try.underlying6) rfl (cellsOf_sz tk sz6 (by decide))
  refine ⟨⟨y0, y1, y2, y3⟩, ⟨w0, w1, w2, w3⟩, ?_, ?_⟩
  · have h := (rel_piece r0 (rel_piece r1 (rel_piece r2 (rel_piece r3 (rel_end hl)))))
    rw [List.drop_zero] at h
    first | exact h | (simp only [List.append_nil, List.append_assoc] at h ⊢; exact h) | (simpa [AV.cells, e_runtime_boundsError, c_runtime_boundsError] using h)
  · have h := (one_piece o0 (one_piece o1 (one_piece o2 (one_piece o3 (one_end hl)))))
    rw [List.drop_zero] at h
    exact h
theorem opens8 : Opens Try.prog 8 e_runtime_boundsError wf_runtime_boundsError := by
  intro H enc w fuel cs x hx
  obtain ⟨xs, m, _, _, hl, hn, hx⟩ := DataW.trod_struct Try.underlying8 hx
  rw [cellsOf_sz tk sz8 (by decide)] at hl
  obtain ⟨y0, w0, r0, o0⟩ := opens_f hx hn 0 (o := 0) (s := 1) rfl (opens_i64 Try.underlying2) rfl (cellsOf_sz tk sz2 (by decide))
  obtain ⟨y1, w1, r1, o1⟩ := opens_f hx hn 1 (o := 1) (s := 1) rfl (opens_i64 Try.underlying3) rfl (cellsOf_sz tk sz3 (by decide))
  obtain ⟨y2, w2, r2, o2⟩ := opens_f hx hn 2 (o := 2) (s := 1) rfl (opens_b Try.underlying4) rfl (cellsOf_sz tk sz4 (by decide))
  obtain ⟨y3, w3, r3, o3⟩ := opens_f hx hn 3 (o := 3) (s := 1) rfl (opens_u rfl rfl Try.underlying6) rfl (cellsOf_sz tk sz6 (by decide))
  refine ⟨⟨y0, y1, y2, y3⟩, ⟨w0, w1, w2, w3⟩, ?_, ?_⟩
  · have h := (rel_piece r0 (rel_piece r1 (rel_piece r2 (rel_piece r3 (rel_end hl)))))
    rw [List.drop_zero] at h
    first | exact h | (simp only [List.append_nil, List.append_assoc] at h ⊢; exact h) | (simpa [AV.cells, e_runtime_boundsError, c_runtime_boundsError] using h)
  · have h := (one_piece o0 (one_piece o1 (one_piece o2 (one_piece o3 (one_end hl)))))
    rw [List.drop_zero] at h
    exact h
def wf_runtime_errorAddressString (x : runtime_errorAddressString) : Prop := wfS x.msg ∧ wfT x.addr
theorem opens13 : Opens Try.prog 13 e_runtime_errorAddressString wf_runtime_errorAddressString := by
  intro H enc w fuel cs x hx
  obtain ⟨xs, m, _, _, hl, hn, hx⟩ := DataW.trod_struct Try.underlying13 hx
  rw [cellsOf_sz tk sz13 (by decide)] at hl
  obtain ⟨y0, w0, r0, o0⟩ := opens_f hx hn 0 (o := 0) (s := 1) rfl (opens_s Try.underlying9) rfl (cellsOf_sz tk sz9 (by decide))
  obtain ⟨y1, w1, r1, o1⟩ := opens_f hx hn 1 (o := 1) (s := 1) rfl (opens_u rfl rfl Try.underlying12) rfl (cellsOf_sz tk sz12 (by decide))
  refine ⟨⟨y0, y1⟩, ⟨w0, w1⟩, ?_, ?_⟩
  · have h := (rel_piece r0 (rel_piece r1 (rel_end hl)))
    rw [List.drop_zero] at h
    first | exact h | (simp only [List.append_nil, List.append_assoc] at h ⊢; exact h) | (simpa [AV.cells, e_runtime_errorAddressString, c_runtime_errorAddressString] using h)
  · have h := (one_piece o0 (one_piece o1 (one_end hl)))
    rw [List.drop_zero] at h
    exact h
theorem opens14 : Opens Try.prog 14 e_runtime_errorAddressString wf_runtime_errorAddressString := by
  intro H enc w fuel cs x hx
  obtain ⟨xs, m, _, _, hl, hn, hx⟩ := DataW.trod_struct Try.underlying14 hx
  rw [cellsOf_sz tk sz14 (by decide)] at hl
  obtain ⟨y0, w0, r0, o0⟩ := opens_f hx hn 0 (o := 0) (s := 1) rfl (opens_s Try.underlying9) rfl (cellsOf_sz tk sz9 (by decide))
  obtain ⟨y1, w1, r1, o1⟩ := opens_f hx hn 1 (o := 1) (s := 1) rfl (opens_u rfl rfl Try.underlying12) rfl (cellsOf_sz tk sz12 (by decide))
  refine ⟨⟨y0, y1⟩, ⟨w0, w1⟩, ?_, ?_⟩
  · have h := (rel_piece r0 (rel_piece r1 (rel_end hl)))
    rw [List.drop_zero] at h
    first | exact h | (simp only [List.append_nil, List.append_assoc] at h ⊢; exact h) | (simpa [AV.cells, e_runtime_errorAddressString, c_runtime_errorAddressString] using h)
  · have h := (one_piece o0 (one_piece o1 (one_end hl)))
    rw [List.drop_zero] at h
    exact h
def wf_butteryref02_Reader (x : butteryref02_Reader) : Prop := (wfL wfT) x.B ∧ (wfI .i64) x.At ∧ (wfI .i64) x.Code
theorem opens45 : Opens Try.prog 45 e_butteryref02_Reader wf_butteryref02_Reader := by
  intro H enc w fuel cs x hx
  obtain ⟨xs, m, _, _, hl, hn, hx⟩ := DataW.trod_struct Try.underlying45 hx
  rw [cellsOf_sz tk sz45 (by decide)] at hl
  obtain ⟨y0, w0, r0, o0⟩ := opens_f hx hn 0 (o := 0) (s := 1) rfl (opens_l tk Try.underlying22 (enc_u td5 sz5) (opens_u rfl rfl Try.underlying5)) rfl (cellsOf_sz tk sz22 (by decide))
  obtain ⟨y1, w1, r1, o1⟩ := opens_f hx hn 1 (o := 1) (s := 1) rfl (opens_i64 Try.underlying3) rfl (cellsOf_sz tk sz3 (by decide))
  obtain ⟨y2, w2, r2, o2⟩ := opens_f hx hn 2 (o := 2) (s := 1) rfl (opens_i64 Try.underlying33) rfl (cellsOf_sz tk sz33 (by decide))
  refine ⟨⟨y0, y1, y2⟩, ⟨w0, w1, w2⟩, ?_, ?_⟩
  · have h := (rel_piece r0 (rel_piece r1 (rel_piece r2 (rel_end hl))))
    rw [List.drop_zero] at h
    first | exact h | (simp only [List.append_nil, List.append_assoc] at h ⊢; exact h) | (simpa [AV.cells, e_butteryref02_Reader, c_butteryref02_Reader] using h)
  · have h := (one_piece o0 (one_piece o1 (one_piece o2 (one_end hl))))
    rw [List.drop_zero] at h
    exact h
theorem opens46 : Opens Try.prog 46 e_butteryref02_Reader wf_butteryref02_Reader := by
  intro H enc w fuel cs x hx
  obtain ⟨xs, m, _, _, hl, hn, hx⟩ := DataW.trod_struct Try.underlying46 hx
  rw [cellsOf_sz tk sz46 (by decide)] at hl
  obtain ⟨y0, w0, r0, o0⟩ := opens_f hx hn 0 (o := 0) (s := 1) rfl (opens_l tk Try.underlying22 (enc_u td5 sz5) (opens_u rfl rfl Try.underlying5)) rfl (cellsOf_sz tk sz22 (by decide))
  obtain ⟨y1, w1, r1, o1⟩ := opens_f hx hn 1 (o := 1) (s := 1) rfl (opens_i64 Try.underlying3) rfl (cellsOf_sz tk sz3 (by decide))
  obtain ⟨y2, w2, r2, o2⟩ := opens_f hx hn 2 (o := 2) (s := 1) rfl (opens_i64 Try.underlying33) rfl (cellsOf_sz tk sz33 (by decide))
  refine ⟨⟨y0, y1, y2⟩, ⟨w0, w1, w2⟩, ?_, ?_⟩
  · have h := (rel_piece r0 (rel_piece r1 (rel_piece r2 (rel_end hl))))
    rw [List.drop_zero] at h
    first | exact h | (simp only [List.append_nil, List.append_assoc] at h ⊢; exact h) | (simpa [AV.cells, e_butteryref02_Reader, c_butteryref02_Reader] using h)
  · have h := (one_piece o0 (one_piece o1 (one_piece o2 (one_end hl))))
    rw [List.drop_zero] at h
    exact h
def wf_butterylaw02_Ask (x : butterylaw02_Ask) : Prop := (wfI .i64) x.Kind ∧ (wfI .i64) x.N
theorem opens47 : Opens Try.prog 47 e_butterylaw02_Ask wf_butterylaw02_Ask := by
  intro H enc w fuel cs x hx
  obtain ⟨xs, m, _, _, hl, hn, hx⟩ := DataW.trod_struct Try.underlying47 hx
  rw [cellsOf_sz tk sz47 (by decide)] at hl
  obtain ⟨y0, w0, r0, o0⟩ := opens_f hx hn 0 (o := 0) (s := 1) rfl (opens_i64 Try.underlying3) rfl (cellsOf_sz tk sz3 (by decide))
  obtain ⟨y1, w1, r1, o1⟩ := opens_f hx hn 1 (o := 1) (s := 1) rfl (opens_i64 Try.underlying3) rfl (cellsOf_sz tk sz3 (by decide))
  refine ⟨⟨y0, y1⟩, ⟨w0, w1⟩, ?_, ?_⟩
  · have h := (rel_piece r0 (rel_piece r1 (rel_end hl)))
    rw [List.drop_zero] at h
    first | exact h | (simp only [List.append_nil, List.append_assoc] at h ⊢; exact h) | (simpa [AV.cells, e_butterylaw02_Ask, c_butterylaw02_Ask] using h)
  · have h := (one_piece o0 (one_piece o1 (one_end hl)))
    rw [List.drop_zero] at h
    exact h
theorem opens48 : Opens Try.prog 48 e_butterylaw02_Ask wf_butterylaw02_Ask := by
  intro H enc w fuel cs x hx
  obtain ⟨xs, m, _, _, hl, hn, hx⟩ := DataW.trod_struct Try.underlying48 hx
  rw [cellsOf_sz tk sz48 (by decide)] at hl
  obtain ⟨y0, w0, r0, o0⟩ := opens_f hx hn 0 (o := 0) (s := 1) rfl (opens_i64 Try.underlying3) rfl (cellsOf_sz tk sz3 (by decide))
  obtain ⟨y1, w1, r1, o1⟩ := opens_f hx hn 1 (o := 1) (s := 1) rfl (opens_i64 Try.underlying3) rfl (cellsOf_sz tk sz3 (by decide))
  refine ⟨⟨y0, y1⟩, ⟨w0, w1⟩, ?_, ?_⟩
  · have h := (rel_piece r0 (rel_piece r1 (rel_end hl)))
    rw [List.drop_zero] at h
    first | exact h | (simp only [List.append_nil, List.append_assoc] at h ⊢; exact h) | (simpa [AV.cells, e_butterylaw02_Ask, c_butterylaw02_Ask] using h)
  · have h := (one_piece o0 (one_piece o1 (one_end hl)))
    rw [List.drop_zero] at h
    exact h
def wf_octets_Reader (x : octets_Reader) : Prop := (wfL wfT) x.b ∧ (wfI .i64) x.at_ ∧ (wfI .i64) x.code
theorem opens59 : Opens Try.prog 59 e_octets_Reader wf_octets_Reader := by
  intro H enc w fuel cs x hx
  obtain ⟨xs, m, _, _, hl, hn, hx⟩ := DataW.trod_struct Try.underlying59 hx
  rw [cellsOf_sz tk sz59 (by decide)] at hl
  obtain ⟨y0, w0, r0, o0⟩ := opens_f hx hn 0 (o := 0) (s := 1) rfl (opens_l tk Try.underlying22 (enc_u td5 sz5) (opens_u rfl rfl Try.underlying5)) rfl (cellsOf_sz tk sz22 (by decide))
  obtain ⟨y1, w1, r1, o1⟩ := opens_f hx hn 1 (o := 1) (s := 1) rfl (opens_i64 Try.underlying3) rfl (cellsOf_sz tk sz3 (by decide))
  obtain ⟨y2, w2, r2, o2⟩ := opens_f hx hn 2 (o := 2) (s := 1) rfl (opens_i64 Try.underlying33) rfl (cellsOf_sz tk sz33 (by decide))
  refine ⟨⟨y0, y1, y2⟩, ⟨w0, w1, w2⟩, ?_, ?_⟩
  · have h := (rel_piece r0 (rel_piece r1 (rel_piece r2 (rel_end hl))))
    rw [List.drop_zero] at h
    first | exact h | (simp only [List.append_nil, List.append_assoc] at h ⊢; exact h) | (simpa [AV.cells, e_octets_Reader, c_octets_Reader] using h)
  · have h := (one_piece o0 (one_piece o1 (one_piece o2 (one_end hl))))
    rw [List.drop_zero] at h
    exact h
theorem opens60 : Opens Try.prog 60 e_octets_Reader wf_octets_Reader := by
  intro H enc w fuel cs x hx
  obtain ⟨xs, m, _, _, hl, hn, hx⟩ := DataW.trod_struct Try.underlying60 hx
  rw [cellsOf_sz tk sz60 (by decide)] at hl
  obtain ⟨y0, w0, r0, o0⟩ := opens_f hx hn 0 (o := 0) (s := 1) rfl (opens_l tk Try.underlying22 (enc_u td5 sz5) (opens_u rfl rfl Try.underlying5)) rfl (cellsOf_sz tk sz22 (by decide))
  obtain ⟨y1, w1, r1, o1⟩ := opens_f hx hn 1 (o := 1) (s := 1) rfl (opens_i64 Try.underlying3) rfl (cellsOf_sz tk sz3 (by decide))
  obtain ⟨y2, w2, r2, o2⟩ := opens_f hx hn 2 (o := 2) (s := 1) rfl (opens_i64 Try.underlying33) rfl (cellsOf_sz tk sz33 (by decide))
  refine ⟨⟨y0, y1, y2⟩, ⟨w0, w1, w2⟩, ?_, ?_⟩
  · have h := (rel_piece r0 (rel_piece r1 (rel_piece r2 (rel_end hl))))
    rw [List.drop_zero] at h
    first | exact h | (simp only [List.append_nil, List.append_assoc] at h ⊢; exact h) | (simpa [AV.cells, e_octets_Reader, c_octets_Reader] using h)
  · have h := (one_piece o0 (one_piece o1 (one_piece o2 (one_end hl))))
    rw [List.drop_zero] at h
    exact h
end Go.Proofs.Ytjaaepnejihbkaa
