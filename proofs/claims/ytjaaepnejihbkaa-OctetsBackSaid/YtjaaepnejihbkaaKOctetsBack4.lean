/- THERE AND BACK: numbers, bytes and words that were put one behind the other are read as they were, whatever stands behind. (part 4 of 5) -/
import Derived.Test.YtjaaepnejihbkaaKOctetsBack3
namespace Go.Proofs.Ytjaaepnejihbkaa
open Go Go.Va
set_option linter.unusedVariables false
set_option linter.unusedSimpArgs false
def upN (k : Nat) : Int ⊕ (Nat × Nat) → Int ⊕ (Nat × Nat)
  | .inl e => .inl e
  | .inr (m, j) => .inr (m, k + j)
theorem upN_up (k : Nat) (r : Int ⊕ (Nat × Nat)) : upN k (up7 r) = upN (k + 1) r := by
  cases r with
  | inl e => rfl
  | inr p => simp only [up7, upN]; rw [show k + (p.2 + 1) = k + 1 + p.2 by omega]
theorem rd7_pre {most : Nat} : ∀ (k q : Nat), q < 128 ^ k → q ≤ most / 128 → ∀ l, rd7 most (pre q ++ l) true 0 = upN (pre q).length (rd7 most l (decide (q = 0)) q)
  | 0, q, h, hq, l => by
    have : q = 0 := by simpa using h
    subst this
    rw [pre_zero]
    simp only [List.nil_append, List.length_nil, decide_true]
    cases rd7 most l true 0 with
    | inl e => rfl
    | inr p => simp [upN]
  | k + 1, q, h, hq, l => by
    by_cases h0 : q = 0
    · subst h0
      rw [pre_zero]
      simp only [List.nil_append, List.length_nil, decide_true]
      cases rd7 most l true 0 with
      | inl e => rfl
      | inr p => simp [upN]
    · rw [pre_pos (by omega), List.append_assoc, rd7_pre k (q / 128) (by rw [Nat.div_lt_iff_lt_mul (by decide)]; rw [Nat.pow_succ] at h; exact h) (by omega)]
      have hc : (BitVec.ofNat 8 (q % 128 + 128)).toNat = q % 128 + 128 := by simp; omega
      simp only [List.singleton_append, rd7]
      rw [if_neg (by
        rintro ⟨h1, h2⟩
        have h1 := congrArg BitVec.toNat h1
        rw [hc] at h1
        have h1 : q % 128 + 128 = 128 := h1
        have h2 : q / 128 = 0 := by simpa using h2
        omega), if_neg (by omega), if_pos (by omega), hc, upN_up]
      rw [show q / 128 * 128 + (q % 128 + 128) % 128 = q by omega, decide_eq_false h0]
      simp
theorem rd7_num {most m : Nat} (hm : m ≤ most) (hm2 : m < 9223372036854775808) (l : List (BitVec 8)) : rd7 most (num7 m ++ l) true 0 = .inr (m, (num7 m).length) := by
  rw [num7, List.append_assoc, rd7_pre 9 (m / 128) (by omega) (by omega)]
  have hc : (BitVec.ofNat 8 (m % 128)).toNat = m % 128 := by simp; omega
  simp only [List.singleton_append, rd7]
  rw [if_neg (by
    rintro ⟨h1, h2⟩
    have h1 := congrArg BitVec.toNat h1
    rw [hc] at h1
    have h1 : m % 128 = 128 := h1
    omega), if_neg (by omega), if_neg (by omega), if_neg (by omega), hc, show m / 128 * 128 + m % 128 = m by omega]
  simp [upN]
theorem rdN_num {b l : List (BitVec 8)} {a most m : Nat} (h : b.drop a = num7 m ++ l) (hm : m ≤ most) (hm2 : m < 9223372036854775808) : rdN b a most = (m, a + (num7 m).length, 0) := by
  rw [rdN, h, rd7_num hm hm2]
theorem few_mem {l : List Int} (hl : okN l) (i : Nat) (hi : i < l.length) : ∃ m : Nat, l[i] = (m : Int) ∧ m < 9223372036854775808 := by
  obtain ⟨h1, h2⟩ := hl.2 _ (List.getElem_mem hi)
  exact ⟨l[i].toNat, by omega, by omega⟩
theorem OctetsBack_pure (l : List Int) (t : List (BitVec 8)) (n : BitVec 64) (more : List (BitVec 8)) (hl : wfL (wfI .i64) l) (_ : wfL wfT t) (_ : wfT n) (_ : wfL wfT more) : butterylaw02_OctetsBack l t n more = some true := by
  obtain ⟨v, hv⟩ := few_some l
  have hok : v = true → okN l := by
    rintro rfl
    obtain ⟨h1, h2⟩ := few_true hv
    exact ⟨by omega, fun m hm => ⟨h2 m hm, (hl.2 m hm).2⟩⟩
  unfold butterylaw02_OctetsBack
  simp only [hv, Option.bind_some, lt_eq, works02]
  cases v with
  | false => rfl
  | true =>
  have hok := hok rfl
  rw [if_neg (by simp)]
  by_cases ht : t.length > 1000
  · rw [if_pos (decide_eq_true (by omega))]; rfl
  rw [if_neg (by rw [decide_eq_false (by omega)]; simp)]
  by_cases hs : more.length > 1000
  · rw [decide_eq_true (show (more.length : Int) > 1000 by omega)]; rfl
  rw [decide_eq_false (show ¬ (more.length : Int) > 1000 by omega)]
  simp only [Option.bind_some]
  have hn := nums_len hok.2
  have hn1 := hok.1
  have h9 := num7_len (n := t.length) (by omega)
  rw [if_neg (by simp), octPut_eq [] (by simp) hok]
  simp only [Option.bind_some, List.nil_append]
  rw [octBytes_eq _ t (by omega) (by omega)]
  simp only [Option.bind_some]
  rw [octWord_eq _ n (by simp only [List.length_append]; omega)]
  simp only [Option.bind_some]
  rw [app_eq (by simp only [List.length_append, List.length_nil, wd_len]; omega)]
  simp only [Option.bind_some, List.nil_append]
  rw [app_eq (by simp only [List.length_append, List.length_nil, wd_len]; omega)]
  simp only [Option.bind_some]
  generalize hb : nums l ++ num7 t.length ++ t ++ wd n 8 ++ more = b
  have hbl : b.length = (nums l).length + (num7 t.length).length + t.length + 8 + more.length := by rw [← hb]; simp only [List.length_append, wd_len]
  rw [read_eq (by omega)]
  simp only [Option.bind_some]
  have hpos : ∀ i, i ≤ l.length → b.drop (nums (l.take i)).length = nums (l.drop i) ++ (num7 t.length ++ (t ++ (wd n 8 ++ more))) := by
    intro i hi
    rw [← hb]
    have : nums l = nums (l.take i) ++ nums (l.drop i) := by
      simp only [nums]; rw [← List.flatMap_append, List.take_append_drop]
    rw [this]
    simp only [List.append_assoc]
    rw [List.drop_left]
  have hle : ∀ i, (nums (l.take i)).length ≤ b.length := by
    intro i
    have h1 := nums_len (l := l.take i) (fun m hm => hok.2 m (List.mem_of_mem_take hm))
    have : nums l = nums (l.take i) ++ nums (l.drop i) := by
      simp only [nums]; rw [← List.flatMap_append, List.take_append_drop]
    rw [this, List.length_append] at hbl
    omega
  have key := loopO_inv (body := fun s => butterylaw02_OctetsBack_b0 l t n more s.1 s.2) (fun s => ∃ i : Nat, i ≤ l.length ∧ s = ((i : Int), ⟨b, ((nums (l.take i)).length : Int), 0⟩)) (fun s => l.length - s.1.toNat) (fun x => x = .inr true ∨ x = .inl ⟨b, ((nums l).length : Int), 0⟩) (fun s => by
    rintro ⟨i, hi, rfl⟩
    simp only [butterylaw02_OctetsBack_b0, lt_eq]
    by_cases hil : i < l.length
    · obtain ⟨m, hm, hm2⟩ := few_mem hok i hil
      have hN := octNum_eq (b := b) (a := (nums (l.take i)).length) (most := 4611686018427387904) (by omega) (hle i) (by omega)
      rw [show ((4611686018427387904 : Nat) : Int) = 4611686018427387904 from rfl] at hN
      rw [if_pos (decide_eq_true (by omega)), hN, ix_nat hil, hm]
      simp only [Option.bind_some]
      by_cases hbig : m ≤ 4611686018427387904
      · have hd : b.drop (nums (l.take i)).length = num7 m ++ (nums (l.drop (i + 1)) ++ (num7 t.length ++ (t ++ (wd n 8 ++ more)))) := by
          rw [hpos i (by omega), List.drop_eq_getElem_cons hil, hm]
          simp [nums]
        rw [rdN_num hd hbig hm2]
        left
        refine ⟨_, ?_, ⟨i + 1, hil, rfl⟩, by simp only [Int.toNat_natCast]; omega⟩
        simp only [bne_self_eq_false]
        rw [if_neg (by simp)]
        simp only [Option.bind_some]
        rw [if_neg (by simp), if_neg (by rw [decide_eq_false (by omega)]; simp), w64_nat (by omega), List.take_succ_eq_append_getElem hil, nums_snoc, hm]
        simp
      · right
        refine ⟨.inr true, ?_, .inl rfl⟩
        have e1 : decide ((m : Int) ≤ 4611686018427387904) = false := decide_eq_false (by omega)
        have e2 : decide ((m : Int) > 4611686018427387904) = true := decide_eq_true (by omega)
        rw [e1, e2, works02]
        split <;> rfl
    · right
      refine ⟨_, ?_, .inr rfl⟩
      rw [if_neg (by rw [decide_eq_false (by omega)]; simp)]
      rw [List.take_of_length_le (by omega)]) (s := ((0 : Int), ⟨b, 0, 0⟩)) ⟨0, Nat.zero_le _, rfl⟩
  obtain ⟨x, h1, h2⟩ := key
  have h1' : butterylaw02_OctetsBack_l0 l t n more ((0 : Int), ⟨b, 0, 0⟩) = some x := h1
  rw [h1']
  simp only [Option.bind_some]
  rcases h2 with rfl | rfl
  · rfl
  simp only [Sum.elim_inl]
  have hd := hpos l.length (Nat.le_refl _)
  rw [List.take_length, List.drop_length] at hd
  simp only [nums, List.flatMap_nil, List.nil_append] at hd
  rw [← nums] at hd
  have hrd := rdN_num (most := 1073741824) hd (by omega) (by omega)
  have hB := octBytesR_eq (b := b) (a := (nums l).length) (most := 1073741824) (by omega) (by omega) (by omega)
  rw [show ((1073741824 : Nat) : Int) = 1073741824 from rfl] at hB
  have hrb : rdB b (nums l).length 1073741824 = (t, (nums l).length + (num7 t.length).length + t.length, 0) := by
    unfold rdB
    rw [hrd]
    simp only
    rw [if_neg (by simp), if_neg (by omega)]
    congr 1
    rw [← hb]
    rw [show nums l ++ num7 t.length ++ t ++ wd n 8 ++ more = (nums l ++ num7 t.length) ++ (t ++ (wd n 8 ++ more)) by simp only [List.append_assoc]]
    rw [show (nums l).length + (num7 t.length).length = (nums l ++ num7 t.length).length by simp, List.take_length_add_append, List.drop_left, List.take_left]
  rw [hB, hrb]
  simp only [Option.bind_some]
  have hW := octWordR_eq (b := b) (a := (nums l).length + (num7 t.length).length + t.length) (by omega) (by omega)
  rw [if_pos (by omega)] at hW
  have hc8 : cut8 b ((nums l).length + (num7 t.length).length + t.length) = wd n 8 := by
    unfold cut8
    rw [← hb]
    rw [show nums l ++ num7 t.length ++ t ++ wd n 8 ++ more = (nums l ++ num7 t.length ++ t) ++ (wd n 8 ++ more) by simp only [List.append_assoc]]
    rw [show (nums l).length + (num7 t.length).length + t.length = (nums l ++ num7 t.length ++ t).length by simp only [List.length_append], List.take_length_add_append, List.drop_left]
    exact List.take_left' (wd_len n 8)
  rw [hc8, word_full] at hW
  rw [hW]
  simp only [Option.bind_some]
  rw [same_eq t t (by omega)]
  simp only [decide_true, Option.bind_some, if_true, BEq.rfl, octets_Reader_Code]
  rw [left_eq (by omega) (by omega)]
  simp only [Option.bind_some]
  rw [if_pos (by simp; omega)]
end Go.Proofs.Ytjaaepnejihbkaa
namespace Go.Proofs.Ytjaaepnejihbkaa
open Go Go.Va
set_option linter.unusedSimpArgs false
set_option linter.unusedVariables false
def wf_runtime_boundsError (x : runtime_boundsError) : Prop := (wfI .i64) x.x ∧ (wfI .i64) x.y ∧ wfT x.signed ∧ wfT x.code
theorem opens7 : Opens Try.prog 7 e_runtime_boundsError wf_runtime_boundsError := by
  intro H enc w fuel cs x hx
  obtain ⟨xs, m, _, _, hl, hn, hx⟩ := DataW.trod_struct Try.underlying7 hx
  rw [cellsOf_sz tk sz7 (by decide)] at hl
  obtain ⟨y0, w0, r0, o0⟩ := opens_f hx hn 0 (o := 0) (s := 1) rfl (opens_i64 Try.underlying2) rfl (cellsOf_sz tk sz2 (by decide))
  obtain ⟨y1, w1, r1, o1⟩ := opens_f hx hn 1 (o := 1) (s := 1) rfl (opens_i64 Try.underlying3) rfl (cellsOf_sz tk sz3 (by decide))
  obtain ⟨y2, w2, r2, o2⟩ := opens_f hx hn 2 (o := 2) (s := 1) rfl (opens_b Try.underlying4) rfl (cellsOf_sz tk sz4 (by decide))
  obtain ⟨y3, w3, r3, o3⟩ := opens_f hx hn 3 (o := 3) (s := 1) rfl (opens_u rfl rfl Try.underlying6) rfl (cellsOf_sz tk sz6 (by decide))
  refine ⟨⟨y0, y1, y2, y3⟩, ⟨w0, w1, w2, w3⟩, ?_, ?_⟩
  · have h := (rel_piece r0 (rel_piece r1 (rel_piece r2 (rel_piece r3 (rel_end hl)))))
    rw [List.drop_zero] at h
    first | exact h | (simp only [List.append_nil, List.append_assoc] at h ⊢; exact h) | (simpa [AV.cells, e_runtime_boundsError, c_runtime_boundsError] using h)
  · have h := (one_piece o0 (one_piece o1 (one_piece o2 (one_piece o3 (one_end hl)))))
    rw [List.drop_zero] at h
    exact h
theorem opens8 : Opens Try.prog 8 e_runtime_boundsError wf_runtime_boundsError := by
  intro H enc w fuel cs x hx
  obtain ⟨xs, m, _, _, hl, hn, hx⟩ := DataW.trod_struct Try.underlying8 hx
  rw [cellsOf_sz tk sz8 (by decide)] at hl
  obtain ⟨y0, w0, r0, o0⟩ := opens_f hx hn 0 (o := 0) (s := 1) rfl (opens_i64 Try.underlying2) rfl (cellsOf_sz tk sz2 (by decide))
  obtain ⟨y1, w1, r1, o1⟩ := opens_f hx hn 1 (o := 1) (s := 1) rfl (opens_i64 Try.underlying3) rfl (cellsOf_sz tk sz3 (by decide))
  obtain ⟨y2, w2, r2, o2⟩ := opens_f hx hn 2 (o := 2) (s := 1) rfl (opens_b Try.underlying4) rfl (cellsOf_sz tk sz4 (by decide))
  obtain ⟨y3, w3, r3, o3⟩ := opens_f hx hn 3 (o := 3) (s := 1) rfl (opens_u rfl rfl Try.underlying6) rfl (cellsOf_sz tk sz6 (by decide))
  refine ⟨⟨y0, y1, y2, y3⟩, ⟨w0, w1, w2, w3⟩, ?_, ?_⟩
  · have h := (rel_piece r0 (rel_piece r1 (rel_piece r2 (rel_piece r3 (rel_end hl)))))
    rw [List.drop_zero] at h
    first | exact h | (simp only [List.append_nil, List.append_assoc] at h ⊢; exact h) | (simpa [AV.cells, e_runtime_boundsError, c_runtime_boundsError] using h)
  · have h := (one_piece o0 (one_piece o1 (one_piece o2 (one_piece o3 (one_end hl)))))
    rw [List.drop_zero] at h
    exact h
def wf_runtime_errorAddressString (x : runtime_errorAddressString) : Prop := wfS x.msg ∧ wfT x.addr
theorem opens13 : Opens Try.prog 13 e_runtime_errorAddressString wf_runtime_errorAddressString := by
  intro H enc w fuel cs x hx
  obtain ⟨xs, m, _, _, hl, hn, hx⟩ := DataW.trod_struct Try.underlying13 hx
  rw [cellsOf_sz tk sz13 (by decide)] at hl
  obtain ⟨y0, w0, r0, o0⟩ := opens_f hx hn 0 (o := 0) (s := 1) rfl (opens_s Try.underlying9) rfl (cellsOf_sz tk sz9 (by decide))
  obtain ⟨y1, w1, r1, o1⟩ := opens_f hx hn 1 (o := 1) (s := 1) rfl (opens_u rfl rfl Try.underlying12) rfl (cellsOf_sz tk sz12 (by decide))
  refine ⟨⟨y0, y1⟩, ⟨w0, w1⟩, ?_, ?_⟩
  · have h := (rel_piece r0 (rel_piece r1 (rel_end hl)))
    rw [List.drop_zero] at h
    first | exact h | (simp only [List.append_nil, List.append_assoc] at h ⊢; exact h) | (simpa [AV.cells, e_runtime_errorAddressString, c_runtime_errorAddressString] using h)
  · have h := (one_piece o0 (one_piece o1 (one_end hl)))
    rw [List.drop_zero] at h
    exact h
theorem opens14 : Opens Try.prog 14 e_runtime_errorAddressString wf_runtime_errorAddressString := by
  intro H enc w fuel cs x hx
  obtain ⟨xs, m, _, _, hl, hn, hx⟩ := DataW.trod_struct Try.underlying14 hx
  rw [cellsOf_sz tk sz14 (by decide)] at hl
  obtain ⟨y0, w0, r0, o0⟩ := opens_f hx hn 0 (o := 0) (s := 1) rfl (opens_s Try.underlying9) rfl (cellsOf_sz tk sz9 (by decide))
  obtain ⟨y1, w1, r1, o1⟩ := opens_f hx hn 1 (o := 1) (s := 1) rfl (opens_u rfl rfl Try.underlying12) rfl (cellsOf_sz tk sz12 (by decide))
  refine ⟨⟨y0, y1⟩, ⟨w0, w1⟩, ?_, ?_⟩
  · have h := (rel_piece r0 (rel_piece r1 (rel_end hl)))
    rw [List.drop_zero] at h
    first | exact h | (simp only [List.append_nil, List.append_assoc] at h ⊢; exact h) | (simpa [AV.cells, e_runtime_errorAddressString, c_runtime_errorAddressString] using h)
  · have h := (one_piece o0 (one_piece o1 (one_end hl)))
    rw [List.drop_zero] at h
    exact h
def wf_butteryref02_Reader (x : butteryref02_Reader) : Prop := (wfL wfT) x.B ∧ (wfI .i64) x.At ∧ (wfI .i64) x.Code
theorem opens45 : Opens Try.prog 45 e_butteryref02_Reader wf_butteryref02_Reader := by
  intro H enc w fuel cs x hx
  obtain ⟨xs, m, _, _, hl, hn, hx⟩ := DataW.trod_struct Try.underlying45 hx
  rw [cellsOf_sz tk sz45 (by decide)] at hl
  obtain ⟨y0, w0, r0, o0⟩ := opens_f hx hn 0 (o := 0) (s := 1) rfl (opens_l tk Try.underlying22 (enc_u td5 sz5) (opens_u rfl rfl Try.underlying5)) rfl (cellsOf_sz tk sz22 (by decide))
  obtain ⟨y1, w1, r1, o1⟩ := opens_f hx hn 1 (o := 1) (s := 1) rfl (opens_i64 Try.underlying3) rfl (cellsOf_sz tk sz3 (by decide))
  obtain ⟨y2, w2, r2, o2⟩ := opens_f hx hn 2 (o := 2) (s := 1) rfl (opens_i64 Try.underlying33) rfl (cellsOf_sz tk sz33 (by decide))
  refine ⟨⟨y0, y1, y2⟩, ⟨w0, w1, w2⟩, ?_, ?_⟩
  · have h := (rel_piece r0 (rel_piece r1 (rel_piece r2 (rel_end hl))))
    rw [List.drop_zero] at h
    first | exact h | (simp only [List.append_nil, List.append_assoc] at h ⊢; exact h) | (simpa [AV.cells, e_butteryref02_Reader, c_butteryref02_Reader] using h)
  · have h := (one_piece o0 (one_piece o1 (one_piece o2 (one_end hl))))
    rw [List.drop_zero] at h
    exact h
theorem opens46 : Opens Try.prog 46 e_butteryref02_Reader wf_butteryref02_Reader := by
  intro H enc w fuel cs x hx
  obtain ⟨xs, m, _, _, hl, hn, hx⟩ := DataW.trod_struct Try.underlying46 hx
  rw [cellsOf_sz tk sz46 (by decide)] at hl
  obtain ⟨y0, w0, r0, o0⟩ := opens_f hx hn 0 (o := 0) (s := 1) rfl (opens_l tk Try.underlying22 (enc_u td5 sz5) (opens_u rfl rfl Try.underlying5)) rfl (cellsOf_sz tk sz22 (by decide))
  obtain ⟨y1, w1, r1, o1⟩ := opens_f hx hn 1 (o := 1) (s := 1) rfl (opens_i64 Try.underlying3) rfl (cellsOf_sz tk sz3 (by decide))
  obtain ⟨y2, w2, r2, o2⟩ := opens_f hx hn 2 (o := 2) (s := 1) rfl (opens_i64 Try.underlying33) rfl (cellsOf_sz tk sz33 (by decide))
  refine ⟨⟨y0, y1, y2⟩, ⟨w0, w1, w2⟩, ?_, ?_⟩
  · have h := (rel_piece r0 (rel_piece r1 (rel_piece r2 (rel_end hl))))
    rw [List.drop_zero] at h
    first | exact h | (simp only [List.append_nil, List.append_assoc] at h ⊢; exact h) | (simpa [AV.cells, e_butteryref02_Reader, c_butteryref02_Reader] using h)
  · have h := (one_piece o0 (one_piece o1 (one_piece o2 (one_end hl))))
    rw [List.drop_zero] at h
    exact h
def wf_butterylaw02_Ask (x : butterylaw02_Ask) : Prop := (wfI .i64) x.Kind ∧ (wfI .i64) x.N
theorem opens47 : Opens Try.prog 47 e_butterylaw02_Ask wf_butterylaw02_Ask := by
  intro H enc w fuel cs x hx
  obtain ⟨xs, m, _, _, hl, hn, hx⟩ := DataW.trod_struct Try.underlying47 hx
  rw [cellsOf_sz tk sz47 (by decide)] at hl
  obtain ⟨y0, w0, r0, o0⟩ := opens_f hx hn 0 (o := 0) (s := 1) rfl (opens_i64 Try.underlying3) rfl (cellsOf_sz tk sz3 (by decide))
  obtain ⟨y1, w1, r1, o1⟩ := opens_f hx hn 1 (o := 1) (s := 1) rfl (opens_i64 Try.underlying3) rfl (cellsOf_sz tk sz3 (by decide))
  refine ⟨⟨y0, y1⟩, ⟨w0, w1⟩, ?_, ?_⟩
  · have h := (rel_piece r0 (rel_piece r1 (rel_end hl)))
    rw [List.drop_zero] at h
    first | exact h | (simp only [List.append_nil, List.append_assoc] at h ⊢; exact h) | (simpa [AV.cells, e_butterylaw02_Ask, c_butterylaw02_Ask] using h)
  · have h := (one_piece o0 (one_piece o1 (one_end hl)))
    rw [List.drop_zero] at h
    exact h
theorem opens48 : Opens Try.prog 48 e_butterylaw02_Ask wf_butterylaw02_Ask := by
  intro H enc w fuel cs x hx
  obtain ⟨xs, m, _, _, hl, hn, hx⟩ := DataW.trod_struct Try.underlying48 hx
  rw [cellsOf_sz tk sz48 (by decide)] at hl
  obtain ⟨y0, w0, r0, o0⟩ := opens_f hx hn 0 (o := 0) (s := 1) rfl (opens_i64 Try.underlying3) rfl (cellsOf_sz tk sz3 (by decide))
  obtain ⟨y1, w1, r1, o1⟩ := opens_f hx hn 1 (o := 1) (s := 1) rfl (opens_i64 Try.underlying3) rfl (cellsOf_sz tk sz3 (by decide))
  refine ⟨⟨y0, y1⟩, ⟨w0, w1⟩, ?_, ?_⟩
  · have h := (rel_piece r0 (rel_piece r1 (rel_end hl)))
    rw [List.drop_zero] at h
    first | exact h | (simp only [List.append_nil, List.append_assoc] at h ⊢; exact h) | (simpa [AV.cells, e_butterylaw02_Ask, c_butterylaw02_Ask] using h)
  · have h := (one_piece o0 (one_piece o1 (one_end hl)))
    rw [List.drop_zero] at h
    exact h
def wf_octets_Reader (x : octets_Reader) : Prop := (wfL wfT) x.b ∧ (wfI .i64) x.at_ ∧ (wfI .i64) x.code
theorem opens59 : Opens Try.prog 59 e_octets_Reader wf_octets_Reader := by
  intro H enc w fuel cs x hx
  obtain ⟨xs, m, _, _, hl, hn, hx⟩ := DataW.trod_struct Try.underlying59 hx
  rw [cellsOf_sz tk sz59 (by decide)] at hl
  obtain ⟨y0, w0, r0, o0⟩ := opens_f hx hn 0 (o := 0) (s := 1) rfl (opens_l tk Try.underlying22 (enc_u td5 sz5) (opens_u rfl rfl Try.underlying5)) rfl (cellsOf_sz tk sz22 (by decide))
  obtain ⟨y1, w1, r1, o1⟩ := opens_f hx hn 1 (o := 1) (s := 1) rfl (opens_i64 Try.underlying3) rfl (cellsOf_sz tk sz3 (by decide))
  obtain ⟨y2, w2, r2, o2⟩ := opens_f hx hn 2 (o := 2) (s := 1) rfl (opens_i64 Try.underlying33) rfl (cellsOf_sz tk sz33 (by decide))
  refine ⟨⟨y0, y1, y2⟩, ⟨w0, w1, w2⟩, ?_, ?_⟩
  · have h := (rel_piece r0 (rel_piece r1 (rel_piece r2 (rel_end hl))))
    rw [List.drop_zero] at h
    first | exact h | (simp only [List.append_nil, List.append_assoc] at h ⊢; exact h) | (simpa [AV.cells, e_octets_Reader, c_octets_Reader] using h)
  · have h := (one_piece o0 (one_piece o1 (one_piece o2 (one_end hl))))
    rw [List.drop_zero] at h
    exact h
theorem opens60 : Opens Try.prog 60 e_octets_Reader wf_octets_Reader := by
  intro H enc w fuel cs x hx
  obtain ⟨xs, m, _, _, hl, hn, hx⟩ := DataW.trod_struct Try.underlying60 hx
  rw [cellsOf_sz tk sz60 (by decide)] at hl
  obtain ⟨y0, w0, r0, o0⟩ := opens_f hx hn 0 (o := 0) (s := 1) rfl (opens_l tk Try.underlying22 (enc_u td5 sz5) (opens_u rfl rfl Try.underlying5)) rfl (cellsOf_sz tk sz22 (by decide))
  obtain ⟨y1, w1, r1, o1⟩ := opens_f hx hn 1 (o := 1) (s := 1) rfl (opens_i64 Try.underlying3) rfl (cellsOf_sz tk sz3 (by decide))
  obtain ⟨y2, w2, r2, o2⟩ := opens_f hx hn 2 (o := 2) (s := 1) rfl (opens_i64 Try.underlying33) rfl (cellsOf_sz tk sz33 (by decide))
  refine ⟨⟨y0, y1, y2⟩, ⟨w0, w1, w2⟩, ?_, ?_⟩
  · have h := (rel_piece r0 (rel_piece r1 (rel_piece r2 (rel_end hl))))
    rw [List.drop_zero] at h
    first | exact h | (simp only [List.append_nil, List.append_assoc] at h ⊢; exact h) | (simpa [AV.cells, e_octets_Reader, c_octets_Reader] using h)
  · have h := (one_piece o0 (one_piece o1 (one_piece o2 (one_end hl))))
    rw [List.drop_zero] at h
    exact h
end Go.Proofs.Ytjaaepnejihbkaa
