/- LISTS STAY SOUND: whatever is done, each node stands in one list, or is free, and its neighbours stand where it says. (part 6 of 7) -/
import Derived.Test.YtobbifgmjkgkfaaDoorKListsSound5
import Derived.ChangeSame
import Derived.ChangeVars
import Derived.JoinedOf
import Derived.LaidHandle
import Derived.LaidLaws
import Derived.RowKit
import Derived.RowKitTokens
import Derived.Stop.Joined
import Derived.Test.YtobbifgmjkgkfaaDoorRows
namespace Go.Proofs.YtobbifgmjkgkfaaDoor
open Go Go.Va
set_option linter.unusedVariables false
set_option linter.unusedSimpArgs false
open Classical in
/-- Numbers, as a function: one more where a list has them. -/
noncomputable def inc (c : Int → Int) (l : List Int) : Int → Int := fun m => if m ∈ l then 1 else c m
def RepI (t : List Int) (n : Nat) (c : Int → Int) : Prop := t.length = n ∧ ∀ m : Int, 0 ≤ m → m < n → At t m (c m)
theorem RepI.set {t : List Int} {n : Nat} {c : Int → Int} (h : RepI t n c) {m : Int} (h0 : 0 ≤ m) (h1 : m < n) : RepI (t.set m.toNat 1) n (inc c [m]) :=
  ⟨by rw [List.length_set]; exact h.1, fun k k0 k1 => by
    unfold inc
    by_cases e : k = m
    · subst e
      rw [if_pos (by simp)]
      exact (h.2 k k0 k1).same 1
    · rw [if_neg (by simpa using e)]
      exact (h.2 k k0 k1).ne h0 e 1⟩
theorem inc_cons (c : Int → Int) (m : Int) (l : List Int) : inc (inc c [m]) l = inc c (m :: l) := by
  funext k
  unfold inc
  by_cases h1 : k ∈ l
  · rw [if_pos h1, if_pos (List.mem_cons_of_mem _ h1)]
  · rw [if_neg h1]
    by_cases h2 : k = m
    · rw [if_pos (by simp [h2]), if_pos (by simp [h2])]
    · rw [if_neg (by simpa using h2), if_neg (by simp [h1, h2])]
open Classical in
noncomputable def ccF (L : List (List Int)) (j : Nat) (m : Int) : Int := if ∃ l ∈ L.take j, m ∈ l then 1 else 0
theorem ccF_pos {L : List (List Int)} {j : Nat} {m : Int} (h : ∃ l ∈ L.take j, m ∈ l) : ccF L j m = 1 := if_pos h
theorem ccF_neg {L : List (List Int)} {j : Nat} {m : Int} (h : ¬ ∃ l ∈ L.take j, m ∈ l) : ccF L j m = 0 := if_neg h
section
variable {x : lists_Lists} {r : butteryref09_Lists} {g : Int → lists_link} {k : Int}
theorem sound1 (G : Good x r g k) {v9 i : Int} : ∀ (l : List Int) (t : List Int) (c : Int → Int) (p q : Int), RepI t x.nodes.length c → dl g i p l (-1) → l.Nodup → (∀ m ∈ l, 0 ≤ m ∧ m < (x.nodes.length : Int)) → (∀ m ∈ l, c m = 0) → 0 ≤ q → q + l.length ≤ 70000 →
    ∃ t', loopO (fun s => lists_Lists_Sound_b1 x v9 i s.1 s.2.1 s.2.2.1 s.2.2.2) (t, p, q, hdp l (-1)) = some (.inl (t', lsp p l, q + l.length)) ∧ RepI t' x.nodes.length (inc c l)
  | [], t, c, p, q, ht, _, _, _, _, _, _ => by
    refine ⟨t, ?_, ?_⟩
    · refine loopO_out ?_
      unfold lists_Lists_Sound_b1
      simp [lt_eq, hdp, lsp]
    · have : inc c [] = c := by funext k; unfold inc; simp
      rw [this]; exact ht
  | m :: l, t, c, p, q, ht, hd, hn, hr, hc, hq, hle => by
    obtain ⟨h1, h2, h3, h4⟩ := hd
    obtain ⟨m0, m1⟩ := hr m List.mem_cons_self
    obtain ⟨hml, hn'⟩ := List.nodup_cons.1 hn
    have hm := G.rep m m0 m1
    have htm := ht.2 m m0 m1
    rw [hc m List.mem_cons_self] at htm
    simp only [List.length_cons] at hle ⊢
    obtain ⟨t', k1, k2⟩ := sound1 G (v9 := v9) l (t.set m.toNat 1) (inc c [m]) m (q + 1) (ht.set m0 m1) h4 hn' (fun q hq => hr q (List.mem_cons_of_mem _ hq)) (fun q hq => by
      unfold inc
      rw [if_neg (by simp; exact fun e => hml (e ▸ hq))]
      exact hc q (List.mem_cons_of_mem _ hq)) (by omega) (by omega)
    refine ⟨t', ?_, by rw [← inc_cons]; exact k2⟩
    rw [loopO_in (s' := (t.set m.toNat 1, m, q + 1, hdp l (-1))), k1]
    · rw [show q + 1 + (l.length : Int) = q + ((l.length + 1 : Nat) : Int) by omega]
      rfl
    · show lists_Lists_Sound_b1 x v9 i t p q m = _
      unfold lists_Lists_Sound_b1
      simp only [lt_eq]
      rw [if_pos (by simp; omega), hm.chk, Option.bind_some, hm.ixA, Option.bind_some, htm.chk, Option.bind_some, htm.ixA, Option.bind_some, if_neg (by simp), h1, if_neg (by simp), h3, Option.bind_some, if_neg (by simp), Option.bind_some, Option.bind_some, Option.bind_some, htm.updA, Option.bind_some, Option.bind_some, Option.bind_some, h2, w64_eq (by omega) (by omega), w64_eq (by omega) (by omega)]
      rfl
theorem sound2 (G : Good x r g k) : ∀ (l : List Int) (t : List Int) (c : Int → Int), RepI t x.nodes.length c → fl g l → l.Nodup → (∀ m ∈ l, 0 ≤ m ∧ m < (x.nodes.length : Int)) → (∀ m ∈ l, c m = 0) →
    ∃ t', loopO (fun s => lists_Lists_Sound_b2 x s.1 s.2) (t, hdp l (-1)) = some (.inl t') ∧ RepI t' x.nodes.length (inc c l)
  | [], t, c, ht, _, _, _, _ => by
    refine ⟨t, ?_, ?_⟩
    · refine loopO_out ?_
      unfold lists_Lists_Sound_b2
      simp [lt_eq, hdp]
    · have : inc c [] = c := by funext k; unfold inc; simp
      rw [this]; exact ht
  | m :: l, t, c, ht, hd, hn, hr, hc => by
    obtain ⟨h2, h3, h4⟩ := hd
    obtain ⟨m0, m1⟩ := hr m List.mem_cons_self
    obtain ⟨hml, hn'⟩ := List.nodup_cons.1 hn
    have hm := G.rep m m0 m1
    have htm := ht.2 m m0 m1
    rw [hc m List.mem_cons_self] at htm
    obtain ⟨t', k1, k2⟩ := sound2 G l (t.set m.toNat 1) (inc c [m]) (ht.set m0 m1) h4 hn' (fun q hq => hr q (List.mem_cons_of_mem _ hq)) (fun q hq => by
      unfold inc
      rw [if_neg (by simp; exact fun e => hml (e ▸ hq))]
      exact hc q (List.mem_cons_of_mem _ hq))
    refine ⟨t', ?_, by rw [← inc_cons]; exact k2⟩
    rw [loopO_in (s' := (t.set m.toNat 1, hdp l (-1))), k1]
    show lists_Lists_Sound_b2 x t m = _
    unfold lists_Lists_Sound_b2
    simp only [lt_eq]
    rw [if_pos (by simp; omega), htm.chk, Option.bind_some, htm.ixA, Option.bind_some, if_neg (by simp), hm.chk, Option.bind_some, hm.ixA, Option.bind_some, h3, Option.bind_some, if_neg (by simp), Option.bind_some, Option.bind_some, htm.updA, Option.bind_some, Option.bind_some, Option.bind_some, w64_eq (by omega) (by omega)]
    rw [← h2]
    rfl
theorem sound_eq (G : Good x r g k) : lists_Lists_Sound x = some true := by
  have hM := G.M
  have hf := G.gd.f
  have hnN := G.nN
  unfold lists_Lists_Sound lists_Lists_Sound_l0 lists_Lists_Sound_l2 lists_Lists_Sound_l3
  simp only [lt_eq]
  rw [mkS_nat _ (by omega) (by omega), Option.bind_some]
  have key := loopO_inv (body := fun s => lists_Lists_Sound_b0 x (x.first_.length : Int) s.1 s.2) (fun s => ∃ j : Nat, s.2 = (j : Int) ∧ j ≤ r.L.length ∧ RepI s.1 x.nodes.length (ccF r.L j)) (fun s => (r.L.length - s.2).toNat) (fun y => ∃ t, y = .inl t ∧ RepI t x.nodes.length (ccF r.L r.L.length)) (s := (List.replicate x.nodes.length (0 : Int), (0 : Int))) ?_ ⟨0, rfl, Nat.zero_le _, by simp, fun m h0 h1 => ?_⟩
  · obtain ⟨y, h1, t, rfl, ht⟩ := key
    rw [h1]
    simp only [Option.bind_some, Sum.elim_inl]
    have hcf : ∀ m ∈ r.Free, ccF r.L r.L.length m = 0 := fun m hm => by
      refine ccF_neg ?_
      rintro ⟨l, hl, hml⟩
      rw [List.take_length] at hl
      obtain ⟨i, hi⟩ := List.mem_iff_getElem?.1 hl
      exact G.nfu hm ((G.sub i l (at_nat hi)).subset hml)
    obtain ⟨t2, h2, ht2⟩ := sound2 G r.Free t _ ht G.fr G.nf (fun m hm => G.rng m (List.mem_append_left _ hm)) hcf
    rw [G.free, h2]
    simp only [Option.bind_some, Sum.elim_inl]
    have h3 := loopO_up (body := fun s => lists_Lists_Sound_b3 x t2 (t2.length : Int) s) (fun j => (j : Int)) t2.length (x := .inl ()) (fun j hj => by
      have hj' : (j : Int) < x.nodes.length := by have := ht2.1; omega
      have hat := ht2.2 (j : Int) (by omega) hj'
      have e1 : inc (ccF r.L r.L.length) r.Free (j : Int) = 1 := by
        unfold inc
        by_cases hF : (j : Int) ∈ r.Free
        · rw [if_pos hF]
        · rw [if_neg hF]
          refine ccF_pos ?_
          rw [List.take_length]
          have hu := (List.mem_append.1 (G.cov (j : Int) (by omega) hj')).resolve_left hF
          obtain ⟨i, l, hi, hl⟩ := G.mem _ hu
          exact ⟨l, List.mem_of_getElem? hi.2, hl⟩
      rw [e1] at hat
      unfold lists_Lists_Sound_b3
      simp only [lt_eq]
      rw [if_pos (decide_eq_true (by omega)), hat.ix, Option.bind_some, if_neg (by simp), w64_nat (by omega)]) (by
      unfold lists_Lists_Sound_b3
      simp only [lt_eq]
      rw [if_neg (by simp)])
    rw [show (0 : Int) = ((0 : Nat) : Int) from rfl, h3]
    rfl
  · rintro ⟨t, s2⟩ ⟨j, hj, hjl, ht⟩
    simp only at hj ht
    subst hj
    unfold lists_Lists_Sound_b0 lists_Lists_Sound_l1
    simp only [lt_eq]
    by_cases hjn : j < r.L.length
    · left
      have hat : At r.L (j : Int) r.L[j] := at_nat (List.getElem?_eq_getElem hjn)
      obtain ⟨q1, q2, q3, q4⟩ := G.gd.dll _ _ hat
      have hll := G.ll hat
      have hc0 : ∀ m ∈ r.L[j], ccF r.L j m = 0 := fun m hm => by
        refine ccF_neg ?_
        rintro ⟨l, hl, hml⟩
        obtain ⟨i, hi⟩ := List.mem_iff_getElem?.1 hl
        have hij : i < j := by
          have := (List.getElem?_eq_some_iff.1 hi).1
          rw [List.length_take] at this
          omega
        rw [List.getElem?_take_of_lt hij] at hi
        have := G.dis (at_nat hi) hat hml hm
        omega
      obtain ⟨t', k1, k2⟩ := sound1 G (v9 := (x.first_.length : Int)) r.L[j] t (ccF r.L j) (-1) 0 ht q1 ((G.sub _ _ hat).nodup G.nu) (G.rl hat) hc0 (by omega) (by omega)
      rw [if_pos (decide_eq_true (by omega)), q2.chk, Option.bind_some, q2.ixA, Option.bind_some, k1, Option.bind_some, Sum.elim_inl, q3.chk, Option.bind_some, q3.ixA, Option.bind_some, if_pos (by simp), q4.chk, Option.bind_some, q4.ixA, Option.bind_some, Option.bind_some, if_pos (by simp), w64_nat (by omega)]
      refine ⟨_, rfl, ⟨j + 1, rfl, hjn, ?_⟩, by simp only; omega⟩
      have : ccF r.L (j + 1) = inc (ccF r.L j) r.L[j] := by
        funext m
        have htk : r.L.take (j + 1) = r.L.take j ++ [r.L[j]] := List.take_succ_eq_append_getElem hjn
        unfold inc
        by_cases h1 : m ∈ r.L[j]
        · rw [if_pos h1]
          refine ccF_pos ?_
          rw [htk]
          exact ⟨_, List.mem_append_right _ (List.mem_singleton.2 rfl), h1⟩
        · rw [if_neg h1]
          by_cases h2 : ∃ l ∈ r.L.take j, m ∈ l
          · rw [ccF_pos h2]
            refine ccF_pos ?_
            rw [htk]
            obtain ⟨l, hl, hml⟩ := h2
            exact ⟨l, List.mem_append_left _ hl, hml⟩
          · rw [ccF_neg h2]
            refine ccF_neg ?_
            rw [htk]
            rintro ⟨l, hl, hml⟩
            rcases List.mem_append.1 hl with h | h
            · exact h2 ⟨l, h, hml⟩
            · rw [List.mem_singleton.1 h] at hml; exact h1 hml
      rw [this]
      exact k2
    · right
      have hje : j = r.L.length := by omega
      subst hje
      rw [if_neg (by simp; omega)]
      exact ⟨_, rfl, t, rfl, ht⟩
  · rw [ccF_neg (by simp)]
    exact ⟨h0, by rw [List.getElem?_replicate, if_pos (by omega)]⟩
end
end Go.Proofs.YtobbifgmjkgkfaaDoor
namespace Go.Proofs.YtobbifgmjkgkfaaDoor
open Go Go.Va
set_option linter.unusedVariables false
set_option linter.unusedSimpArgs false
theorem lt_at (l : List (List Int)) (i : Nat) (y : List Int) (h : l[i]? = some y) : At l (i : Int) y := at_nat h
theorem works09 : butterylaw09_works = some true := by
  obtain ⟨x, r, h1, h2, G, h3, hr⟩ := new_ok (n := 2) (N := 3) (by decide) (by decide) (by decide) (by decide)
  have h1' : lists_New 2 3 = some (some x, .nil) := h1
  obtain ⟨e0, b1, b2, _⟩ := new_bad (n := 0) (m := 3) (.inl (by decide))
  have hr' : r = ⟨[[], []], [0, 1, 2], [], 3⟩ := hr
  subst hr'
  obtain ⟨xa, ra, na, ea, ca, a1, _, _, la, _, ⟨ga, Ga⟩, a2⟩ := add_step G (by decide) 1
  obtain ⟨rfl, rfl, rfl⟩ := a2 0 [1, 2] [] rfl (at_nat (k := 1) rfl)
  obtain ⟨xb, rb, nb, eb, cb, b1', _, _, lb, _, ⟨gb, Gb⟩, b2'⟩ := add_step Ga (by decide) 1
  obtain ⟨rfl, rfl, rfl⟩ := b2' 1 [2] [0] rfl (at_nat (k := 1) rfl)
  obtain ⟨xt, rt, et, ct, t1, _, _, lt', _, ⟨gt, Gt⟩, t2⟩ := touch_step Gb (by decide) 0
  obtain ⟨rfl, i, l, hi, h0l, _, eL, eU⟩ := t2 (by decide)
  obtain ⟨xd, rd, ed, cd, d1, _, d3, ld, _, ⟨gd, Gd'⟩, d2⟩ := drop_step Gt (by decide) 9
  obtain ⟨rfl, rfl⟩ := d2 (.inr (by omega))
  have hil : i = 1 ∧ l = [1, 0] := by
    have e1 : At ([[], [1, 0]] : List (List Int)) i l := hi
    have h1 := e1.lt
    have h0 := e1.1
    have h2 : i = 0 ∨ i = 1 := by
      have : (([[], [1, 0]] : List (List Int)).length : Int) = 2 := rfl
      omega
    rcases h2 with rfl | rfl
    · have := e1.uniq (at_nat (l := ([[], [1, 0]] : List (List Int))) (k := 0) rfl)
      subst this
      cases h0l
    · exact ⟨rfl, e1.uniq (at_nat (l := ([[], [1, 0]] : List (List Int))) (k := 1) rfl)⟩
  obtain ⟨rfl, rfl⟩ := hil
  have eL' : rd.L = [[], [0, 1]] := eL
  have eU' : rd.Used = [0, 1] := eU
  have hat : At rd.L 1 [0, 1] := by rw [eL']; exact at_nat (k := 1) rfl
  have hlist : lists_Lists_List xd 0 = some 1 := by
    rw [listX_in Gd' (by decide) (by omega), dl_list (Gd'.gd.dll 1 _ hat).1 0 (by decide)]
  have hold : lists_Lists_Oldest xd = some 1 := by rw [oldest_eq Gd', eU']; rfl
  have hlen := len_eq Gd' hat
  have hlast := last_eq Gd' hat
  unfold butterylaw09_works
  simp only [lt_eq]
  rw [h1']
  simp only [Option.bind_some, Option.elim_some]
  rw [b1]
  simp only [Option.bind_some, Option.elim_none]
  rw [a1]
  simp only [Option.bind_some]
  rw [b1']
  simp only [Option.bind_some]
  rw [t1]
  simp only [Option.bind_some]
  rw [d1]
  simp only [Option.bind_some, trouble_Of, b2, d3]
  rw [order_eq Gd' hat, Option.bind_some, ints_eq _ (by decide), Option.bind_some, hlast, Option.bind_some, hold, Option.bind_some, hlist, Option.bind_some, hlen, Option.bind_some, sound_eq Gd']
  rfl
end Go.Proofs.YtobbifgmjkgkfaaDoor
namespace Go.Proofs.YtobbifgmjkgkfaaDoor
open Go Go.Va
set_option linter.unusedSimpArgs false
set_option linter.unusedVariables false
def wf_runtime_boundsError (x : runtime_boundsError) : Prop := (wfI .i64) x.x ∧ (wfI .i64) x.y ∧ wfT x.signed ∧ wfT x.code
theorem opens7 : Opens Tryd.prog 7 e_runtime_boundsError wf_runtime_boundsError := by
  intro H enc w fuel cs x hx
  obtain ⟨xs, m, _, _, hl, hn, hx⟩ := DataW.trod_struct Tryd.underlying7 hx
  rw [cellsOf_sz tk sz7 (by decide)] at hl
  obtain ⟨y0, w0, r0, o0⟩ := opens_f hx hn 0 (o := 0) (s := 1) rfl (opens_i64 Tryd.underlying2) rfl (cellsOf_sz tk sz2 (by decide))
  obtain ⟨y1, w1, r1, o1⟩ := opens_f hx hn 1 (o := 1) (s := 1) rfl (opens_i64 Tryd.underlying3) rfl (cellsOf_sz tk sz3 (by decide))
  obtain ⟨y2, w2, r2, o2⟩ := opens_f hx hn 2 (o := 2) (s := 1) rfl (opens_b Tryd.underlying4) rfl (cellsOf_sz tk sz4 (by decide))
  obtain ⟨y3, w3, r3, o3⟩ := opens_f hx hn 3 (o := 3) (s := 1) rfl (opens_u rfl rfl Tryd.underlying6) rfl (cellsOf_sz tk sz6 (by decide))
  refine ⟨⟨y0, y1, y2, y3⟩, ⟨w0, w1, w2, w3⟩, ?_, ?_⟩
  · have h := (rel_piece r0 (rel_piece r1 (rel_piece r2 (rel_piece r3 (rel_end hl)))))
    rw [List.drop_zero] at h
    first | exact h | (simp only [List.append_nil, List.append_assoc] at h ⊢; exact h) | (simpa [AV.cells, e_runtime_boundsError, c_runtime_boundsError] using h)
  · have h := (one_piece o0 (one_piece o1 (one_piece o2 (one_piece o3 (one_end hl)))))
    rw [List.drop_zero] at h
    exact h
theorem opens8 : Opens Tryd.prog 8 e_runtime_boundsError wf_runtime_boundsError := by
  intro H enc w fuel cs x hx
  obtain ⟨xs, m, _, _, hl, hn, hx⟩ := DataW.trod_struct Tryd.underlying8 hx
  rw [cellsOf_sz tk sz8 (by decide)] at hl
  obtain ⟨y0, w0, r0, o0⟩ := opens_f hx hn 0 (o := 0) (s := 1) rfl (opens_i64 Tryd.underlying2) rfl (cellsOf_sz tk sz2 (by decide))
  obtain ⟨y1, w1, r1, o1⟩ := opens_f hx hn 1 (o := 1) (s := 1) rfl (opens_i64 Tryd.underlying3) rfl (cellsOf_sz tk sz3 (by decide))
  obtain ⟨y2, w2, r2, o2⟩ := opens_f hx hn 2 (o := 2) (s := 1) rfl (opens_b Tryd.underlying4) rfl (cellsOf_sz tk sz4 (by decide))
  obtain ⟨y3, w3, r3, o3⟩ := opens_f hx hn 3 (o := 3) (s := 1) rfl (opens_u rfl rfl Tryd.underlying6) rfl (cellsOf_sz tk sz6 (by decide))
  refine ⟨⟨y0, y1, y2, y3⟩, ⟨w0, w1, w2, w3⟩, ?_, ?_⟩
  · have h := (rel_piece r0 (rel_piece r1 (rel_piece r2 (rel_piece r3 (rel_end hl)))))
    rw [List.drop_zero] at h
    first | exact h | (simp only [List.append_nil, List.append_assoc] at h ⊢; exact h) | (simpa [AV.cells, e_runtime_boundsError, c_runtime_boundsError] using h)
  · have h := (one_piece o0 (one_piece o1 (one_piece o2 (one_piece o3 (one_end hl)))))
    rw [List.drop_zero] at h
    exact h
def wf_runtime_errorAddressString (x : runtime_errorAddressString) : Prop := wfS x.msg ∧ wfT x.addr
theorem opens13 : Opens Tryd.prog 13 e_runtime_errorAddressString wf_runtime_errorAddressString := by
  intro H enc w fuel cs x hx
  obtain ⟨xs, m, _, _, hl, hn, hx⟩ := DataW.trod_struct Tryd.underlying13 hx
  rw [cellsOf_sz tk sz13 (by decide)] at hl
  obtain ⟨y0, w0, r0, o0⟩ := opens_f hx hn 0 (o := 0) (s := 1) rfl (opens_s Tryd.underlying9) rfl (cellsOf_sz tk sz9 (by decide))
  obtain ⟨y1, w1, r1, o1⟩ := opens_f hx hn 1 (o := 1) (s := 1) rfl (opens_u rfl rfl Tryd.underlying12) rfl (cellsOf_sz tk sz12 (by decide))
  refine ⟨⟨y0, y1⟩, ⟨w0, w1⟩, ?_, ?_⟩
  · have h := (rel_piece r0 (rel_piece r1 (rel_end hl)))
    rw [List.drop_zero] at h
    first | exact h | (simp only [List.append_nil, List.append_assoc] at h ⊢; exact h) | (simpa [AV.cells, e_runtime_errorAddressString, c_runtime_errorAddressString] using h)
  · have h := (one_piece o0 (one_piece o1 (one_end hl)))
    rw [List.drop_zero] at h
    exact h
theorem opens14 : Opens Tryd.prog 14 e_runtime_errorAddressString wf_runtime_errorAddressString := by
  intro H enc w fuel cs x hx
  obtain ⟨xs, m, _, _, hl, hn, hx⟩ := DataW.trod_struct Tryd.underlying14 hx
  rw [cellsOf_sz tk sz14 (by decide)] at hl
  obtain ⟨y0, w0, r0, o0⟩ := opens_f hx hn 0 (o := 0) (s := 1) rfl (opens_s Tryd.underlying9) rfl (cellsOf_sz tk sz9 (by decide))
  obtain ⟨y1, w1, r1, o1⟩ := opens_f hx hn 1 (o := 1) (s := 1) rfl (opens_u rfl rfl Tryd.underlying12) rfl (cellsOf_sz tk sz12 (by decide))
  refine ⟨⟨y0, y1⟩, ⟨w0, w1⟩, ?_, ?_⟩
  · have h := (rel_piece r0 (rel_piece r1 (rel_end hl)))
    rw [List.drop_zero] at h
    first | exact h | (simp only [List.append_nil, List.append_assoc] at h ⊢; exact h) | (simpa [AV.cells, e_runtime_errorAddressString, c_runtime_errorAddressString] using h)
  · have h := (one_piece o0 (one_piece o1 (one_end hl)))
    rw [List.drop_zero] at h
    exact h
def wf_api_Entry (x : api_Entry) : Prop := wfS x.Key ∧ (wfI .i64) x.Version ∧ (wfI .i64) x.AsOf ∧ (wfI .i64) x.Ends ∧ (wfL wfT) x.Value
theorem opens41 : Opens Tryd.prog 41 e_api_Entry wf_api_Entry := by
  intro H enc w fuel cs x hx
  obtain ⟨xs, m, _, _, hl, hn, hx⟩ := DataW.trod_struct Tryd.underlying41 hx
  rw [cellsOf_sz tk sz41 (by decide)] at hl
  obtain ⟨y0, w0, r0, o0⟩ := opens_f hx hn 0 (o := 0) (s := 1) rfl (opens_s Tryd.underlying9) rfl (cellsOf_sz tk sz9 (by decide))
  obtain ⟨y1, w1, r1, o1⟩ := opens_f hx hn 1 (o := 1) (s := 1) rfl (opens_i64 Tryd.underlying3) rfl (cellsOf_sz tk sz3 (by decide))
  obtain ⟨y2, w2, r2, o2⟩ := opens_f hx hn 2 (o := 2) (s := 1) rfl (opens_i64 Tryd.underlying3) rfl (cellsOf_sz tk sz3 (by decide))
  obtain ⟨y3, w3, r3, o3⟩ := opens_f hx hn 3 (o := 3) (s := 1) rfl (opens_i64 Tryd.underlying3) rfl (cellsOf_sz tk sz3 (by decide))
  obtain ⟨y4, w4, r4, o4⟩ := opens_f hx hn 4 (o := 4) (s := 1) rfl (opens_l tk Tryd.underlying40 (enc_u td5 sz5) (opens_u rfl rfl Tryd.underlying5)) rfl (cellsOf_sz tk sz40 (by decide))
  refine ⟨⟨y0, y1, y2, y3, y4⟩, ⟨w0, w1, w2, w3, w4⟩, ?_, ?_⟩
  · have h := (rel_piece r0 (rel_piece r1 (rel_piece r2 (rel_piece r3 (rel_piece r4 (rel_end hl))))))
    rw [List.drop_zero] at h
    first | exact h | (simp only [List.append_nil, List.append_assoc] at h ⊢; exact h) | (simpa [AV.cells, e_api_Entry, c_api_Entry] using h)
  · have h := (one_piece o0 (one_piece o1 (one_piece o2 (one_piece o3 (one_piece o4 (one_end hl))))))
    rw [List.drop_zero] at h
    exact h
theorem opens42 : Opens Tryd.prog 42 e_api_Entry wf_api_Entry := by
  intro H enc w fuel cs x hx
  obtain ⟨xs, m, _, _, hl, hn, hx⟩ := DataW.trod_struct Tryd.underlying42 hx
  rw [cellsOf_sz tk sz42 (by decide)] at hl
  obtain ⟨y0, w0, r0, o0⟩ := opens_f hx hn 0 (o := 0) (s := 1) rfl (opens_s Tryd.underlying9) rfl (cellsOf_sz tk sz9 (by decide))
  obtain ⟨y1, w1, r1, o1⟩ := opens_f hx hn 1 (o := 1) (s := 1) rfl (opens_i64 Tryd.underlying3) rfl (cellsOf_sz tk sz3 (by decide))
  obtain ⟨y2, w2, r2, o2⟩ := opens_f hx hn 2 (o := 2) (s := 1) rfl (opens_i64 Tryd.underlying3) rfl (cellsOf_sz tk sz3 (by decide))
  obtain ⟨y3, w3, r3, o3⟩ := opens_f hx hn 3 (o := 3) (s := 1) rfl (opens_i64 Tryd.underlying3) rfl (cellsOf_sz tk sz3 (by decide))
  obtain ⟨y4, w4, r4, o4⟩ := opens_f hx hn 4 (o := 4) (s := 1) rfl (opens_l tk Tryd.underlying40 (enc_u td5 sz5) (opens_u rfl rfl Tryd.underlying5)) rfl (cellsOf_sz tk sz40 (by decide))
  refine ⟨⟨y0, y1, y2, y3, y4⟩, ⟨w0, w1, w2, w3, w4⟩, ?_, ?_⟩
  · have h := (rel_piece r0 (rel_piece r1 (rel_piece r2 (rel_piece r3 (rel_piece r4 (rel_end hl))))))
    rw [List.drop_zero] at h
    first | exact h | (simp only [List.append_nil, List.append_assoc] at h ⊢; exact h) | (simpa [AV.cells, e_api_Entry, c_api_Entry] using h)
  · have h := (one_piece o0 (one_piece o1 (one_piece o2 (one_piece o3 (one_piece o4 (one_end hl))))))
    rw [List.drop_zero] at h
    exact h
def wf_butteryref19_Jobs (x : butteryref19_Jobs) : Prop := (wfI .i64) x.Limit ∧ (wfL wf_api_Entry) x.Down ∧ (wfL wfS) x.Up
theorem opens32 : Opens Tryd.prog 32 e_butteryref19_Jobs wf_butteryref19_Jobs := by
  intro H enc w fuel cs x hx
  obtain ⟨xs, m, _, _, hl, hn, hx⟩ := DataW.trod_struct Tryd.underlying32 hx
  rw [cellsOf_sz tk sz32 (by decide)] at hl
  obtain ⟨y0, w0, r0, o0⟩ := opens_f hx hn 0 (o := 0) (s := 1) rfl (opens_i64 Tryd.underlying3) rfl (cellsOf_sz tk sz3 (by decide))
  obtain ⟨y1, w1, r1, o1⟩ := opens_f hx hn 1 (o := 1) (s := 1) rfl (opens_l tk Tryd.underlying30 enc42 opens42) rfl (cellsOf_sz tk sz30 (by decide))
  obtain ⟨y2, w2, r2, o2⟩ := opens_f hx hn 2 (o := 2) (s := 1) rfl (opens_l tk Tryd.underlying31 (enc_s td9 sz9) (opens_s Tryd.underlying9)) rfl (cellsOf_sz tk sz31 (by decide))
  refine ⟨⟨y0, y1, y2⟩, ⟨w0, w1, w2⟩, ?_, ?_⟩
  · have h := (rel_piece r0 (rel_piece r1 (rel_piece r2 (rel_end hl))))
    rw [List.drop_zero] at h
    first | exact h | (simp only [List.append_nil, List.append_assoc] at h ⊢; exact h) | (simpa [AV.cells, e_butteryref19_Jobs, c_butteryref19_Jobs] using h)
  · have h := (one_piece o0 (one_piece o1 (one_piece o2 (one_end hl))))
    rw [List.drop_zero] at h
    exact h
theorem opens33 : Opens Tryd.prog 33 e_butteryref19_Jobs wf_butteryref19_Jobs := by
  intro H enc w fuel cs x hx
  obtain ⟨xs, m, _, _, hl, hn, hx⟩ := DataW.trod_struct Tryd.underlying33 hx
  rw [cellsOf_sz tk sz33 (by decide)] at hl
  obtain ⟨y0, w0, r0, o0⟩ := opens_f hx hn 0 (o := 0) (s := 1) rfl (opens_i64 Tryd.underlying3) rfl (cellsOf_sz tk sz3 (by decide))
  obtain ⟨y1, w1, r1, o1⟩ := opens_f hx hn 1 (o := 1) (s := 1) rfl (opens_l tk Tryd.underlying30 enc42 opens42) rfl (cellsOf_sz tk sz30 (by decide))
  obtain ⟨y2, w2, r2, o2⟩ := opens_f hx hn 2 (o := 2) (s := 1) rfl (opens_l tk Tryd.underlying31 (enc_s td9 sz9) (opens_s Tryd.underlying9)) rfl (cellsOf_sz tk sz31 (by decide))
  refine ⟨⟨y0, y1, y2⟩, ⟨w0, w1, w2⟩, ?_, ?_⟩
  · have h := (rel_piece r0 (rel_piece r1 (rel_piece r2 (rel_end hl))))
    rw [List.drop_zero] at h
    first | exact h | (simp only [List.append_nil, List.append_assoc] at h ⊢; exact h) | (simpa [AV.cells, e_butteryref19_Jobs, c_butteryref19_Jobs] using h)
  · have h := (one_piece o0 (one_piece o1 (one_piece o2 (one_end hl))))
    rw [List.drop_zero] at h
    exact h
def wf_butterylaw19_Op (x : butterylaw19_Op) : Prop := (wfI .i64) x.Kind ∧ wf_api_Entry x.X
theorem opens43 : Opens Tryd.prog 43 e_butterylaw19_Op wf_butterylaw19_Op := by
  intro H enc w fuel cs x hx
  obtain ⟨xs, m, _, _, hl, hn, hx⟩ := DataW.trod_struct Tryd.underlying43 hx
  rw [cellsOf_sz tk sz43 (by decide)] at hl
  obtain ⟨y0, w0, r0, o0⟩ := opens_f hx hn 0 (o := 0) (s := 1) rfl (opens_i64 Tryd.underlying3) rfl (cellsOf_sz tk sz3 (by decide))
  obtain ⟨y1, w1, r1, o1⟩ := opens_f hx hn 1 (o := 1) (s := 5) rfl opens42 rfl (cellsOf_sz tk sz42 (by decide))
  refine ⟨⟨y0, y1⟩, ⟨w0, w1⟩, ?_, ?_⟩
  · have h := (rel_piece r0 (rel_piece r1 (rel_end hl)))
    rw [List.drop_zero] at h
    first | exact h | (simp only [List.append_nil, List.append_assoc] at h ⊢; exact h) | (simpa [AV.cells, e_butterylaw19_Op, c_butterylaw19_Op] using h)
  · have h := (one_piece o0 (one_piece o1 (one_end hl)))
    rw [List.drop_zero] at h
    exact h
theorem opens44 : Opens Tryd.prog 44 e_butterylaw19_Op wf_butterylaw19_Op := by
  intro H enc w fuel cs x hx
  obtain ⟨xs, m, _, _, hl, hn, hx⟩ := DataW.trod_struct Tryd.underlying44 hx
  rw [cellsOf_sz tk sz44 (by decide)] at hl
  obtain ⟨y0, w0, r0, o0⟩ := opens_f hx hn 0 (o := 0) (s := 1) rfl (opens_i64 Tryd.underlying3) rfl (cellsOf_sz tk sz3 (by decide))
  obtain ⟨y1, w1, r1, o1⟩ := opens_f hx hn 1 (o := 1) (s := 5) rfl opens42 rfl (cellsOf_sz tk sz42 (by decide))
  refine ⟨⟨y0, y1⟩, ⟨w0, w1⟩, ?_, ?_⟩
  · have h := (rel_piece r0 (rel_piece r1 (rel_end hl)))
    rw [List.drop_zero] at h
    first | exact h | (simp only [List.append_nil, List.append_assoc] at h ⊢; exact h) | (simpa [AV.cells, e_butterylaw19_Op, c_butterylaw19_Op] using h)
  · have h := (one_piece o0 (one_piece o1 (one_end hl)))
    rw [List.drop_zero] at h
    exact h
def wf_butteryref09_Lists (x : butteryref09_Lists) : Prop := (wfL (wfL (wfI .i64))) x.L ∧ (wfL (wfI .i64)) x.Free ∧ (wfL (wfI .i64)) x.Used ∧ (wfI .i64) x.Nodes
theorem opens63 : Opens Tryd.prog 63 e_butteryref09_Lists wf_butteryref09_Lists := by
  intro H enc w fuel cs x hx
  obtain ⟨xs, m, _, _, hl, hn, hx⟩ := DataW.trod_struct Tryd.underlying63 hx
  rw [cellsOf_sz tk sz63 (by decide)] at hl
  obtain ⟨y0, w0, r0, o0⟩ := opens_f hx hn 0 (o := 0) (s := 1) rfl (opens_l tk Tryd.underlying61 (enc_l td62 sz62 (enc_i64 td3 sz3).cut) (opens_l tk Tryd.underlying62 (enc_i64 td3 sz3) (opens_i64 Tryd.underlying3))) rfl (cellsOf_sz tk sz61 (by decide))
  obtain ⟨y1, w1, r1, o1⟩ := opens_f hx hn 1 (o := 1) (s := 1) rfl (opens_l tk Tryd.underlying62 (enc_i64 td3 sz3) (opens_i64 Tryd.underlying3)) rfl (cellsOf_sz tk sz62 (by decide))
  obtain ⟨y2, w2, r2, o2⟩ := opens_f hx hn 2 (o := 2) (s := 1) rfl (opens_l tk Tryd.underlying62 (enc_i64 td3 sz3) (opens_i64 Tryd.underlying3)) rfl (cellsOf_sz tk sz62 (by decide))
  obtain ⟨y3, w3, r3, o3⟩ := opens_f hx hn 3 (o := 3) (s := 1) rfl (opens_i64 Tryd.underlying3) rfl (cellsOf_sz tk sz3 (by decide))
  refine ⟨⟨y0, y1, y2, y3⟩, ⟨w0, w1, w2, w3⟩, ?_, ?_⟩
  · have h := (rel_piece r0 (rel_piece r1 (rel_piece r2 (rel_piece r3 (rel_end hl)))))
    rw [List.drop_zero] at h
    first | exact h | (simp only [List.append_nil, List.append_assoc] at h ⊢; exact h) | (simpa [AV.cells, e_butteryref09_Lists, c_butteryref09_Lists] using h)
  · have h := (one_piece o0 (one_piece o1 (one_piece o2 (one_piece o3 (one_end hl)))))
    rw [List.drop_zero] at h
    exact h
theorem opens64 : Opens Tryd.prog 64 e_butteryref09_Lists wf_butteryref09_Lists := by
  intro H enc w fuel cs x hx
  obtain ⟨xs, m, _, _, hl, hn, hx⟩ := DataW.trod_struct Tryd.underlying64 hx
  rw [cellsOf_sz tk sz64 (by decide)] at hl
  obtain ⟨y0, w0, r0, o0⟩ := opens_f hx hn 0 (o := 0) (s := 1) rfl (opens_l tk Tryd.underlying61 (enc_l td62 sz62 (enc_i64 td3 sz3).cut) (opens_l tk Tryd.underlying62 (enc_i64 td3 sz3) (opens_i64 Tryd.underlying3))) rfl (cellsOf_sz tk sz61 (by decide))
  obtain ⟨y1, w1, r1, o1⟩ := opens_f hx hn 1 (o := 1) (s := 1) rfl (opens_l tk Tryd.underlying62 (enc_i64 td3 sz3) (opens_i64 Tryd.underlying3)) rfl (cellsOf_sz tk sz62 (by decide))
  obtain ⟨y2, w2, r2, o2⟩ := opens_f hx hn 2 (o := 2) (s := 1) rfl (opens_l tk Tryd.underlying62 (enc_i64 td3 sz3) (opens_i64 Tryd.underlying3)) rfl (cellsOf_sz tk sz62 (by decide))
  obtain ⟨y3, w3, r3, o3⟩ := opens_f hx hn 3 (o := 3) (s := 1) rfl (opens_i64 Tryd.underlying3) rfl (cellsOf_sz tk sz3 (by decide))
  refine ⟨⟨y0, y1, y2, y3⟩, ⟨w0, w1, w2, w3⟩, ?_, ?_⟩
  · have h := (rel_piece r0 (rel_piece r1 (rel_piece r2 (rel_piece r3 (rel_end hl)))))
    rw [List.drop_zero] at h
    first | exact h | (simp only [List.append_nil, List.append_assoc] at h ⊢; exact h) | (simpa [AV.cells, e_butteryref09_Lists, c_butteryref09_Lists] using h)
  · have h := (one_piece o0 (one_piece o1 (one_piece o2 (one_piece o3 (one_end hl)))))
    rw [List.drop_zero] at h
    exact h
def wf_butterylaw09_Op (x : butterylaw09_Op) : Prop := (wfI .i64) x.Kind ∧ (wfI .i64) x.At
theorem opens69 : Opens Tryd.prog 69 e_butterylaw09_Op wf_butterylaw09_Op := by
  intro H enc w fuel cs x hx
  obtain ⟨xs, m, _, _, hl, hn, hx⟩ := DataW.trod_struct Tryd.underlying69 hx
  rw [cellsOf_sz tk sz69 (by decide)] at hl
  obtain ⟨y0, w0, r0, o0⟩ := opens_f hx hn 0 (o := 0) (s := 1) rfl (opens_i64 Tryd.underlying3) rfl (cellsOf_sz tk sz3 (by decide))
  obtain ⟨y1, w1, r1, o1⟩ := opens_f hx hn 1 (o := 1) (s := 1) rfl (opens_i64 Tryd.underlying3) rfl (cellsOf_sz tk sz3 (by decide))
  refine ⟨⟨y0, y1⟩, ⟨w0, w1⟩, ?_, ?_⟩
  · have h := (rel_piece r0 (rel_piece r1 (rel_end hl)))
    rw [List.drop_zero] at h
    first | exact h | (simp only [List.append_nil, List.append_assoc] at h ⊢; exact h) | (simpa [AV.cells, e_butterylaw09_Op, c_butterylaw09_Op] using h)
  · have h := (one_piece o0 (one_piece o1 (one_end hl)))
    rw [List.drop_zero] at h
    exact h
theorem opens70 : Opens Tryd.prog 70 e_butterylaw09_Op wf_butterylaw09_Op := by
  intro H enc w fuel cs x hx
  obtain ⟨xs, m, _, _, hl, hn, hx⟩ := DataW.trod_struct Tryd.underlying70 hx
  rw [cellsOf_sz tk sz70 (by decide)] at hl
  obtain ⟨y0, w0, r0, o0⟩ := opens_f hx hn 0 (o := 0) (s := 1) rfl (opens_i64 Tryd.underlying3) rfl (cellsOf_sz tk sz3 (by decide))
  obtain ⟨y1, w1, r1, o1⟩ := opens_f hx hn 1 (o := 1) (s := 1) rfl (opens_i64 Tryd.underlying3) rfl (cellsOf_sz tk sz3 (by decide))
  refine ⟨⟨y0, y1⟩, ⟨w0, w1⟩, ?_, ?_⟩
  · have h := (rel_piece r0 (rel_piece r1 (rel_end hl)))
    rw [List.drop_zero] at h
    first | exact h | (simp only [List.append_nil, List.append_assoc] at h ⊢; exact h) | (simpa [AV.cells, e_butterylaw09_Op, c_butterylaw09_Op] using h)
  · have h := (one_piece o0 (one_piece o1 (one_end hl)))
    rw [List.drop_zero] at h
    exact h
def wf_lists_link (x : lists_link) : Prop := (wfI .i64) x.ahead ∧ (wfI .i64) x.behind ∧ (wfI .i64) x.list ∧ (wfI .i64) x.used
theorem opens115 : Opens Tryd.prog 115 e_lists_link wf_lists_link := by
  intro H enc w fuel cs x hx
  obtain ⟨xs, m, _, _, hl, hn, hx⟩ := DataW.trod_struct Tryd.underlying115 hx
  rw [cellsOf_sz tk sz115 (by decide)] at hl
  obtain ⟨y0, w0, r0, o0⟩ := opens_f hx hn 0 (o := 0) (s := 1) rfl (opens_i64 Tryd.underlying3) rfl (cellsOf_sz tk sz3 (by decide))
  obtain ⟨y1, w1, r1, o1⟩ := opens_f hx hn 1 (o := 1) (s := 1) rfl (opens_i64 Tryd.underlying3) rfl (cellsOf_sz tk sz3 (by decide))
  obtain ⟨y2, w2, r2, o2⟩ := opens_f hx hn 2 (o := 2) (s := 1) rfl (opens_i64 Tryd.underlying3) rfl (cellsOf_sz tk sz3 (by decide))
  obtain ⟨y3, w3, r3, o3⟩ := opens_f hx hn 3 (o := 3) (s := 1) rfl (opens_i64 Tryd.underlying3) rfl (cellsOf_sz tk sz3 (by decide))
  refine ⟨⟨y0, y1, y2, y3⟩, ⟨w0, w1, w2, w3⟩, ?_, ?_⟩
  · have h := (rel_piece r0 (rel_piece r1 (rel_piece r2 (rel_piece r3 (rel_end hl)))))
    rw [List.drop_zero] at h
    first | exact h | (simp only [List.append_nil, List.append_assoc] at h ⊢; exact h) | (simpa [AV.cells, e_lists_link, c_lists_link] using h)
  · have h := (one_piece o0 (one_piece o1 (one_piece o2 (one_piece o3 (one_end hl)))))
    rw [List.drop_zero] at h
    exact h
theorem opens116 : Opens Tryd.prog 116 e_lists_link wf_lists_link := by
  intro H enc w fuel cs x hx
  obtain ⟨xs, m, _, _, hl, hn, hx⟩ := DataW.trod_struct Tryd.underlying116 hx
  rw [cellsOf_sz tk sz116 (by decide)] at hl
  obtain ⟨y0, w0, r0, o0⟩ := opens_f hx hn 0 (o := 0) (s := 1) rfl (opens_i64 Tryd.underlying3) rfl (cellsOf_sz tk sz3 (by decide))
  obtain ⟨y1, w1, r1, o1⟩ := opens_f hx hn 1 (o := 1) (s := 1) rfl (opens_i64 Tryd.underlying3) rfl (cellsOf_sz tk sz3 (by decide))
  obtain ⟨y2, w2, r2, o2⟩ := opens_f hx hn 2 (o := 2) (s := 1) rfl (opens_i64 Tryd.underlying3) rfl (cellsOf_sz tk sz3 (by decide))
  obtain ⟨y3, w3, r3, o3⟩ := opens_f hx hn 3 (o := 3) (s := 1) rfl (opens_i64 Tryd.underlying3) rfl (cellsOf_sz tk sz3 (by decide))
  refine ⟨⟨y0, y1, y2, y3⟩, ⟨w0, w1, w2, w3⟩, ?_, ?_⟩
  · have h := (rel_piece r0 (rel_piece r1 (rel_piece r2 (rel_piece r3 (rel_end hl)))))
    rw [List.drop_zero] at h
    first | exact h | (simp only [List.append_nil, List.append_assoc] at h ⊢; exact h) | (simpa [AV.cells, e_lists_link, c_lists_link] using h)
  · have h := (one_piece o0 (one_piece o1 (one_piece o2 (one_piece o3 (one_end hl)))))
    rw [List.drop_zero] at h
    exact h
def wf_lists_Lists (x : lists_Lists) : Prop := (wfL wf_lists_link) x.nodes ∧ (wfL (wfI .i64)) x.first_ ∧ (wfL (wfI .i64)) x.last_ ∧ (wfL (wfI .i64)) x.count ∧ (wfI .i64) x.free ∧ (wfI .i64) x.clock
theorem opens113 : Opens Tryd.prog 113 e_lists_Lists wf_lists_Lists := by
  intro H enc w fuel cs x hx
  obtain ⟨xs, m, _, _, hl, hn, hx⟩ := DataW.trod_struct Tryd.underlying113 hx
  rw [cellsOf_sz tk sz113 (by decide)] at hl
  obtain ⟨y0, w0, r0, o0⟩ := opens_f hx hn 0 (o := 0) (s := 1) rfl (opens_l tk Tryd.underlying112 enc116 opens116) rfl (cellsOf_sz tk sz112 (by decide))
  obtain ⟨y1, w1, r1, o1⟩ := opens_f hx hn 1 (o := 1) (s := 1) rfl (opens_l tk Tryd.underlying62 (enc_i64 td3 sz3) (opens_i64 Tryd.underlying3)) rfl (cellsOf_sz tk sz62 (by decide))
  obtain ⟨y2, w2, r2, o2⟩ := opens_f hx hn 2 (o := 2) (s := 1) rfl (opens_l tk Tryd.underlying62 (enc_i64 td3 sz3) (opens_i64 Tryd.underlying3)) rfl (cellsOf_sz tk sz62 (by decide))
  obtain ⟨y3, w3, r3, o3⟩ := opens_f hx hn 3 (o := 3) (s := 1) rfl (opens_l tk Tryd.underlying62 (enc_i64 td3 sz3) (opens_i64 Tryd.underlying3)) rfl (cellsOf_sz tk sz62 (by decide))
  obtain ⟨y4, w4, r4, o4⟩ := opens_f hx hn 4 (o := 4) (s := 1) rfl (opens_i64 Tryd.underlying3) rfl (cellsOf_sz tk sz3 (by decide))
  obtain ⟨y5, w5, r5, o5⟩ := opens_f hx hn 5 (o := 5) (s := 1) rfl (opens_i64 Tryd.underlying3) rfl (cellsOf_sz tk sz3 (by decide))
  refine ⟨⟨y0, y1, y2, y3, y4, y5⟩, ⟨w0, w1, w2, w3, w4, w5⟩, ?_, ?_⟩
  · have h := (rel_piece r0 (rel_piece r1 (rel_piece r2 (rel_piece r3 (rel_piece r4 (rel_piece r5 (rel_end hl)))))))
    rw [List.drop_zero] at h
    first | exact h | (simp only [List.append_nil, List.append_assoc] at h ⊢; exact h) | (simpa [AV.cells, e_lists_Lists, c_lists_Lists] using h)
  · have h := (one_piece o0 (one_piece o1 (one_piece o2 (one_piece o3 (one_piece o4 (one_piece o5 (one_end hl)))))))
    rw [List.drop_zero] at h
    exact h
theorem opens114 : Opens Tryd.prog 114 e_lists_Lists wf_lists_Lists := by
  intro H enc w fuel cs x hx
  obtain ⟨xs, m, _, _, hl, hn, hx⟩ := DataW.trod_struct Tryd.underlying114 hx
  rw [cellsOf_sz tk sz114 (by decide)] at hl
  obtain ⟨y0, w0, r0, o0⟩ := opens_f hx hn 0 (o := 0) (s := 1) rfl (opens_l tk Tryd.underlying112 enc116 opens116) rfl (cellsOf_sz tk sz112 (by decide))
  obtain ⟨y1, w1, r1, o1⟩ := opens_f hx hn 1 (o := 1) (s := 1) rfl (opens_l tk Tryd.underlying62 (enc_i64 td3 sz3) (opens_i64 Tryd.underlying3)) rfl (cellsOf_sz tk sz62 (by decide))
  obtain ⟨y2, w2, r2, o2⟩ := opens_f hx hn 2 (o := 2) (s := 1) rfl (opens_l tk Tryd.underlying62 (enc_i64 td3 sz3) (opens_i64 Tryd.underlying3)) rfl (cellsOf_sz tk sz62 (by decide))
  obtain ⟨y3, w3, r3, o3⟩ := opens_f hx hn 3 (o := 3) (s := 1) rfl (opens_l tk Tryd.underlying62 (enc_i64 td3 sz3) (opens_i64 Tryd.underlying3)) rfl (cellsOf_sz tk sz62 (by decide))
  obtain ⟨y4, w4, r4, o4⟩ := opens_f hx hn 4 (o := 4) (s := 1) rfl (opens_i64 Tryd.underlying3) rfl (cellsOf_sz tk sz3 (by decide))
  obtain ⟨y5, w5, r5, o5⟩ := opens_f hx hn 5 (o := 5) (s := 1) rfl (opens_i64 Tryd.underlying3) rfl (cellsOf_sz tk sz3 (by decide))
  refine ⟨⟨y0, y1, y2, y3, y4, y5⟩, ⟨w0, w1, w2, w3, w4, w5⟩, ?_, ?_⟩
  · have h := (rel_piece r0 (rel_piece r1 (rel_piece r2 (rel_piece r3 (rel_piece r4 (rel_piece r5 (rel_end hl)))))))
    rw [List.drop_zero] at h
    first | exact h | (simp only [List.append_nil, List.append_assoc] at h ⊢; exact h) | (simpa [AV.cells, e_lists_Lists, c_lists_Lists] using h)
  · have h := (one_piece o0 (one_piece o1 (one_piece o2 (one_piece o3 (one_piece o4 (one_piece o5 (one_end hl)))))))
    rw [List.drop_zero] at h
    exact h
def wf_reflectlite_ValueError (x : reflectlite_ValueError) : Prop := wfS x.Method ∧ wfT x.Kind
theorem opens183 : Opens Tryd.prog 183 e_reflectlite_ValueError wf_reflectlite_ValueError := by
  intro H enc w fuel cs x hx
  obtain ⟨xs, m, _, _, hl, hn, hx⟩ := DataW.trod_struct Tryd.underlying183 hx
  rw [cellsOf_sz tk sz183 (by decide)] at hl
  obtain ⟨y0, w0, r0, o0⟩ := opens_f hx hn 0 (o := 0) (s := 1) rfl (opens_s Tryd.underlying9) rfl (cellsOf_sz tk sz9 (by decide))
  obtain ⟨y1, w1, r1, o1⟩ := opens_f hx hn 1 (o := 1) (s := 1) rfl (opens_u rfl rfl Tryd.underlying134) rfl (cellsOf_sz tk sz134 (by decide))
  refine ⟨⟨y0, y1⟩, ⟨w0, w1⟩, ?_, ?_⟩
  · have h := (rel_piece r0 (rel_piece r1 (rel_end hl)))
    rw [List.drop_zero] at h
    first | exact h | (simp only [List.append_nil, List.append_assoc] at h ⊢; exact h) | (simpa [AV.cells, e_reflectlite_ValueError, c_reflectlite_ValueError] using h)
  · have h := (one_piece o0 (one_piece o1 (one_end hl)))
    rw [List.drop_zero] at h
    exact h
theorem opens184 : Opens Tryd.prog 184 e_reflectlite_ValueError wf_reflectlite_ValueError := by
  intro H enc w fuel cs x hx
  obtain ⟨xs, m, _, _, hl, hn, hx⟩ := DataW.trod_struct Tryd.underlying184 hx
  rw [cellsOf_sz tk sz184 (by decide)] at hl
  obtain ⟨y0, w0, r0, o0⟩ := opens_f hx hn 0 (o := 0) (s := 1) rfl (opens_s Tryd.underlying9) rfl (cellsOf_sz tk sz9 (by decide))
  obtain ⟨y1, w1, r1, o1⟩ := opens_f hx hn 1 (o := 1) (s := 1) rfl (opens_u rfl rfl Tryd.underlying134) rfl (cellsOf_sz tk sz134 (by decide))
  refine ⟨⟨y0, y1⟩, ⟨w0, w1⟩, ?_, ?_⟩
  · have h := (rel_piece r0 (rel_piece r1 (rel_end hl)))
    rw [List.drop_zero] at h
    first | exact h | (simp only [List.append_nil, List.append_assoc] at h ⊢; exact h) | (simpa [AV.cells, e_reflectlite_ValueError, c_reflectlite_ValueError] using h)
  · have h := (one_piece o0 (one_piece o1 (one_end hl)))
    rw [List.drop_zero] at h
    exact h
def wf_abi_Method (x : abi_Method) : Prop := (wfI .i32) x.Name ∧ (wfI .i32) x.Mtyp ∧ (wfI .i32) x.Ifn ∧ (wfI .i32) x.Tfn
theorem opens192 : Opens Tryd.prog 192 e_abi_Method wf_abi_Method := by
  intro H enc w fuel cs x hx
  obtain ⟨xs, m, _, _, hl, hn, hx⟩ := DataW.trod_struct Tryd.underlying192 hx
  rw [cellsOf_sz tk sz192 (by decide)] at hl
  obtain ⟨y0, w0, r0, o0⟩ := opens_f hx hn 0 (o := 0) (s := 1) rfl (opens_i Tryd.underlying176) rfl (cellsOf_sz tk sz176 (by decide))
  obtain ⟨y1, w1, r1, o1⟩ := opens_f hx hn 1 (o := 1) (s := 1) rfl (opens_i Tryd.underlying177) rfl (cellsOf_sz tk sz177 (by decide))
  obtain ⟨y2, w2, r2, o2⟩ := opens_f hx hn 2 (o := 2) (s := 1) rfl (opens_i Tryd.underlying191) rfl (cellsOf_sz tk sz191 (by decide))
  obtain ⟨y3, w3, r3, o3⟩ := opens_f hx hn 3 (o := 3) (s := 1) rfl (opens_i Tryd.underlying191) rfl (cellsOf_sz tk sz191 (by decide))
  refine ⟨⟨y0, y1, y2, y3⟩, ⟨w0, w1, w2, w3⟩, ?_, ?_⟩
  · have h := (rel_piece r0 (rel_piece r1 (rel_piece r2 (rel_piece r3 (rel_end hl)))))
    rw [List.drop_zero] at h
    first | exact h | (simp only [List.append_nil, List.append_assoc] at h ⊢; exact h) | (simpa [AV.cells, e_abi_Method, c_abi_Method] using h)
  · have h := (one_piece o0 (one_piece o1 (one_piece o2 (one_piece o3 (one_end hl)))))
    rw [List.drop_zero] at h
    exact h
theorem opens193 : Opens Tryd.prog 193 e_abi_Method wf_abi_Method := by
  intro H enc w fuel cs x hx
  obtain ⟨xs, m, _, _, hl, hn, hx⟩ := DataW.trod_struct Tryd.underlying193 hx
  rw [cellsOf_sz tk sz193 (by decide)] at hl
  obtain ⟨y0, w0, r0, o0⟩ := opens_f hx hn 0 (o := 0) (s := 1) rfl (opens_i Tryd.underlying176) rfl (cellsOf_sz tk sz176 (by decide))
  obtain ⟨y1, w1, r1, o1⟩ := opens_f hx hn 1 (o := 1) (s := 1) rfl (opens_i Tryd.underlying177) rfl (cellsOf_sz tk sz177 (by decide))
  obtain ⟨y2, w2, r2, o2⟩ := opens_f hx hn 2 (o := 2) (s := 1) rfl (opens_i Tryd.underlying191) rfl (cellsOf_sz tk sz191 (by decide))
  obtain ⟨y3, w3, r3, o3⟩ := opens_f hx hn 3 (o := 3) (s := 1) rfl (opens_i Tryd.underlying191) rfl (cellsOf_sz tk sz191 (by decide))
  refine ⟨⟨y0, y1, y2, y3⟩, ⟨w0, w1, w2, w3⟩, ?_, ?_⟩
  · have h := (rel_piece r0 (rel_piece r1 (rel_piece r2 (rel_piece r3 (rel_end hl)))))
    rw [List.drop_zero] at h
    first | exact h | (simp only [List.append_nil, List.append_assoc] at h ⊢; exact h) | (simpa [AV.cells, e_abi_Method, c_abi_Method] using h)
  · have h := (one_piece o0 (one_piece o1 (one_piece o2 (one_piece o3 (one_end hl)))))
    rw [List.drop_zero] at h
    exact h
end Go.Proofs.YtobbifgmjkgkfaaDoor
namespace Go.Proofs.YtobbifgmjkgkfaaDoor
open Go Go.Va
set_option linter.unusedVariables false
set_option linter.unusedSimpArgs false
theorem ListsSound_pure (n m : BitVec 8) (l : List butterylaw09_Op) (_ : wfT n) (_ : wfT m) (_ : wfL wf_butterylaw09_Op l) : butterylaw09_ListsSound n m l = some true := by
  unfold butterylaw09_ListsSound
  simp only [lt_eq]
  by_cases h0 : (l.length : Int) > 80
  · rw [if_pos (decide_eq_true h0), works09]
    rfl
  rw [if_neg (by simpa using h0)]
  have en : w64 (1 + Int.tmod (n.toNat : Int) 5) = ((1 + n.toNat % 5 : Nat) : Int) := by
    rw [Int.tmod_eq_emod_of_nonneg (by omega), w64_eq (by omega) (by omega)]; omega
  have em : w64 (1 + Int.tmod (m.toNat : Int) 30) = ((1 + m.toNat % 30 : Nat) : Int) := by
    rw [Int.tmod_eq_emod_of_nonneg (by omega), w64_eq (by omega) (by omega)]; omega
  obtain ⟨x, r, e1, e2, G, _, _⟩ := new_ok (n := 1 + n.toNat % 5) (N := 1 + m.toNat % 30) (by omega) (by omega) (by omega) (by omega)
  rw [en, em, e1, Option.bind_some]
  simp only [Option.elim_some]
  rw [if_neg (by decide), Option.bind_some, if_neg (by decide)]
  unfold butterylaw09_ListsSound_l0
  have key := loopO_inv (body := fun s => butterylaw09_ListsSound_b0 l s.1 s.2.1 s.2.2.1 s.2.2.2.1 s.2.2.2.2.1 s.2.2.2.2.2) (fun s => ∃ (j : Nat) (x : lists_Lists) (r : butteryref09_Lists) (g : Int → lists_link), s = ((j : Int), x, x.nodes, x.first_, x.last_, x.count) ∧ j ≤ l.length ∧ Good x r g (j : Int)) (fun s => (l.length - s.1).toNat) (fun y => ∃ z, y = .inl z) (s := ((0 : Int), x, x.nodes, x.first_, x.last_, x.count)) ?_ ⟨0, x, r, _, rfl, Nat.zero_le _, G⟩
  · obtain ⟨y, h2, z, rfl⟩ := key
    rw [h2, Option.bind_some, Sum.elim_inl, works09]
    rfl
  · rintro s ⟨j, x, r', g, rfl, hj, G⟩
    unfold butterylaw09_ListsSound_b0
    simp only [lt_eq]
    by_cases hjl : j < l.length
    · left
      rw [if_pos (decide_eq_true (by omega)), ix_nat hjl, Option.bind_some]
      have step : ∃ (x' : lists_Lists) (r2 : butteryref09_Lists) (g' : Int → lists_link), Good x' r2 g' ((j : Int) + 1) ∧ (if (l[j].Kind == 0) = true then (some l[j]).bind fun v73 => (lists_Lists_Add x v73.At).bind fun v75 => some (v75.2.2, v75.2.2.nodes, v75.2.2.first_, v75.2.2.last_, v75.2.2.count)
          else if (l[j].Kind == 1) = true then (some l[j]).bind fun v80 => (lists_Lists_Drop x v80.At).bind fun v82 => some (v82.2, v82.2.nodes, v82.2.first_, v82.2.last_, v82.2.count)
          else if (l[j].Kind == 2) = true then (some l[j]).bind fun v87 => (lists_Lists_Touch x v87.At).bind fun v89 => some (v89.2, v89.2.nodes, v89.2.first_, v89.2.last_, v89.2.count)
          else some (x, x.nodes, x.first_, x.last_, x.count)) = some (x', x'.nodes, x'.first_, x'.last_, x'.count) := by
        simp only [Option.bind_some]
        by_cases k0 : l[j].Kind = 0
        · obtain ⟨x', r', n, e, c, h1, h2, h3, h4, h5, ⟨g', h6⟩, _⟩ := add_step G (by omega) l[j].At
          rw [if_pos (by simp [k0]), h1]
          exact ⟨x', r', g', h6, rfl⟩
        rw [if_neg (by simp [k0])]
        by_cases k1 : l[j].Kind = 1
        · obtain ⟨x', r', e, c, h1, h2, h3, h4, h5, ⟨g', h6⟩, _⟩ := drop_step G (by omega) l[j].At
          rw [if_pos (by simp [k1]), h1]
          exact ⟨x', r', g', h6, rfl⟩
        rw [if_neg (by simp [k1])]
        by_cases k2 : l[j].Kind = 2
        · obtain ⟨x', r', e, c, h1, h2, h3, h4, h5, ⟨g', h6⟩, _⟩ := touch_step G (by omega) l[j].At
          rw [if_pos (by simp [k2]), h1]
          exact ⟨x', r', g', h6, rfl⟩
        rw [if_neg (by simp [k2])]
        exact ⟨x, r', g, G.more (by omega), rfl⟩
      obtain ⟨x', r2, g', q1, q2⟩ := step
      refine ⟨((j + 1 : Nat), x', x'.nodes, x'.first_, x'.last_, x'.count), ?_, ⟨j + 1, x', r2, g', rfl, hjl, q1⟩, by simp only; omega⟩
      refine (congrArg (fun o => Option.bind o _) q2).trans ?_
      rw [Option.bind_some]
      simp only []
      rw [sound_eq q1, Option.bind_some, w64_nat (by omega)]
      rfl
    · right
      rw [if_neg (by simp; omega)]
      exact ⟨_, rfl, _, rfl⟩
end Go.Proofs.YtobbifgmjkgkfaaDoor
namespace Go.Proofs.YtobbifgmjkgkfaaDoor
open Go.ChangeShapes Go.WideShapes Go.RowKit
theorem own : ownKnob Tryd.prog.godebug = none := by kernel_rfl
theorem laidEt : Tryd.prog.globalNamed "errors.errorType" = some 0 := by kernel_rfl
theorem laidRt : (Tryd.prog.cutTypes.find? (·.1 == "internal/reflectlite.rtype")).map (·.2) = some 151 := by kernel_rfl
theorem laidRow : ((List.range 195).filter fun t => Tryd.prog.rowNamed t [101, 114, 114, 111, 114]) = [27] := by kernel_rfl
theorem laidSize : Tryd.prog.types.size = 195 := by kernel_rfl
def laidL {H : Type} : List (String × DataW H) := [("errors.errorType", Rows.laid_errors_errorType)]
theorem handle_of_laid {W : World} (h : laidMetH Tryd.prog laidL W) : W.cell? ⟨0, 0, none⟩ = some (.iface 151 (.agg #[.pointer (some ⟨1, 27, none⟩)])) := by
  have h' : laidMet Tryd.prog [] W ∧ handlesMet Tryd.prog laidL W := h
  obtain ⟨name, u, ty, e1, e2, e3, e4, e5⟩ := h'.2 _ (List.mem_singleton.2 rfl)
  have en : name = [101, 114, 114, 111, 114] := (Option.some.inj e1).symm
  subst en
  obtain rfl := Option.some.inj (laidRt.symm.trans e2)
  have hm : ty ∈ (List.range 195).filter fun t => Tryd.prog.rowNamed t [101, 114, 114, 111, 114] := List.mem_filter.2 ⟨List.mem_range.2 (by rw [← laidSize]; exact e3), e4⟩
  rw [laidRow] at hm
  obtain rfl := List.mem_singleton.1 hm
  have hh : typeHandle Tryd.prog 27 = .pointer (some ⟨1, 27, none⟩) := by kernel_rfl
  rw [hh] at e5
  simpa using World.var?_cell laidEt e5 0
/-- A world that meets the condition. -/
noncomputable def laidWorld (os : Os) : World :=
  let w0 := World.holding Tryd.prog os ⟨#[], #[], []⟩
  { w0 with heap := w0.heap.modify 0 fun
      | .cells _ t frozen => .cells #[.iface 151 (.agg #[.pointer (some ⟨1, 27, none⟩)])] t frozen
      | o => o }
theorem laidWorld_met (os : Os) (args : Array Value) : laidMetH Tryd.prog laidL ((laidWorld os).forCall (fun _ _ => 0) ⟨#[], args, []⟩).memory :=
  laidMetH_of_parts (laidMet_nil _ _) (by kernel_rfl)
theorem gls_met {W : World} (h : laidMetH Tryd.prog laidL W) : ∀ p ∈ gls, W.cell? p.1 = some p.2 := by
  intro p hp
  obtain rfl := List.mem_singleton.1 hp
  exact handle_of_laid h
theorem laidOut : laidOutB Tryd.prog = true := by kernel_rfl
end Go.Proofs.YtobbifgmjkgkfaaDoor
