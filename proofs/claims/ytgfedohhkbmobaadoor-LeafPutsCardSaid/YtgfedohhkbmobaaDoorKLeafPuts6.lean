/- The page of anything that it is to hold, or what is wrong with that, is what the chapter says. (part 6 of 7) -/
import Derived.Test.YtgfedohhkbmobaaDoorKLeafPuts5
import Derived.ChangeSame
import Derived.ChangeVars
import Derived.JoinedOf
import Derived.LaidHandle
import Derived.LaidLaws
import Derived.RowKit
import Derived.RowKitTokens
import Derived.Stop.Joined
import Derived.Test.YtgfedohhkbmobaaDoorRows
namespace Go.Proofs.YtgfedohhkbmobaaDoor
open Go Go.Va
set_option linter.unusedVariables false
set_option linter.unusedSimpArgs false
theorem gt_spec {b : List (BitVec 8)} (h : (gtE b).2 = 0) : b.length = 256 ∧ word (ahead b) = word (behind b) ∧ fitN (word (ahead b)) ≠ 0 ∧ cfits (b.take 248) = true ∧ szB b ≤ 233 ∧ lkE (inE b (szB b)) = 0 ∧ noughts (restE b (szB b)) = true ∧ (gtE b).1 = inE b (szB b) := by
  by_cases hl : b.length = 256
  · by_cases h1 : word (ahead b) = word (behind b)
    · by_cases h2 : fitN (word (ahead b)) = 0
      · rw [gt_none hl h1 h2] at h; cases h
      · rw [gt_go hl h1 h2] at h ⊢
        cases h3 : cfits (b.take 248) with
        | false => rw [h3] at h; cases h
        | true =>
          simp only [h3, reduceCtorEq, if_false] at h ⊢
          by_cases h4 : 233 < szB b
          · rw [if_pos h4] at h; cases h
          · rw [if_neg h4] at h ⊢
            by_cases h5 : lkE (inE b (szB b)) = 0
            · simp only [h5, ne_eq, not_true_eq_false, if_false] at h ⊢
              cases h6 : noughts (restE b (szB b)) with
              | false => rw [h6] at h; cases h
              | true => exact ⟨hl, h1, h2, by first | trivial | rfl, by omega, by first | trivial | rfl | exact h5, by first | trivial | rfl, rfl⟩
            · rw [if_pos h5] at h; exact absurd h h5
    · rw [gt_torn hl h1] at h; cases h
  · rw [gt_len hl] at h; cases h
theorem gt_zero {b : List (BitVec 8)} (h : (gtE b).2 ≠ 0) : (gtE b).1 = zeroL := by
  by_cases hl : b.length = 256
  · by_cases h1 : word (ahead b) = word (behind b)
    · by_cases h2 : fitN (word (ahead b)) = 0
      · rw [gt_none hl h1 h2]
      · rw [gt_go hl h1 h2] at h ⊢
        split
        · rfl
        · split
          · rfl
          · split
            · rfl
            · split
              · rfl
              · rename_i h3 h4 h5 h6
                rw [if_neg h3, if_neg h4, if_neg h5, if_neg h6] at h
                exact absurd rfl h
    · rw [gt_torn hl h1]
  · rw [gt_len hl]
theorem gt_bytes {b : List (BitVec 8)} (hb : b.length ≤ 1000000) : (gtE b).1.Bytes.length < 9223372036854775807 := by
  by_cases h : (gtE b).2 = 0
  · rw [(gt_spec h).2.2.2.2.2.2.2]
    simp only [inE, List.length_drop, List.length_take]; omega
  · rw [gt_zero h]; simp [zeroL]
theorem noughts_rep (k : Nat) : noughts (List.replicate k 0#8) = true := by
  induction k with
  | zero => rfl
  | succ k ih => rw [List.replicate_succ, noughts_cons, ih]; rfl
theorem rep_noughts : ∀ {l : List (BitVec 8)}, noughts l = true → l = List.replicate l.length 0#8
  | [], _ => rfl
  | c :: l, h => by
    rw [noughts_cons, Bool.and_eq_true] at h
    rw [List.length_cons, List.replicate_succ, ← rep_noughts h.2, eq_of_beq h.1]
theorem pg_ahead {x : api_Leaf} : ahead (pgE x) = wd (BitVec.ofInt 64 x.Stamp) 8 := by
  simp only [ahead, pgE, cseal, bodyE, List.append_assoc]
  rw [List.take_left' (wd_len _ _)]
theorem pg_behind {x : api_Leaf} (h : x.Bytes.length ≤ 233) : behind (pgE x) = wd (BitVec.ofInt 64 x.Stamp) 8 := by
  simp only [behind, pgE]
  rw [List.drop_left' (by rw [cseal_len, body_len h])]
theorem pg_248 {x : api_Leaf} (h : x.Bytes.length ≤ 233) : (pgE x).take 248 = cseal (bodyE x) := by
  simp only [pgE]
  rw [List.take_left' (by rw [cseal_len, body_len h])]
theorem pg_244 {x : api_Leaf} (h : x.Bytes.length ≤ 233) : (pgE x).take 244 = bodyE x := by
  simp only [pgE, cseal, List.append_assoc]
  rw [List.take_left' (body_len h)]
theorem pg_head (x : api_Leaf) : ∃ r, pgE x = wd (BitVec.ofInt 64 x.Stamp) 8 ++ (BitVec.ofInt 8 x.Kind :: 0#8 :: BitVec.ofNat 8 x.Bytes.length :: (x.Bytes ++ r)) := by
  refine ⟨List.replicate (233 - x.Bytes.length) 0#8 ++ (cfour (csum (bodyE x)) ++ wd (BitVec.ofInt 64 x.Stamp) 8), ?_⟩
  simp only [pgE, cseal]
  conv => lhs; unfold bodyE
  simp [bodyE]
theorem gt_pg {x : api_Leaf} (hx : lkE x = 0) : gtE (pgE x) = (x, 0) := by
  obtain ⟨h1, h2, h3, h4, h5⟩ := lk_ok hx
  have hl := pg_len h5
  have hf : fitN (word (ahead (pgE x))) = x.Stamp := by rw [pg_ahead, word_full, fitN_of h1 h2]
  obtain ⟨r, hr⟩ := pg_head x
  have hw := wd_len (BitVec.ofInt 64 x.Stamp) 8
  have hk : (BitVec.ofInt 8 x.Kind).toNat = x.Kind.toNat := by
    obtain ⟨k, hk⟩ : ∃ k : Nat, x.Kind = k := ⟨x.Kind.toNat, by omega⟩
    rw [hk, BitVec.ofInt_natCast, BitVec.toNat_ofNat, Int.toNat_natCast, Nat.mod_eq_of_lt (by omega)]
  have g8 : (pgE x).getD 8 0#8 = BitVec.ofInt 8 x.Kind := by
    rw [hr, List.getD_eq_getElem?_getD, List.getElem?_append_right (by omega), hw]; rfl
  have g9 : (pgE x).getD 9 0#8 = 0#8 := by
    rw [hr, List.getD_eq_getElem?_getD, List.getElem?_append_right (by omega), hw]; rfl
  have g10 : (pgE x).getD 10 0#8 = BitVec.ofNat 8 x.Bytes.length := by
    rw [hr, List.getD_eq_getElem?_getD, List.getElem?_append_right (by omega), hw]; rfl
  have hs : szB (pgE x) = x.Bytes.length := by
    unfold szB
    rw [g9, g10, BitVec.toNat_ofNat, BitVec.toNat_ofNat]
    omega
  have hi : inE (pgE x) x.Bytes.length = x := by
    unfold inE
    rw [hf, g8, hk]
    have e : ((pgE x).take (11 + x.Bytes.length)).drop 11 = x.Bytes := by
      have e2 : pgE x = (wd (BitVec.ofInt 64 x.Stamp) 8 ++ [BitVec.ofInt 8 x.Kind, 0#8, BitVec.ofNat 8 x.Bytes.length]) ++ (x.Bytes ++ r) := by rw [hr]; simp
      have hl2 : (wd (BitVec.ofInt 64 x.Stamp) 8 ++ [BitVec.ofInt 8 x.Kind, 0#8, BitVec.ofNat 8 x.Bytes.length]).length = 11 := by simp [hw]
      rw [List.drop_take, e2, List.drop_left' hl2, show 11 + x.Bytes.length - 11 = x.Bytes.length by omega, List.take_left]
    rw [e]
    obtain ⟨s, k, b⟩ := x
    simp only at h3 ⊢
    rw [Int.toNat_of_nonneg (by omega)]
  have hz : noughts (restE (pgE x) x.Bytes.length) = true := by
    unfold restE
    rw [pg_244 h5]
    have e : bodyE x = (wd (BitVec.ofInt 64 x.Stamp) 8 ++ ([BitVec.ofInt 8 x.Kind, 0#8, BitVec.ofNat 8 x.Bytes.length] ++ x.Bytes)) ++ List.replicate (233 - x.Bytes.length) 0#8 := by simp [bodyE]
    rw [e, List.drop_left' (by simp [hw]; omega)]
    exact noughts_rep _
  rw [gt_go hl (by rw [pg_ahead, pg_behind h5]) (by rw [hf]; omega), pg_248 h5, cseal_fits, hs, hi, hz]
  simp only [reduceCtorEq, if_false, hx, ne_eq, not_true_eq_false]
  rw [if_neg (by omega)]
theorem cut4 (b : List (BitVec 8)) (hl : b.length = 256) (h : cfits (b.take 248) = true) : b = cseal (b.take 244) ++ behind b := by
  unfold cfits at h
  simp only [Bool.and_eq_true, decide_eq_true_eq] at h
  have e1 : (b.take 248).length - 4 = 244 := by rw [List.length_take]; omega
  have e2 := h.2
  rw [e1, List.take_take, show min 244 248 = 244 by omega] at e2
  unfold cseal
  rw [e2]
  have e3 : b.take 244 ++ (b.take 248).drop 244 = b.take 248 := by
    have := List.take_append_drop 244 (b.take 248)
    rwa [List.take_take, show min 244 248 = 244 by omega] at this
  rw [e3]
  exact (List.take_append_drop 248 b).symm
/-- Bytes that are read are the page of what they hold. -/
theorem pg_gt {b : List (BitVec 8)} (h : (gtE b).2 = 0) : lkE (gtE b).1 = 0 ∧ pgE (gtE b).1 = b := by
  obtain ⟨hl, h1, h2, h3, h4, h5, h6, h7⟩ := gt_spec h
  rw [h7]
  refine ⟨h5, ?_⟩
  have hah : (ahead b).length = 8 := by simp [ahead, hl]
  have hbe : (behind b).length = 8 := by simp [behind, hl]
  have hab := word_inj hah hbe h1
  obtain ⟨f1, f2, f3⟩ := fitN_zero h2
  have hw : wd (BitVec.ofInt 64 (fitN (word (ahead b)))) 8 = ahead b := by rw [← f1, wd_word hah]
  generalize hn : szB b = n at *
  have hlen : ((b.take (11 + n)).drop 11).length = n := by rw [List.length_drop, List.length_take]; omega
  have h9 : b.getD 9 0#8 = 0#8 := by
    apply BitVec.eq_of_toNat_eq
    unfold szB at hn
    show _ = 0
    omega
  have h10 : (b.getD 10 0#8).toNat = n := by
    unfold szB at hn
    rw [h9] at hn
    have : (0#8 : BitVec 8).toNat = 0 := rfl
    omega
  have hr : restE b n = List.replicate (233 - n) 0#8 := by
    have e := rep_noughts h6
    have e2 : (restE b n).length = 233 - n := by simp only [restE, List.length_drop, List.length_take]; omega
    rw [e2] at e
    exact e
  have hbody : bodyE (inE b n) = b.take 244 := by
    unfold bodyE inE
    simp only [hw, hlen]
    have e8 : BitVec.ofInt 8 ((b.getD 8 0#8).toNat : Int) = b.getD 8 0#8 := by
      rw [BitVec.ofInt_natCast]
      apply BitVec.eq_of_toNat_eq
      rw [BitVec.toNat_ofNat, Nat.mod_eq_of_lt (b.getD 8 0#8).isLt]
    have e10 : BitVec.ofNat 8 n = b.getD 10 0#8 := by
      apply BitVec.eq_of_toNat_eq
      rw [BitVec.toNat_ofNat, ← h10, Nat.mod_eq_of_lt (b.getD 10 0#8).isLt]
    rw [e8, e10, ← hr]
    have e3 : ([b.getD 8 0#8, 0#8, b.getD 10 0#8] : List (BitVec 8)) = (b.take 11).drop 8 := by
      have h9' : b[9] = 0#8 := by rw [← getD_at (show 9 < b.length by omega), h9]
      have e4 : ([b.getD 8 0#8, 0#8, b.getD 10 0#8] : List (BitVec 8)) = [b[8], b[9], b[10]] := by
        rw [getD_at (show 8 < b.length by omega), getD_at (show 10 < b.length by omega), h9']
      rw [e4]
      apply List.ext_getElem?
      intro i
      rw [List.getElem?_drop, List.getElem?_take]
      match i with
      | 0 => simp
      | 1 => simp
      | 2 => simp
      | i + 3 => simp; omega
    rw [e3]
    unfold restE ahead
    have t1 : b.take 8 ++ (b.take 11).drop 8 = b.take 11 := by
      have := List.take_append_drop 8 (b.take 11)
      rwa [List.take_take, show min 8 11 = 8 by omega] at this
    have t2 : b.take 11 ++ (b.take (11 + n)).drop 11 = b.take (11 + n) := by
      have := List.take_append_drop 11 (b.take (11 + n))
      rwa [List.take_take, show min 11 (11 + n) = 11 by omega] at this
    have t3 : b.take (11 + n) ++ (b.take 244).drop (11 + n) = b.take 244 := by
      have := List.take_append_drop (11 + n) (b.take 244)
      rwa [List.take_take, show min (11 + n) 244 = 11 + n by omega] at this
    rw [← List.append_assoc, t1, ← List.append_assoc, t2, t3]
  unfold pgE
  rw [hbody, show (inE b n).Stamp = fitN (word (ahead b)) from rfl, hw, hab]
  exact (cut4 b hl h3).symm
theorem works05 : butterylaw05_works = some true := by
  have hx : lkE ⟨9, 3, [97#8, 98#8, 99#8]⟩ = 0 := by decide
  have hV : leaf_PutV ⟨9, 3, [97#8, 98#8, 99#8]⟩ = some (pgE ⟨9, 3, [97#8, 98#8, 99#8]⟩, .nil) := (put_eq5 ⟨9, 3, [97#8, 98#8, 99#8]⟩).1 hx
  have hl : (pgE ⟨9, 3, [97#8, 98#8, 99#8]⟩).length = 256 := pg_len (by decide)
  have hP : ∀ b : List (BitVec 8), leaf_GetP b = leaf_Get b := fun _ => rfl
  obtain ⟨e1, g1, g2, g3⟩ := get_eq5 (b := pgE ⟨9, 3, [97#8, 98#8, 99#8]⟩) (by omega)
  rw [gt_pg hx] at g1 g2 g3
  have hbad : lkE ⟨1, 6, []⟩ = 12 := by decide
  obtain ⟨e2, p1, p2, p3⟩ := (put_eq5 ⟨1, 6, []⟩).2 (by rw [hbad]; decide)
  rw [hbad] at p2
  have hE : lkErr ⟨9, 3, [97#8, 98#8, 99#8]⟩ = .nil := by simp [lkErr]
  have hA := pg_ahead (x := ⟨9, 3, [97#8, 98#8, 99#8]⟩)
  have hB := pg_behind (x := ⟨9, 3, [97#8, 98#8, 99#8]⟩) (by decide)
  have hst : stE (pgE ⟨9, 3, [97#8, 98#8, 99#8]⟩) = (9, 9) := by
    unfold stE
    rw [if_pos hl, hA, hB, word_full, fitN_of (by decide) (by decide)]
  unfold butterylaw05_works
  simp only [lt_eq, hV, Option.bind_some]
  generalize hp : pgE ⟨9, 3, [97#8, 98#8, 99#8]⟩ = p at *
  have hc : chk p.length 255 = some () := by unfold chk; rw [if_pos (by omega)]
  have hi : ixA p.length p 255 = some p[255] := ixA_nat (i := 255) (by omega) (by omega)
  have hu : ∀ v, updA p.length p 255 (fun _ => v) = some (p.set 255 v) := fun v => by unfold updA; rw [hi]; rfl
  rw [if_neg (by rw [hl]; decide)]
  simp only [hP, g1, p1, stamps_eq, hst, hc, hi, hu, Option.bind_some]
  have hq : ((p.set 255 (p[255] ^^^ 1#8)).length) = 256 := by rw [List.length_set, hl]
  have hne : word (ahead (p.set 255 (p[255] ^^^ 1#8))) ≠ word (behind (p.set 255 (p[255] ^^^ 1#8))) := by
    have ha : ahead (p.set 255 (p[255] ^^^ 1#8)) = ahead p := by
      unfold ahead
      rw [List.take_set_of_le (by omega)]
    intro h
    have h2 := word_inj (by simp [ahead, hq]) (by simp [behind, hq]) h
    rw [ha, hA, ← hB] at h2
    have h3 := congrArg (fun l : List (BitVec 8) => l[7]?) h2
    simp only [behind, List.getElem?_drop] at h3
    rw [List.getElem?_set_self (by omega), List.getElem?_eq_getElem (by omega)] at h3
    have h4 := Option.some.inj h3
    have h5 : ∀ c : BitVec 8, c ≠ c ^^^ 1#8 := by decide
    exact h5 _ h4
  obtain ⟨e3, q1, q2, q3⟩ := get_eq5 (b := p.set 255 (p[255] ^^^ 1#8)) (by omega)
  rw [gt_torn hq hne] at q1 q2 q3
  simp only [q1, Option.bind_some, g3, lsame_eq5, trouble_Of, p2, q2, leafCheck_eq, hE, decide_true, if_true, beq_self_eq_true]
  rfl
end Go.Proofs.YtgfedohhkbmobaaDoor
namespace Go.Proofs.YtgfedohhkbmobaaDoor
open Go Go.Va
set_option linter.unusedSimpArgs false
set_option linter.unusedVariables false
def wf_runtime_boundsError (x : runtime_boundsError) : Prop := (wfI .i64) x.x ∧ (wfI .i64) x.y ∧ wfT x.signed ∧ wfT x.code
theorem opens7 : Opens Tryd.prog 7 e_runtime_boundsError wf_runtime_boundsError := by
  intro H enc w fuel cs x hx
  obtain ⟨xs, m, _, _, hl, hn, hx⟩ := DataW.trod_struct Tryd.underlying7 hx
  rw [cellsOf_sz tk sz7 (by decide)] at hl
  obtain ⟨y0, w0, r0, o0⟩ := opens_f hx hn 0 (o := 0) (s := 1) rfl (opens_i64 Tryd.underlying2) rfl (cellsOf_sz tk sz2 (by decide))
  obtain ⟨y1, w1, r1, o1⟩ := opens_f hx hn 1 (o := 1) (s := 1) rfl (opens_i64 Tryd.underlying3) rfl (cellsOf_sz tk sz3 (by decide))
  obtain ⟨y2, w2, r2, o2⟩ := opens_f hx hn 2 (o := 2) (s := 1) rfl (opens_b Tryd.underlying4) rfl (cellsOf_sz tk sz4 (by decide))
  obtain ⟨y3, w3, r3, o3⟩ := opens_f hx hn 3 (o := 3) (s := 1) rfl (opens_u rfl rfl Tryd.underlying6) rfl (cellsOf_sz tk sz6 (by decide))
  refine ⟨⟨y0, y1, y2, y3⟩, ⟨w0, w1, w2, w3⟩, ?_, ?_⟩
  · have h := (rel_piece r0 (rel_piece r1 (rel_piece r2 (rel_piece r3 (rel_end hl)))))
    rw [List.drop_zero] at h
    first | exact h | (simp only [List.append_nil, List.append_assoc] at h ⊢; exact h) | (simpa [AV.cells, e_runtime_boundsError, c_runtime_boundsError] using h)
  · have h := (one_piece o0 (one_piece o1 (one_piece o2 (one_piece o3 (one_end hl)))))
    rw [List.drop_zero] at h
    exact h
theorem opens8 : Opens Tryd.prog 8 e_runtime_boundsError wf_runtime_boundsError := by
  intro H enc w fuel cs x hx
  obtain ⟨xs, m, _, _, hl, hn, hx⟩ := DataW.trod_struct Tryd.underlying8 hx
  rw [cellsOf_sz tk sz8 (by decide)] at hl
  obtain ⟨y0, w0, r0, o0⟩ := opens_f hx hn 0 (o := 0) (s := 1) rfl (opens_i64 Tryd.underlying2) rfl (cellsOf_sz tk sz2 (by decide))
  obtain ⟨y1, w1, r1, o1⟩ := opens_f hx hn 1 (o := 1) (s := 1) rfl (opens_i64 Tryd.underlying3) rfl (cellsOf_sz tk sz3 (by decide))
  obtain ⟨y2, w2, r2, o2⟩ := opens_f hx hn 2 (o := 2) (s := 1) rfl (opens_b Tryd.underlying4) rfl (cellsOf_sz tk sz4 (by decide))
  obtain ⟨y3, w3, r3, o3⟩ := opens_f hx hn 3 (o := 3) (s := 1) rfl (opens_u rfl rfl Tryd.underlying6) rfl (cellsOf_sz tk sz6 (by decide))
  refine ⟨⟨y0, y1, y2, y3⟩, ⟨w0, w1, w2, w3⟩, ?_, ?_⟩
  · have h := (rel_piece r0 (rel_piece r1 (rel_piece r2 (rel_piece r3 (rel_end hl)))))
    rw [List.drop_zero] at h
    first | exact h | (simp only [List.append_nil, List.append_assoc] at h ⊢; exact h) | (simpa [AV.cells, e_runtime_boundsError, c_runtime_boundsError] using h)
  · have h := (one_piece o0 (one_piece o1 (one_piece o2 (one_piece o3 (one_end hl)))))
    rw [List.drop_zero] at h
    exact h
def wf_runtime_errorAddressString (x : runtime_errorAddressString) : Prop := wfS x.msg ∧ wfT x.addr
theorem opens13 : Opens Tryd.prog 13 e_runtime_errorAddressString wf_runtime_errorAddressString := by
  intro H enc w fuel cs x hx
  obtain ⟨xs, m, _, _, hl, hn, hx⟩ := DataW.trod_struct Tryd.underlying13 hx
  rw [cellsOf_sz tk sz13 (by decide)] at hl
  obtain ⟨y0, w0, r0, o0⟩ := opens_f hx hn 0 (o := 0) (s := 1) rfl (opens_s Tryd.underlying9) rfl (cellsOf_sz tk sz9 (by decide))
  obtain ⟨y1, w1, r1, o1⟩ := opens_f hx hn 1 (o := 1) (s := 1) rfl (opens_u rfl rfl Tryd.underlying12) rfl (cellsOf_sz tk sz12 (by decide))
  refine ⟨⟨y0, y1⟩, ⟨w0, w1⟩, ?_, ?_⟩
  · have h := (rel_piece r0 (rel_piece r1 (rel_end hl)))
    rw [List.drop_zero] at h
    first | exact h | (simp only [List.append_nil, List.append_assoc] at h ⊢; exact h) | (simpa [AV.cells, e_runtime_errorAddressString, c_runtime_errorAddressString] using h)
  · have h := (one_piece o0 (one_piece o1 (one_end hl)))
    rw [List.drop_zero] at h
    exact h
theorem opens14 : Opens Tryd.prog 14 e_runtime_errorAddressString wf_runtime_errorAddressString := by
  intro H enc w fuel cs x hx
  obtain ⟨xs, m, _, _, hl, hn, hx⟩ := DataW.trod_struct Tryd.underlying14 hx
  rw [cellsOf_sz tk sz14 (by decide)] at hl
  obtain ⟨y0, w0, r0, o0⟩ := opens_f hx hn 0 (o := 0) (s := 1) rfl (opens_s Tryd.underlying9) rfl (cellsOf_sz tk sz9 (by decide))
  obtain ⟨y1, w1, r1, o1⟩ := opens_f hx hn 1 (o := 1) (s := 1) rfl (opens_u rfl rfl Tryd.underlying12) rfl (cellsOf_sz tk sz12 (by decide))
  refine ⟨⟨y0, y1⟩, ⟨w0, w1⟩, ?_, ?_⟩
  · have h := (rel_piece r0 (rel_piece r1 (rel_end hl)))
    rw [List.drop_zero] at h
    first | exact h | (simp only [List.append_nil, List.append_assoc] at h ⊢; exact h) | (simpa [AV.cells, e_runtime_errorAddressString, c_runtime_errorAddressString] using h)
  · have h := (one_piece o0 (one_piece o1 (one_end hl)))
    rw [List.drop_zero] at h
    exact h
def wf_api_Leaf (x : api_Leaf) : Prop := (wfI .i64) x.Stamp ∧ (wfI .i64) x.Kind ∧ (wfL wfT) x.Bytes
theorem opens23 : Opens Tryd.prog 23 e_api_Leaf wf_api_Leaf := by
  intro H enc w fuel cs x hx
  obtain ⟨xs, m, _, _, hl, hn, hx⟩ := DataW.trod_struct Tryd.underlying23 hx
  rw [cellsOf_sz tk sz23 (by decide)] at hl
  obtain ⟨y0, w0, r0, o0⟩ := opens_f hx hn 0 (o := 0) (s := 1) rfl (opens_i64 Tryd.underlying3) rfl (cellsOf_sz tk sz3 (by decide))
  obtain ⟨y1, w1, r1, o1⟩ := opens_f hx hn 1 (o := 1) (s := 1) rfl (opens_i64 Tryd.underlying3) rfl (cellsOf_sz tk sz3 (by decide))
  obtain ⟨y2, w2, r2, o2⟩ := opens_f hx hn 2 (o := 2) (s := 1) rfl (opens_l tk Tryd.underlying22 (enc_u td5 sz5) (opens_u rfl rfl Tryd.underlying5)) rfl (cellsOf_sz tk sz22 (by decide))
  refine ⟨⟨y0, y1, y2⟩, ⟨w0, w1, w2⟩, ?_, ?_⟩
  · have h := (rel_piece r0 (rel_piece r1 (rel_piece r2 (rel_end hl))))
    rw [List.drop_zero] at h
    first | exact h | (simp only [List.append_nil, List.append_assoc] at h ⊢; exact h) | (simpa [AV.cells, e_api_Leaf, c_api_Leaf] using h)
  · have h := (one_piece o0 (one_piece o1 (one_piece o2 (one_end hl))))
    rw [List.drop_zero] at h
    exact h
theorem opens24 : Opens Tryd.prog 24 e_api_Leaf wf_api_Leaf := by
  intro H enc w fuel cs x hx
  obtain ⟨xs, m, _, _, hl, hn, hx⟩ := DataW.trod_struct Tryd.underlying24 hx
  rw [cellsOf_sz tk sz24 (by decide)] at hl
  obtain ⟨y0, w0, r0, o0⟩ := opens_f hx hn 0 (o := 0) (s := 1) rfl (opens_i64 Tryd.underlying3) rfl (cellsOf_sz tk sz3 (by decide))
  obtain ⟨y1, w1, r1, o1⟩ := opens_f hx hn 1 (o := 1) (s := 1) rfl (opens_i64 Tryd.underlying3) rfl (cellsOf_sz tk sz3 (by decide))
  obtain ⟨y2, w2, r2, o2⟩ := opens_f hx hn 2 (o := 2) (s := 1) rfl (opens_l tk Tryd.underlying22 (enc_u td5 sz5) (opens_u rfl rfl Tryd.underlying5)) rfl (cellsOf_sz tk sz22 (by decide))
  refine ⟨⟨y0, y1, y2⟩, ⟨w0, w1, w2⟩, ?_, ?_⟩
  · have h := (rel_piece r0 (rel_piece r1 (rel_piece r2 (rel_end hl))))
    rw [List.drop_zero] at h
    first | exact h | (simp only [List.append_nil, List.append_assoc] at h ⊢; exact h) | (simpa [AV.cells, e_api_Leaf, c_api_Leaf] using h)
  · have h := (one_piece o0 (one_piece o1 (one_piece o2 (one_end hl))))
    rw [List.drop_zero] at h
    exact h
def wf_api_Entry (x : api_Entry) : Prop := wfS x.Key ∧ (wfI .i64) x.Version ∧ (wfI .i64) x.AsOf ∧ (wfI .i64) x.Ends ∧ (wfL wfT) x.Value
theorem opens49 : Opens Tryd.prog 49 e_api_Entry wf_api_Entry := by
  intro H enc w fuel cs x hx
  obtain ⟨xs, m, _, _, hl, hn, hx⟩ := DataW.trod_struct Tryd.underlying49 hx
  rw [cellsOf_sz tk sz49 (by decide)] at hl
  obtain ⟨y0, w0, r0, o0⟩ := opens_f hx hn 0 (o := 0) (s := 1) rfl (opens_s Tryd.underlying9) rfl (cellsOf_sz tk sz9 (by decide))
  obtain ⟨y1, w1, r1, o1⟩ := opens_f hx hn 1 (o := 1) (s := 1) rfl (opens_i64 Tryd.underlying3) rfl (cellsOf_sz tk sz3 (by decide))
  obtain ⟨y2, w2, r2, o2⟩ := opens_f hx hn 2 (o := 2) (s := 1) rfl (opens_i64 Tryd.underlying3) rfl (cellsOf_sz tk sz3 (by decide))
  obtain ⟨y3, w3, r3, o3⟩ := opens_f hx hn 3 (o := 3) (s := 1) rfl (opens_i64 Tryd.underlying3) rfl (cellsOf_sz tk sz3 (by decide))
  obtain ⟨y4, w4, r4, o4⟩ := opens_f hx hn 4 (o := 4) (s := 1) rfl (opens_l tk Tryd.underlying22 (enc_u td5 sz5) (opens_u rfl rfl Tryd.underlying5)) rfl (cellsOf_sz tk sz22 (by decide))
  refine ⟨⟨y0, y1, y2, y3, y4⟩, ⟨w0, w1, w2, w3, w4⟩, ?_, ?_⟩
  · have h := (rel_piece r0 (rel_piece r1 (rel_piece r2 (rel_piece r3 (rel_piece r4 (rel_end hl))))))
    rw [List.drop_zero] at h
    first | exact h | (simp only [List.append_nil, List.append_assoc] at h ⊢; exact h) | (simpa [AV.cells, e_api_Entry, c_api_Entry] using h)
  · have h := (one_piece o0 (one_piece o1 (one_piece o2 (one_piece o3 (one_piece o4 (one_end hl))))))
    rw [List.drop_zero] at h
    exact h
theorem opens50 : Opens Tryd.prog 50 e_api_Entry wf_api_Entry := by
  intro H enc w fuel cs x hx
  obtain ⟨xs, m, _, _, hl, hn, hx⟩ := DataW.trod_struct Tryd.underlying50 hx
  rw [cellsOf_sz tk sz50 (by decide)] at hl
  obtain ⟨y0, w0, r0, o0⟩ := opens_f hx hn 0 (o := 0) (s := 1) rfl (opens_s Tryd.underlying9) rfl (cellsOf_sz tk sz9 (by decide))
  obtain ⟨y1, w1, r1, o1⟩ := opens_f hx hn 1 (o := 1) (s := 1) rfl (opens_i64 Tryd.underlying3) rfl (cellsOf_sz tk sz3 (by decide))
  obtain ⟨y2, w2, r2, o2⟩ := opens_f hx hn 2 (o := 2) (s := 1) rfl (opens_i64 Tryd.underlying3) rfl (cellsOf_sz tk sz3 (by decide))
  obtain ⟨y3, w3, r3, o3⟩ := opens_f hx hn 3 (o := 3) (s := 1) rfl (opens_i64 Tryd.underlying3) rfl (cellsOf_sz tk sz3 (by decide))
  obtain ⟨y4, w4, r4, o4⟩ := opens_f hx hn 4 (o := 4) (s := 1) rfl (opens_l tk Tryd.underlying22 (enc_u td5 sz5) (opens_u rfl rfl Tryd.underlying5)) rfl (cellsOf_sz tk sz22 (by decide))
  refine ⟨⟨y0, y1, y2, y3, y4⟩, ⟨w0, w1, w2, w3, w4⟩, ?_, ?_⟩
  · have h := (rel_piece r0 (rel_piece r1 (rel_piece r2 (rel_piece r3 (rel_piece r4 (rel_end hl))))))
    rw [List.drop_zero] at h
    first | exact h | (simp only [List.append_nil, List.append_assoc] at h ⊢; exact h) | (simpa [AV.cells, e_api_Entry, c_api_Entry] using h)
  · have h := (one_piece o0 (one_piece o1 (one_piece o2 (one_piece o3 (one_piece o4 (one_end hl))))))
    rw [List.drop_zero] at h
    exact h
def wf_butteryref02_Reader (x : butteryref02_Reader) : Prop := (wfL wfT) x.B ∧ (wfI .i64) x.At ∧ (wfI .i64) x.Code
theorem opens61 : Opens Tryd.prog 61 e_butteryref02_Reader wf_butteryref02_Reader := by
  intro H enc w fuel cs x hx
  obtain ⟨xs, m, _, _, hl, hn, hx⟩ := DataW.trod_struct Tryd.underlying61 hx
  rw [cellsOf_sz tk sz61 (by decide)] at hl
  obtain ⟨y0, w0, r0, o0⟩ := opens_f hx hn 0 (o := 0) (s := 1) rfl (opens_l tk Tryd.underlying22 (enc_u td5 sz5) (opens_u rfl rfl Tryd.underlying5)) rfl (cellsOf_sz tk sz22 (by decide))
  obtain ⟨y1, w1, r1, o1⟩ := opens_f hx hn 1 (o := 1) (s := 1) rfl (opens_i64 Tryd.underlying3) rfl (cellsOf_sz tk sz3 (by decide))
  obtain ⟨y2, w2, r2, o2⟩ := opens_f hx hn 2 (o := 2) (s := 1) rfl (opens_i64 Tryd.underlying30) rfl (cellsOf_sz tk sz30 (by decide))
  refine ⟨⟨y0, y1, y2⟩, ⟨w0, w1, w2⟩, ?_, ?_⟩
  · have h := (rel_piece r0 (rel_piece r1 (rel_piece r2 (rel_end hl))))
    rw [List.drop_zero] at h
    first | exact h | (simp only [List.append_nil, List.append_assoc] at h ⊢; exact h) | (simpa [AV.cells, e_butteryref02_Reader, c_butteryref02_Reader] using h)
  · have h := (one_piece o0 (one_piece o1 (one_piece o2 (one_end hl))))
    rw [List.drop_zero] at h
    exact h
theorem opens62 : Opens Tryd.prog 62 e_butteryref02_Reader wf_butteryref02_Reader := by
  intro H enc w fuel cs x hx
  obtain ⟨xs, m, _, _, hl, hn, hx⟩ := DataW.trod_struct Tryd.underlying62 hx
  rw [cellsOf_sz tk sz62 (by decide)] at hl
  obtain ⟨y0, w0, r0, o0⟩ := opens_f hx hn 0 (o := 0) (s := 1) rfl (opens_l tk Tryd.underlying22 (enc_u td5 sz5) (opens_u rfl rfl Tryd.underlying5)) rfl (cellsOf_sz tk sz22 (by decide))
  obtain ⟨y1, w1, r1, o1⟩ := opens_f hx hn 1 (o := 1) (s := 1) rfl (opens_i64 Tryd.underlying3) rfl (cellsOf_sz tk sz3 (by decide))
  obtain ⟨y2, w2, r2, o2⟩ := opens_f hx hn 2 (o := 2) (s := 1) rfl (opens_i64 Tryd.underlying30) rfl (cellsOf_sz tk sz30 (by decide))
  refine ⟨⟨y0, y1, y2⟩, ⟨w0, w1, w2⟩, ?_, ?_⟩
  · have h := (rel_piece r0 (rel_piece r1 (rel_piece r2 (rel_end hl))))
    rw [List.drop_zero] at h
    first | exact h | (simp only [List.append_nil, List.append_assoc] at h ⊢; exact h) | (simpa [AV.cells, e_butteryref02_Reader, c_butteryref02_Reader] using h)
  · have h := (one_piece o0 (one_piece o1 (one_piece o2 (one_end hl))))
    rw [List.drop_zero] at h
    exact h
def wf_leaf_head (x : leaf_head) : Prop := (wfI .i64) x.stamp ∧ (wfI .i64) x.kind
theorem opens89 : Opens Tryd.prog 89 e_leaf_head wf_leaf_head := by
  intro H enc w fuel cs x hx
  obtain ⟨xs, m, _, _, hl, hn, hx⟩ := DataW.trod_struct Tryd.underlying89 hx
  rw [cellsOf_sz tk sz89 (by decide)] at hl
  obtain ⟨y0, w0, r0, o0⟩ := opens_f hx hn 0 (o := 0) (s := 1) rfl (opens_i64 Tryd.underlying3) rfl (cellsOf_sz tk sz3 (by decide))
  obtain ⟨y1, w1, r1, o1⟩ := opens_f hx hn 1 (o := 1) (s := 1) rfl (opens_i64 Tryd.underlying3) rfl (cellsOf_sz tk sz3 (by decide))
  refine ⟨⟨y0, y1⟩, ⟨w0, w1⟩, ?_, ?_⟩
  · have h := (rel_piece r0 (rel_piece r1 (rel_end hl)))
    rw [List.drop_zero] at h
    first | exact h | (simp only [List.append_nil, List.append_assoc] at h ⊢; exact h) | (simpa [AV.cells, e_leaf_head, c_leaf_head] using h)
  · have h := (one_piece o0 (one_piece o1 (one_end hl)))
    rw [List.drop_zero] at h
    exact h
theorem opens90 : Opens Tryd.prog 90 e_leaf_head wf_leaf_head := by
  intro H enc w fuel cs x hx
  obtain ⟨xs, m, _, _, hl, hn, hx⟩ := DataW.trod_struct Tryd.underlying90 hx
  rw [cellsOf_sz tk sz90 (by decide)] at hl
  obtain ⟨y0, w0, r0, o0⟩ := opens_f hx hn 0 (o := 0) (s := 1) rfl (opens_i64 Tryd.underlying3) rfl (cellsOf_sz tk sz3 (by decide))
  obtain ⟨y1, w1, r1, o1⟩ := opens_f hx hn 1 (o := 1) (s := 1) rfl (opens_i64 Tryd.underlying3) rfl (cellsOf_sz tk sz3 (by decide))
  refine ⟨⟨y0, y1⟩, ⟨w0, w1⟩, ?_, ?_⟩
  · have h := (rel_piece r0 (rel_piece r1 (rel_end hl)))
    rw [List.drop_zero] at h
    first | exact h | (simp only [List.append_nil, List.append_assoc] at h ⊢; exact h) | (simpa [AV.cells, e_leaf_head, c_leaf_head] using h)
  · have h := (one_piece o0 (one_piece o1 (one_end hl)))
    rw [List.drop_zero] at h
    exact h
def wf_octets_Reader (x : octets_Reader) : Prop := (wfL wfT) x.b ∧ (wfI .i64) x.at_ ∧ (wfI .i64) x.code
theorem opens97 : Opens Tryd.prog 97 e_octets_Reader wf_octets_Reader := by
  intro H enc w fuel cs x hx
  obtain ⟨xs, m, _, _, hl, hn, hx⟩ := DataW.trod_struct Tryd.underlying97 hx
  rw [cellsOf_sz tk sz97 (by decide)] at hl
  obtain ⟨y0, w0, r0, o0⟩ := opens_f hx hn 0 (o := 0) (s := 1) rfl (opens_l tk Tryd.underlying22 (enc_u td5 sz5) (opens_u rfl rfl Tryd.underlying5)) rfl (cellsOf_sz tk sz22 (by decide))
  obtain ⟨y1, w1, r1, o1⟩ := opens_f hx hn 1 (o := 1) (s := 1) rfl (opens_i64 Tryd.underlying3) rfl (cellsOf_sz tk sz3 (by decide))
  obtain ⟨y2, w2, r2, o2⟩ := opens_f hx hn 2 (o := 2) (s := 1) rfl (opens_i64 Tryd.underlying30) rfl (cellsOf_sz tk sz30 (by decide))
  refine ⟨⟨y0, y1, y2⟩, ⟨w0, w1, w2⟩, ?_, ?_⟩
  · have h := (rel_piece r0 (rel_piece r1 (rel_piece r2 (rel_end hl))))
    rw [List.drop_zero] at h
    first | exact h | (simp only [List.append_nil, List.append_assoc] at h ⊢; exact h) | (simpa [AV.cells, e_octets_Reader, c_octets_Reader] using h)
  · have h := (one_piece o0 (one_piece o1 (one_piece o2 (one_end hl))))
    rw [List.drop_zero] at h
    exact h
theorem opens98 : Opens Tryd.prog 98 e_octets_Reader wf_octets_Reader := by
  intro H enc w fuel cs x hx
  obtain ⟨xs, m, _, _, hl, hn, hx⟩ := DataW.trod_struct Tryd.underlying98 hx
  rw [cellsOf_sz tk sz98 (by decide)] at hl
  obtain ⟨y0, w0, r0, o0⟩ := opens_f hx hn 0 (o := 0) (s := 1) rfl (opens_l tk Tryd.underlying22 (enc_u td5 sz5) (opens_u rfl rfl Tryd.underlying5)) rfl (cellsOf_sz tk sz22 (by decide))
  obtain ⟨y1, w1, r1, o1⟩ := opens_f hx hn 1 (o := 1) (s := 1) rfl (opens_i64 Tryd.underlying3) rfl (cellsOf_sz tk sz3 (by decide))
  obtain ⟨y2, w2, r2, o2⟩ := opens_f hx hn 2 (o := 2) (s := 1) rfl (opens_i64 Tryd.underlying30) rfl (cellsOf_sz tk sz30 (by decide))
  refine ⟨⟨y0, y1, y2⟩, ⟨w0, w1, w2⟩, ?_, ?_⟩
  · have h := (rel_piece r0 (rel_piece r1 (rel_piece r2 (rel_end hl))))
    rw [List.drop_zero] at h
    first | exact h | (simp only [List.append_nil, List.append_assoc] at h ⊢; exact h) | (simpa [AV.cells, e_octets_Reader, c_octets_Reader] using h)
  · have h := (one_piece o0 (one_piece o1 (one_piece o2 (one_end hl))))
    rw [List.drop_zero] at h
    exact h
def wf_reflectlite_ValueError (x : reflectlite_ValueError) : Prop := wfS x.Method ∧ wfT x.Kind
theorem opens162 : Opens Tryd.prog 162 e_reflectlite_ValueError wf_reflectlite_ValueError := by
  intro H enc w fuel cs x hx
  obtain ⟨xs, m, _, _, hl, hn, hx⟩ := DataW.trod_struct Tryd.underlying162 hx
  rw [cellsOf_sz tk sz162 (by decide)] at hl
  obtain ⟨y0, w0, r0, o0⟩ := opens_f hx hn 0 (o := 0) (s := 1) rfl (opens_s Tryd.underlying9) rfl (cellsOf_sz tk sz9 (by decide))
  obtain ⟨y1, w1, r1, o1⟩ := opens_f hx hn 1 (o := 1) (s := 1) rfl (opens_u rfl rfl Tryd.underlying122) rfl (cellsOf_sz tk sz122 (by decide))
  refine ⟨⟨y0, y1⟩, ⟨w0, w1⟩, ?_, ?_⟩
  · have h := (rel_piece r0 (rel_piece r1 (rel_end hl)))
    rw [List.drop_zero] at h
    first | exact h | (simp only [List.append_nil, List.append_assoc] at h ⊢; exact h) | (simpa [AV.cells, e_reflectlite_ValueError, c_reflectlite_ValueError] using h)
  · have h := (one_piece o0 (one_piece o1 (one_end hl)))
    rw [List.drop_zero] at h
    exact h
theorem opens163 : Opens Tryd.prog 163 e_reflectlite_ValueError wf_reflectlite_ValueError := by
  intro H enc w fuel cs x hx
  obtain ⟨xs, m, _, _, hl, hn, hx⟩ := DataW.trod_struct Tryd.underlying163 hx
  rw [cellsOf_sz tk sz163 (by decide)] at hl
  obtain ⟨y0, w0, r0, o0⟩ := opens_f hx hn 0 (o := 0) (s := 1) rfl (opens_s Tryd.underlying9) rfl (cellsOf_sz tk sz9 (by decide))
  obtain ⟨y1, w1, r1, o1⟩ := opens_f hx hn 1 (o := 1) (s := 1) rfl (opens_u rfl rfl Tryd.underlying122) rfl (cellsOf_sz tk sz122 (by decide))
  refine ⟨⟨y0, y1⟩, ⟨w0, w1⟩, ?_, ?_⟩
  · have h := (rel_piece r0 (rel_piece r1 (rel_end hl)))
    rw [List.drop_zero] at h
    first | exact h | (simp only [List.append_nil, List.append_assoc] at h ⊢; exact h) | (simpa [AV.cells, e_reflectlite_ValueError, c_reflectlite_ValueError] using h)
  · have h := (one_piece o0 (one_piece o1 (one_end hl)))
    rw [List.drop_zero] at h
    exact h
def wf_abi_Method (x : abi_Method) : Prop := (wfI .i32) x.Name ∧ (wfI .i32) x.Mtyp ∧ (wfI .i32) x.Ifn ∧ (wfI .i32) x.Tfn
theorem opens170 : Opens Tryd.prog 170 e_abi_Method wf_abi_Method := by
  intro H enc w fuel cs x hx
  obtain ⟨xs, m, _, _, hl, hn, hx⟩ := DataW.trod_struct Tryd.underlying170 hx
  rw [cellsOf_sz tk sz170 (by decide)] at hl
  obtain ⟨y0, w0, r0, o0⟩ := opens_f hx hn 0 (o := 0) (s := 1) rfl (opens_i Tryd.underlying156) rfl (cellsOf_sz tk sz156 (by decide))
  obtain ⟨y1, w1, r1, o1⟩ := opens_f hx hn 1 (o := 1) (s := 1) rfl (opens_i Tryd.underlying157) rfl (cellsOf_sz tk sz157 (by decide))
  obtain ⟨y2, w2, r2, o2⟩ := opens_f hx hn 2 (o := 2) (s := 1) rfl (opens_i Tryd.underlying169) rfl (cellsOf_sz tk sz169 (by decide))
  obtain ⟨y3, w3, r3, o3⟩ := opens_f hx hn 3 (o := 3) (s := 1) rfl (opens_i Tryd.underlying169) rfl (cellsOf_sz tk sz169 (by decide))
  refine ⟨⟨y0, y1, y2, y3⟩, ⟨w0, w1, w2, w3⟩, ?_, ?_⟩
  · have h := (rel_piece r0 (rel_piece r1 (rel_piece r2 (rel_piece r3 (rel_end hl)))))
    rw [List.drop_zero] at h
    first | exact h | (simp only [List.append_nil, List.append_assoc] at h ⊢; exact h) | (simpa [AV.cells, e_abi_Method, c_abi_Method] using h)
  · have h := (one_piece o0 (one_piece o1 (one_piece o2 (one_piece o3 (one_end hl)))))
    rw [List.drop_zero] at h
    exact h
theorem opens171 : Opens Tryd.prog 171 e_abi_Method wf_abi_Method := by
  intro H enc w fuel cs x hx
  obtain ⟨xs, m, _, _, hl, hn, hx⟩ := DataW.trod_struct Tryd.underlying171 hx
  rw [cellsOf_sz tk sz171 (by decide)] at hl
  obtain ⟨y0, w0, r0, o0⟩ := opens_f hx hn 0 (o := 0) (s := 1) rfl (opens_i Tryd.underlying156) rfl (cellsOf_sz tk sz156 (by decide))
  obtain ⟨y1, w1, r1, o1⟩ := opens_f hx hn 1 (o := 1) (s := 1) rfl (opens_i Tryd.underlying157) rfl (cellsOf_sz tk sz157 (by decide))
  obtain ⟨y2, w2, r2, o2⟩ := opens_f hx hn 2 (o := 2) (s := 1) rfl (opens_i Tryd.underlying169) rfl (cellsOf_sz tk sz169 (by decide))
  obtain ⟨y3, w3, r3, o3⟩ := opens_f hx hn 3 (o := 3) (s := 1) rfl (opens_i Tryd.underlying169) rfl (cellsOf_sz tk sz169 (by decide))
  refine ⟨⟨y0, y1, y2, y3⟩, ⟨w0, w1, w2, w3⟩, ?_, ?_⟩
  · have h := (rel_piece r0 (rel_piece r1 (rel_piece r2 (rel_piece r3 (rel_end hl)))))
    rw [List.drop_zero] at h
    first | exact h | (simp only [List.append_nil, List.append_assoc] at h ⊢; exact h) | (simpa [AV.cells, e_abi_Method, c_abi_Method] using h)
  · have h := (one_piece o0 (one_piece o1 (one_piece o2 (one_piece o3 (one_end hl)))))
    rw [List.drop_zero] at h
    exact h
end Go.Proofs.YtgfedohhkbmobaaDoor
namespace Go.Proofs.YtgfedohhkbmobaaDoor
open Go Go.Va
set_option linter.unusedVariables false
set_option linter.unusedSimpArgs false
theorem LeafPuts_pure (x y : api_Leaf) (_ : wf_api_Leaf x) (_ : wf_api_Leaf y) : butterylaw05_LeafPuts x y = some true := by
  unfold butterylaw05_LeafPuts
  simp only [lt_eq]
  by_cases h1 : (x.Bytes.length : Int) > 600
  · simp [h1, works05]
  · by_cases h2 : (y.Bytes.length : Int) > 600
    · simp [h1, h2, works05]
    · obtain ⟨e0, c1, c2, c3⟩ := check_eq5 x
      simp only [decide_eq_false h1, decide_eq_false h2, Bool.false_eq_true, if_false, Option.bind_some]
      by_cases hx : lkE x = 0
      · have hl := pg_len (lk_ok hx).2.2.2.2
        rw [(put_eq5 x).1 hx, (refPut_eq5 x).1 hx]
        simp only [Option.bind_some, same_eq (pgE x) _ (by omega), trouble_Of, codeOf, c1, c2, refCheck_eq5, lsame_eq5, same_eq5 x y (by omega), works05, decide_true, if_true, beq_self_eq_true]
      · obtain ⟨e, p1, p2, p3⟩ := (put_eq5 x).2 hx
        rw [p1, (refPut_eq5 x).2 hx]
        simp only [Option.bind_some, same_eq [] _ (by simp), trouble_Of, p2, c1, c2, refCheck_eq5, lsame_eq5, same_eq5 x y (by omega), works05, decide_true, if_true, beq_self_eq_true]
end Go.Proofs.YtgfedohhkbmobaaDoor
namespace Go.Proofs.YtgfedohhkbmobaaDoor
open Go.ChangeShapes Go.WideShapes Go.RowKit
theorem own : ownKnob Tryd.prog.godebug = none := by kernel_rfl
theorem laidEt : Tryd.prog.globalNamed "errors.errorType" = some 0 := by kernel_rfl
theorem laidRt : (Tryd.prog.cutTypes.find? (·.1 == "internal/reflectlite.rtype")).map (·.2) = some 132 := by kernel_rfl
theorem laidRow : ((List.range 173).filter fun t => Tryd.prog.rowNamed t [101, 114, 114, 111, 114]) = [27] := by kernel_rfl
theorem laidSize : Tryd.prog.types.size = 173 := by kernel_rfl
def laidL {H : Type} : List (String × DataW H) := [("errors.errorType", Rows.laid_errors_errorType)]
theorem handle_of_laid {W : World} (h : laidMetH Tryd.prog laidL W) : W.cell? ⟨0, 0, none⟩ = some (.iface 132 (.agg #[.pointer (some ⟨1, 27, none⟩)])) := by
  have h' : laidMet Tryd.prog [] W ∧ handlesMet Tryd.prog laidL W := h
  obtain ⟨name, u, ty, e1, e2, e3, e4, e5⟩ := h'.2 _ (List.mem_singleton.2 rfl)
  have en : name = [101, 114, 114, 111, 114] := (Option.some.inj e1).symm
  subst en
  obtain rfl := Option.some.inj (laidRt.symm.trans e2)
  have hm : ty ∈ (List.range 173).filter fun t => Tryd.prog.rowNamed t [101, 114, 114, 111, 114] := List.mem_filter.2 ⟨List.mem_range.2 (by rw [← laidSize]; exact e3), e4⟩
  rw [laidRow] at hm
  obtain rfl := List.mem_singleton.1 hm
  have hh : typeHandle Tryd.prog 27 = .pointer (some ⟨1, 27, none⟩) := by kernel_rfl
  rw [hh] at e5
  simpa using World.var?_cell laidEt e5 0
/-- A world that meets the condition. -/
noncomputable def laidWorld (os : Os) : World :=
  let w0 := World.holding Tryd.prog os ⟨#[], #[], []⟩
  { w0 with heap := w0.heap.modify 0 fun
      | .cells _ t frozen => .cells #[.iface 132 (.agg #[.pointer (some ⟨1, 27, none⟩)])] t frozen
      | o => o }
theorem laidWorld_met (os : Os) (args : Array Value) : laidMetH Tryd.prog laidL ((laidWorld os).forCall (fun _ _ => 0) ⟨#[], args, []⟩).memory :=
  laidMetH_of_parts (laidMet_nil _ _) (by kernel_rfl)
theorem gls_met {W : World} (h : laidMetH Tryd.prog laidL W) : ∀ p ∈ gls, W.cell? p.1 = some p.2 := by
  intro p hp
  obtain rfl := List.mem_singleton.1 hp
  exact handle_of_laid h
theorem laidOut : laidOutB Tryd.prog = true := by kernel_rfl
end Go.Proofs.YtgfedohhkbmobaaDoor
