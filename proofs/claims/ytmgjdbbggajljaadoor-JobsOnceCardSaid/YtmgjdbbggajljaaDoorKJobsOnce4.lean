/- Never more wait than may, and of each key one; what waits goes in the order in which it came last. (part 4 of 6) -/
import Derived.Test.YtmgjdbbggajljaaDoorKJobsOnce3
namespace Go.Proofs.YtmgjdbbggajljaaDoor
open Go Go.Va
set_option linter.unusedVariables false
set_option linter.unusedSimpArgs false
set_option maxRecDepth 20000
theorem slices_Delete_api_Entry_api_Entry_in {x0 : List api_Entry} {x1 x2 : Int} {r : List api_Entry} (H : slices_Delete_api_Entry_api_Entry x0 x1 x2 = some r) (σ : St) {p0 c : Nat} (h0 : σ.objs[p0]? = some (cL (e_api_Entry) x0)) (hc : x0.length ≤ c) : ACall Tryd.prog 50 [.vc p0 5 0 x0.length c, (eI x1), (eI x2)] σ (fun a τ => a = .vc p0 5 0 r.length c ∧ ∃ cells, cells ≠ [] ∧ spcl cells = false ∧ cells.take (r.length * 5) = cL (e_api_Entry) r ∧ p0 < σ.objs.length ∧ τ = ⟨σ.objs.set p0 cells, σ.opn, σ.gl⟩) := by
 have he : Enc ty 42 5 (e_api_Entry) := (enc42)
 obtain ⟨a, b, rfl, rfl, hab, hb, ha, rfl⟩ := delO_some H
 have hlt : p0 < σ.objs.length := (List.getElem?_eq_some_iff.1 h0).1
 have hL := cL_length he.len x0
 have hne : cL (e_api_Entry) x0 ≠ [] := fun h => by rw [h] at hL; simp at hL; omega
 have hrl : (x0.take a ++ x0.drop b).length = a + (x0.length - b) := by simp; omega
 refine acall_start tk Tryd.func50 (by decide) rfl (nb rfl) ?_
 repeat (refine awp_seq ?_)
 refine awp_region rfl (ma tk AV.nils rfl rfl (wpo_nil ?_))
 repeat (refine awp_seq ?_)
 refine awp_region rfl (mm tk (.vc p0 5 0 x0.length c) rfl rfl (mm tk (eI (a : Int)) rfl rfl (mm tk (eI (b : Int)) rfl rfl (mm tk (.vc p0 5 0 x0.length c) rfl rfl (m_ (eI (x0.length : Int)) rfl (o_vclen tk td30 rfl) (m_ (.vc p0 5 (if x0.length = a then 0 else 0 + a * 5) (b - a) (x0.length - a)) rfl (o_vcs tk a b x0.length td30 sz42 (by decide) rfl (abnd_nat _ _) (abnd_nat _ _) (abnd_nat _ _) (fun _ => rfl) hab hb hc) (wpo_nil ?_)))))))
 repeat (refine awp_seq ?_)
 refine awp_region rfl (mm tk (eI (a : Int)) rfl rfl (mm tk (eI (b : Int)) rfl rfl (m_ (eB ((a : Int) == (b : Int))) rfl (o_ar tk rfl rfl rfl) (wpo_nil ?_))))
 refine awp_cond (b := ((a : Int) == (b : Int))) rfl (fun hE => ?_) (fun hE => ?_)
 ·have hab' : a = b := by simp at hE; omega
  subst hab'
  repeat (refine awp_seq ?_)
  refine awp_region rfl (mm tk (.vc p0 5 0 x0.length c) rfl rfl (ma tk (.vc p0 5 0 x0.length c) rfl rfl (wpo_nil (awp_ret ?_))))
  have e1 : x0.take a ++ x0.drop a = x0 := List.take_append_drop a x0
  refine ⟨_, .vc p0 5 0 x0.length c, rfl, .of_eq rfl, by rw [e1], cL (e_api_Entry) x0, hne, spcl_cL he x0, by rw [e1, List.take_of_length_le (by rw [hL]; exact Nat.le_refl _)], hlt, ?_⟩
  obtain ⟨hlt', hg⟩ := List.getElem?_eq_some_iff.1 h0
  rw [← hg, List.set_getElem_self]
 ·have hab' : a < b := by simp at hE; omega
  refine awp_skip ?_
  repeat (refine awp_seq ?_)
  refine awp_region rfl (mm tk (.vc p0 5 0 x0.length c) rfl rfl (m_ (eI (x0.length : Int)) rfl (o_vclen tk td30 rfl) (ma tk (eI (x0.length : Int)) rfl rfl (wpo_nil ?_))))
  repeat (refine awp_seq ?_)
  refine awp_drawS mixed [6] rfl (by decide +kernel) rfl rfl ?_
  refine wpdS_mv (a := .vc p0 5 0 x0.length c) rfl rfl rfl (o_mv tk rfl (Wk.refl _)) (wpdS_mv (a := eI (a : Int)) rfl rfl rfl (o_mv tk rfl (Wk.refl _)) (wpdS_mv (a := .vc p0 5 0 a c) rfl rfl rfl (o_vcs0 tk a td30 sz42 (by decide) rfl rfl (by omega)) (wpdS_mv (a := .vc p0 5 0 x0.length c) rfl rfl rfl (o_mv tk rfl (Wk.refl _)) (wpdS_mv (a := eI (b : Int)) rfl rfl rfl (o_mv tk rfl (Wk.refl _)) (wpdS_mv (a := .vc p0 5 (if c = b then 0 else 0 + b * 5) (x0.length - b) (c - b)) rfl rfl rfl (o_vcs tk (lo := some _) (hi := none) (mx := none) b x0.length c td30 sz42 (by decide) rfl (abnd_nat _ _) rfl rfl (fun h => by cases h) hb hc (Nat.le_refl _)) ?_)))))
  have hsrc : ∀ v : AV, v = .vc p0 5 (if c = b then 0 else 0 + b * 5) (x0.length - b) (c - b) → srcC ty 30 5 σ v = some (x0.length - b, cL (e_api_Entry) (x0.drop b)) := by
   intro v hv
   rw [hv, srcC_vc td30 h0 (spcl_cL he x0) (by
    rw [hL]
    split
    ·have : x0.length - b = 0 := by omega
     rw [this]; simp
    ·have e2 : b * 5 + (x0.length - b) * 5 = x0.length * 5 := by rw [← Nat.add_mul]; congr 1; omega
     omega)]
   congr 2
   split
   ·have : x0.length - b = 0 := by omega
    rw [this, Nat.zero_mul, List.take_zero, List.drop_of_length_le (by omega)]; rfl
   ·rw [Nat.zero_add, cL_drop he.len, List.take_of_length_le]
    rw [cL_length he.len, List.length_drop]; exact Nat.le_refl _
  refine wpdS_s1 rfl rfl rfl (o_vcapp (off := 0) (m := a) (cap := c) (sz := 5) (k := x0.length - b) tk h0 (spcl_cL he x0) hne td30 ty42 rfl rfl (hsrc _ rfl) (by omega) (by rw [hL]; have := Nat.mul_le_mul_right 5 (Nat.le_of_lt ha); omega)) ?_
  have e0 : (cL (e_api_Entry) x0).take (0 + a * 5) = cL (e_api_Entry) (x0.take a) := by rw [Nat.zero_add, cL_take he.len]
  have hl1 : (cL (e_api_Entry) (x0.take a) ++ cL (e_api_Entry) (x0.drop b)).length = (a + (x0.length - b)) * 5 := by rw [← cL_append, cL_length he.len, hrl]
  generalize hcs : List.take (0 + a * 5) (cL (e_api_Entry) x0) ++ cL (e_api_Entry) (x0.drop b) ++ List.drop (0 + a * 5 + (cL (e_api_Entry) (x0.drop b)).length) (cL (e_api_Entry) x0) = cs
  have h1 : cs.take ((a + (x0.length - b)) * 5) = cL (e_api_Entry) (x0.take a ++ x0.drop b) := by
   rw [← hcs, e0, ← hl1, List.take_left' rfl, cL_append]
  have h2 : cs.length = x0.length * 5 := by
   rw [← hcs, e0, List.length_append, hl1, List.length_drop, hL, cL_length he.len, List.length_drop]
   have e3 : (a + (x0.length - b)) * 5 = a * 5 + (x0.length - b) * 5 := Nat.add_mul _ _ _
   have e4 : a * 5 + (x0.length - b) * 5 ≤ x0.length * 5 := by rw [← Nat.add_mul]; exact Nat.mul_le_mul_right _ (by omega)
   omega
  have hfl : cs.all flatAV = true := by rw [← hcs]; exact nsp_cat (all_flat_cL he _) (all_flat_cL he _) (all_flat_cL he _) _ _
  have h3 : cs ≠ [] := fun h => by rw [h] at h2; simp at h2; omega
  have h4 : (σ.objs.set p0 cs)[p0]? = some cs := by rw [List.getElem?_set]; simp [hlt]
  refine wpdS_mv (a := .vc p0 5 0 (a + (x0.length - b)) c) rfl rfl rfl (o_as tk rfl (Wk.refl _)) (wpdS_nil ?_)
  repeat (refine awp_seq ?_)
  refine awp_region rfl (mm tk (.vc p0 5 0 (a + (x0.length - b)) c) rfl rfl (mm tk (.vc p0 5 0 (a + (x0.length - b)) c) rfl rfl (m_ (eI ((a + (x0.length - b) : Nat) : Int)) rfl (o_vclen tk td30 rfl) (mm tk (eI (x0.length : Int)) rfl rfl (m_ (.vc p0 5 (if c = a + (x0.length - b) then 0 else 0 + (a + (x0.length - b)) * 5) (x0.length - (a + (x0.length - b))) (c - (a + (x0.length - b)))) rfl (o_vcs tk (lo := some _) (hi := some _) (mx := none) (a + (x0.length - b)) x0.length c td30 sz42 (by decide) rfl (abnd_nat _ _) (abnd_nat _ _) rfl (fun h => by cases h) (by omega) hc (Nat.le_refl _)) ?_)))))
  refine wpo_s0 rfl rfl (o_vcclear tk h4 (flat_nsp hfl) h3 td30 ty42 rfl rfl (by
   rw [if_neg (by omega), h2]
   have := Nat.mul_le_mul_right 5 (show a + (x0.length - b) ≤ x0.length by omega)
   omega)) ?_
  refine wpo_nil ?_
  repeat (refine awp_seq ?_)
  refine awp_region rfl (mm tk (.vc p0 5 0 (a + (x0.length - b)) c) rfl rfl (ma tk (.vc p0 5 0 (a + (x0.length - b)) c) rfl rfl (wpo_nil (awp_ret ?_))))
  refine ⟨_, .vc p0 5 0 (a + (x0.length - b)) c, rfl, .of_eq rfl, by rw [hrl], _, ?_, flat_nsp (nsp_cat hfl (flat_rep rfl _) hfl _ _), ?_, hlt, by rw [List.set_set]⟩
  ·intro h
   have h5 := congrArg List.length h
   rw [if_neg (by omega)] at h5
   simp only [List.length_append, List.length_take, List.length_nil] at h5
   rw [h2] at h5
   have h6 : 0 < (List.replicate (x0.length - (a + (x0.length - b))) (AV.agg [.str ⟨#[]⟩, .int .i64 0, .int .i64 0, .int .i64 0, .nils])).length := by rw [List.length_replicate]; omega
   have h7 : (flat (List.replicate (x0.length - (a + (x0.length - b))) (AV.agg [.str ⟨#[]⟩, .int .i64 0, .int .i64 0, .int .i64 0, .nils]))).length = (x0.length - (a + (x0.length - b))) * 5 := by
    rw [flat_length (sz := 5) (fun y hy => by rw [(List.mem_replicate.1 hy).2]; rfl), List.length_replicate]
   have h8 : 0 < (x0.length - (a + (x0.length - b))) * 5 := Nat.mul_pos (by omega) (by decide)
   have h9 : (List.replicate (x0.length - (a + (x0.length - b))) (AV.agg [.str ⟨#[]⟩, .int .i64 0, .int .i64 0, .int .i64 0, .nils])) = (List.replicate (x0.length - (a + (x0.length - b))) (AV.agg [.str ⟨#[]⟩, .int .i64 0, .int .i64 0, .int .i64 0, .nils])) := rfl
   omega
  ·rw [if_neg (by omega), Nat.zero_add, hrl, List.append_assoc, List.take_append_of_le_length (by rw [List.length_take, h2]; have := Nat.mul_le_mul_right 5 (show a + (x0.length - b) ≤ x0.length by omega); omega), List.take_take, Nat.min_self, h1]
theorem slices_Delete_api_Entry_api_Entry_ok {x0 : List api_Entry} {x1 x2 : Int} {r : List api_Entry} (H : slices_Delete_api_Entry_api_Entry x0 x1 x2 = some r) (σ : St) {p0 : Nat} (h0 : σ.objs[p0]? = some (cL (e_api_Entry) x0)) : ACall Tryd.prog 50 [.vec p0 5 x0.length, (eI x1), (eI x2)] σ (fun a τ => a = .sl (.own σ.opn.length) 5 (r.map (e_api_Entry)) ∧ τ = ⟨σ.objs.set p0 [], σ.opn ++ [true], σ.gl⟩) := by
 have he : Enc ty 42 5 (e_api_Entry) := (enc42)
 have hd := delO_some H
 obtain ⟨a, b, _, _, _, _, ha, _⟩ := hd
 exact ACall.room (by omega) fun c hc => ACall.freeze (r := r) (c := c) he (fun _ _ => trivial) (slices_Delete_api_Entry_api_Entry_in H σ h0 hc)
theorem slices_Delete_api_Entry_api_Entry_g {x0 : List api_Entry} {x1 x2 : Int} {r : List api_Entry} (H : slices_Delete_api_Entry_api_Entry x0 x1 x2 = some r) (σ : St) {p0 c : Nat} (h0 : σ.objs[p0]? = some (gK (e_api_Entry) c x0)) (hc : x0.length ≤ c) : ACall Tryd.prog 50 [gR p0 5 c x0.length, (eI x1), (eI x2)] σ (fun a τ => a = gR σ.objs.length 5 c r.length ∧ τ = ⟨σ.objs.set p0 [] ++ [gK (e_api_Entry) c r], σ.opn, σ.gl⟩) := by
 have he : Enc ty 42 5 (e_api_Entry) := (enc42)
 obtain ⟨a, b, _, _, _, _, ha, _⟩ := delO_some H
 have e1 : gR p0 5 c x0.length = .vc p0 5 0 x0.length c := by unfold gR; rw [if_neg (by omega)]
 rw [e1]
 rw [gK_pos (by omega)] at h0
 exact ACall.revec he (by omega) (slices_Delete_api_Entry_api_Entry_in H σ h0 hc)
theorem slices_Clone_api_Entry_api_EntryV_vec {x0 : List api_Entry} {r : (List api_Entry)} (H : slices_Clone_api_Entry_api_EntryV x0 = some r) (σ : St)  : ACall Tryd.prog 51 [((eL 5 e_api_Entry) x0)] σ (fun a τ => a = .vec σ.objs.length 5 (r).length ∧ τ = ⟨σ.objs ++ [cL e_api_Entry r], σ.opn, σ.gl⟩) := by
 unfold slices_Clone_api_Entry_api_EntryV at H
 refine ACall.vec (fun ρ κ => cut_cL enc42.cut ρ κ r) (acall_start tk Tryd.func51 (by decide) rfl (nb rfl) ?_)
 have hH := Holds.init σ
 refine sr rfl (ma tk AV.nils rfl rfl (wpo_nil (awp_seq (sr rfl (mm tk ((eL 5 e_api_Entry) x0) rfl rfl ?_)))))
 refine wpo_nilq rfl rfl rfl (o_nilq tk td30 rfl rfl) fun b1 hb2 => ?_
 refine wpo_nil ?_
 refine awp_nilif (b := b1) rfl (fun hb2_ => ?_) ?_
 ·have hx4 := List.map_eq_nil_iff.1 (hb2 hb2_)
  have H3 : (some ([] : List api_Entry)) = some _ := Eq.trans (by simp [hx4, app]) H
  refine sr rfl (ma tk AV.nils rfl rfl (wpo_nil ?_))
  refine AWP.vecN hH 2 5 (.inl rfl) fun id5 τ (hH : Holds σ [(id5, (cL e_api_Entry ([] : List api_Entry)))] [] τ) n6 => ?_
  refine awp_ret ?_
  obtain rfl := oi H3
  exact ⟨_, .vec id5 5 (([] : List api_Entry)).length, rfl, wr, id5, rfl, n6, hH.noT⟩
 ·refine awp_skip (sr rfl (mc tk (eF 5 e_api_Entry ([] : List api_Entry)) rfl rfl (fun _ => rfl) (mm tk ((eL 5 e_api_Entry) x0) rfl rfl ?_)))
  obtain ⟨v8, hv9, H7⟩ := ob H
  refine wpo_a (av := fun b => .vec b 5 (v8).length) rfl rfl rfl (h_appV0 tk hH hv9 enc42 td30 ty42 rfl (by decide) (by simp) (.inr rfl) (srv_l enc42 td30 rfl)) fun id10 τ ⟨hH, n11⟩ => ?_
  refine ma tk (.vec id10 5 (v8).length) rfl rfl (wpo_nil (awp_ret ?_))
  obtain rfl := oi H7
  exact ⟨_, .vec id10 5 (v8).length, rfl, wr, id10, rfl, n11, hH.noT⟩
theorem jobs_Queue_api_Entry_drop_ok {x0 : jobs_Jobs} {x1 : List (BitVec 8)} {r : api_Entry × Bool × jobs_Jobs} (H : jobs_Queue_api_Entry_drop x0 x1 = some r) (σ : St) {p0 : Nat} {t_p0_down_l t_p0_up_l : Nat} (h0 : σ.objs[p0]? = some [(eI x0.down_limit), (.fn (.func 24) [] []), (eT t_p0_down_l 5 e_api_Entry x0.down_l), (eI x0.up_limit), (.fn (.func 25) [] []), (eT t_p0_up_l 1 eS x0.up_l)]) (hd : [p0].Pairwise fun a b => a ≠ b) (ho_p0_down_l : σ.opn[t_p0_down_l]? = some true) (ho_p0_up_l : σ.opn[t_p0_up_l]? = some true) (hn_p0_up_l : t_p0_up_l ∉ [t_p0_down_l]) : ACall Tryd.prog 36 [(.ref p0 0), (eS x1)] σ (fun a τ => a = .tup [e_api_Entry r.1, eB r.2.1] ∧ τ = σ.grow [(p0, [(eI r.2.2.down_limit), (.fn (.func 24) [] []), (eT (σ.opn.length + 0) 5 e_api_Entry r.2.2.down_l), (eI r.2.2.up_limit), (.fn (.func 25) [] []), (eT (σ.opn.length + 1) 1 eS r.2.2.up_l)])] [] [t_p0_down_l, t_p0_up_l] 2) := by
 unfold jobs_Queue_api_Entry_drop at H
 refine ACall.outT (B := fun g => [(p0, [(eI r.2.2.down_limit), (.fn (.func 24) [] []), (eT (g 0) 5 e_api_Entry r.2.2.down_l), (eI r.2.2.up_limit), (.fn (.func 25) [] []), (eT (g 1) 1 eS r.2.2.up_l)])]) [t_p0_down_l, t_p0_up_l] 2 (fun ρ κ => by simp only [cutAV, cutL, enc42.cut ρ κ, (enc_b td4 sz4).cut ρ κ]) (by intro g; simp only [List.mem_cons, List.not_mem_nil, or_false]; rintro _ rfl; exact (List.getElem?_eq_some_iff.1 h0).1) (fun ρ κ g g1 h2 h3 => .cons rfl (.cons (.of_eq ((enc_i64 td3 sz3).cut ρ κ _)) (.cons wr (.cons (.of_eq (cut_eT enc42.cut (h2 0 (by decide)) _)) (.cons (.of_eq ((enc_i64 td3 sz3).cut ρ κ _)) (.cons wr (.cons (.of_eq (cut_eT (enc_s td9 sz9).cut (h2 1 (by decide)) _)) .nil)))))) .nil) (acall_start tk Tryd.func36 (by decide) rfl (nb rfl) ?_)
 have hH := Holds.brings (σ := σ) [(p0, [(eI x0.down_limit), (.fn (.func 24) [] []), (eT t_p0_down_l 5 e_api_Entry x0.down_l), (eI x0.up_limit), (.fn (.func 25) [] []), (eT t_p0_up_l 1 eS x0.up_l)])] (by simp only [List.mem_cons, List.not_mem_nil, or_false]; rintro _ (rfl) <;> assumption) hd
 refine AWP.reT hH 0 2 rfl rfl ho_p0_down_l fun tk1 τ (hH : Holds (σ.shut [t_p0_down_l]) [(p0, [(eI x0.down_limit), (.fn (.func 24) [] []), (eT tk1 5 e_api_Entry x0.down_l), (eI x0.up_limit), (.fn (.func 25) [] []), (eT t_p0_up_l 1 eS x0.up_l)])] [tk1] τ) => ?_
 refine AWP.reT hH 0 5 rfl rfl (shut_in [t_p0_down_l] _ _ ho_p0_up_l hn_p0_up_l) fun tk2 τ (hH : Holds (σ.shut [t_p0_down_l, t_p0_up_l]) [(p0, [(eI x0.down_limit), (.fn (.func 24) [] []), (eT tk1 5 e_api_Entry x0.down_l), (eI x0.up_limit), (.fn (.func 25) [] []), (eT tk2 1 eS x0.up_l)])] [tk2, tk1] τ) => ?_
 refine sr rfl ?_
 refine wpo_a (av := fun id => .ref id 0) rfl rfl rfl (h_alloc tk hH ty42 [(eS z_api_Entry.Key), (eI z_api_Entry.Version), (eI z_api_Entry.AsOf), (eI z_api_Entry.Ends), AV.nils] rfl) fun id3 τ ⟨hH, n4⟩ => ?_
 refine ma tk (eB false) rfl rfl (wpo_nil (sr rfl (mm tk (.ref p0 0) rfl rfl (mm tk (eS x1) rfl rfl ?_))))
 refine wpo_bdr H eI rfl rfl rfl (fun v6 hv => h_callr rfl rfl (.cons wr (.cons wr .nil)) (jobs_Queue_api_Entry_find_ok hv _ (hH.at_ 1 rfl) (hH.pw [1] rfl (by decide)))) fun v6 hv6 H5 => ?_
 refine ma tk (eI v6) rfl rfl (wpo_nil (awp_seq (sr rfl (mm tk (eI v6) rfl rfl ?_))))
 refine l_ H5 eB rfl (o_ar tk rfl rfl rfl) fun v8 H7 => ?_
 refine wpo_nil ?_
 refine awp_if H7 rfl (fun H9 => ?_) (fun H9 => ?_)
 ·refine sr rfl ?_
  refine wpo_a (av := fun id => .ref id 0) rfl rfl rfl (h_alloc tk hH ty42 [(eS z_api_Entry.Key), (eI z_api_Entry.Version), (eI z_api_Entry.AsOf), (eI z_api_Entry.Ends), AV.nils] rfl) fun id10 τ ⟨hH, n11⟩ => ?_
  refine mc tk (.ref id10 0) rfl rfl (fun _ => rfl) (wpo_rd (a := (.agg [(eS z_api_Entry.Key), (eI z_api_Entry.Version), (eI z_api_Entry.AsOf), (eI z_api_Entry.Ends), AV.nils])) rfl rfl rfl (h_ld tk hH 0 rfl rfl rfl) ?_)
  refine wpo_z rfl rfl (h_st (y := (.agg [(eS z_api_Entry.Key), (eI z_api_Entry.Version), (eI z_api_Entry.AsOf), (eI z_api_Entry.Ends), AV.nils])) tk hH 1 rfl ty42 (by simp) rfl rfl wr (b := (.agg [(eS z_api_Entry.Key), (eI z_api_Entry.Version), (eI z_api_Entry.AsOf), (eI z_api_Entry.Ends), AV.nils])) rfl rfl (nb rfl) [(eS (z_api_Entry : api_Entry).Key), (eI (z_api_Entry : api_Entry).Version), (eI (z_api_Entry : api_Entry).AsOf), (eI (z_api_Entry : api_Entry).Ends), AV.nils] rfl) fun τ hH => ?_
  refine ma tk (eB false) rfl rfl (wpo_nil (awp_ret ?_))
  obtain rfl := oi H9
  exact ⟨_, (.tup [(e_api_Entry (z_api_Entry : api_Entry)), (eB false)]), (ares_2 (ares_cell hH 1 rfl rfl rfl) rfl), (wk_tup (.cons (wk_agg (.cons wr (.cons wr (.cons wr (.cons wr (.cons (wk_nils _) .nil)))))) (.cons wr .nil))), rfl, fun i => [tk1, tk2].getD i 0, (((hH.drop n11).drop n4).tpick [1, 0] rfl (by decide))⟩
 ·refine awp_skip (sr rfl (mm tk (.ref p0 0) rfl rfl (mc tk (.ref p0 0) rfl rfl (fun _ => rfl) (mc tk (.ref p0 2) rfl rfl (fun _ => rfl) (wpo_rd (a := (eT tk1 5 e_api_Entry x0.down_l)) rfl rfl rfl (h_ld tk hH 1 rfl rfl rfl) (mm tk (eI v6) rfl rfl ?_))))))
  refine b_ H9 (fun y => .fptr (e_api_Entry y).cells 0) rfl (fun v14 hv => o_ixa tk hv td30 enc42 rfl rfl) fun v14 hv14 H13 => ?_
  refine m_ (e_api_Entry v14) rfl (o_ld_e tk enc42 rfl rfl) ?_
  refine wpo_a (av := fun id => .ref id 0) rfl rfl rfl (h_alloc tk hH ty42 [(eS z_api_Entry.Key), (eI z_api_Entry.Version), (eI z_api_Entry.AsOf), (eI z_api_Entry.Ends), AV.nils] rfl) fun id15 τ ⟨hH, n16⟩ => ?_
  refine wpo_z rfl rfl (h_st tk hH 0 rfl ty42 (by simp) rfl rfl wr (b := (e_api_Entry v14)) (enc42.flat _) rfl (nb rfl) (c_api_Entry (v14 : api_Entry)) rfl) fun τ hH => ?_
  refine wpo_nil (sr rfl (mm tk (.ref p0 0) rfl rfl (mm tk (.ref p0 0) rfl rfl (mc tk (.ref p0 0) rfl rfl (fun _ => rfl) (mc tk (.ref p0 2) rfl rfl (fun _ => rfl) (wpo_rd (a := (eT tk1 5 e_api_Entry x0.down_l)) rfl rfl rfl (h_ld tk hH 2 rfl rfl rfl) ?_))))))
  obtain ⟨v19, hv20, H18⟩ := ob H13
  refine wpo_a (av := fun b => .vec b 5 (v19).length) rfl rfl rfl (h_callv hH (cL e_api_Entry _) rfl rfl (.cons wk_no .nil) (slices_Clone_api_Entry_api_EntryV_vec hv20 _)) fun id21 τ ⟨hH, n22⟩ => ?_
  refine mm tk (eI v6) rfl rfl (mm tk (eI v6) rfl rfl ?_)
  refine l_ H18 eI rfl (o_ar tk rfl rfl rfl) fun v24 H23 => ?_
  obtain ⟨v26, hv27, H25⟩ := ob H23
  refine wpo_a (av := fun t => eT t 5 e_api_Entry v26) rfl rfl rfl (h_calld hH 0 rfl n22 rfl rfl (.cons wr (.cons wr (.cons wr .nil))) (slices_Delete_api_Entry_api_Entry_ok hv27 _ (hH.at_ 0 rfl))) fun tk28 τ (hH : Holds (σ.shut [t_p0_down_l, t_p0_up_l]) [(id15, (c_api_Entry (v14 : api_Entry))), (id3, [(eS z_api_Entry.Key), (eI z_api_Entry.Version), (eI z_api_Entry.AsOf), (eI z_api_Entry.Ends), AV.nils]), (p0, [(eI x0.down_limit), (.fn (.func 24) [] []), (eT tk1 5 e_api_Entry x0.down_l), (eI x0.up_limit), (.fn (.func 25) [] []), (eT tk2 1 eS x0.up_l)])] [tk28, tk2, tk1] τ) => ?_
  refine mc tk (.ref p0 0) rfl rfl (fun _ => rfl) (mc tk (.ref p0 2) rfl rfl (fun _ => rfl) ?_)
  refine wpo_z rfl rfl (h_st (y := (eT tk28 5 e_api_Entry v26)) tk hH 2 rfl ty30 (by simp) rfl rfl wr (b := (eT tk28 5 e_api_Entry v26)) rfl rfl (nb rfl) [(eI ({ x0 with down_l := v26 } : jobs_Jobs).down_limit), (.fn (.func 24) [] []), (eT tk28 5 e_api_Entry ({ x0 with down_l := v26 } : jobs_Jobs).down_l), (eI ({ x0 with down_l := v26 } : jobs_Jobs).up_limit), (.fn (.func 25) [] []), (eT tk2 1 eS ({ x0 with down_l := v26 } : jobs_Jobs).up_l)] rfl) fun τ hH => ?_
  refine wpo_nil (sr rfl (wpo_rd (a := (e_api_Entry (v14 : api_Entry))) rfl rfl rfl (h_ld tk hH 0 rfl rfl rfl) ?_))
  refine wpo_z rfl rfl (h_st tk hH 1 rfl ty42 (by simp) rfl rfl wr (b := (e_api_Entry (v14 : api_Entry))) (enc42.flat _) rfl (nb rfl) (c_api_Entry ((v14 : api_Entry) : api_Entry)) rfl) fun τ hH => ?_
  refine ma tk (eB true) rfl rfl (wpo_nil (awp_ret ?_))
  obtain rfl := oi H25
  exact ⟨_, (.tup [(e_api_Entry ((v14 : api_Entry) : api_Entry)), (eB true)]), (ares_2 (ares_cell hH 1 rfl rfl rfl) rfl), (wk_tup (.cons wr (.cons wr .nil))), rfl, fun i => [tk28, tk2].getD i 0, (((hH.drop n16).drop n4).tpick [0, 1] rfl (by decide))⟩
theorem jobs_Queue_api_Entry_push_ok {x0 : jobs_Jobs} {x1 : api_Entry} {r : Bool × jobs_Jobs} (H : jobs_Queue_api_Entry_push x0 x1 = some r) (σ : St) {p0 : Nat} {t_p0_down_l t_p0_up_l : Nat} (h0 : σ.objs[p0]? = some [(eI x0.down_limit), (.fn (.func 24) [] []), (eT t_p0_down_l 5 e_api_Entry x0.down_l), (eI x0.up_limit), (.fn (.func 25) [] []), (eT t_p0_up_l 1 eS x0.up_l)]) (hd : [p0].Pairwise fun a b => a ≠ b) (ho_p0_down_l : σ.opn[t_p0_down_l]? = some true) (ho_p0_up_l : σ.opn[t_p0_up_l]? = some true) (hn_p0_up_l : t_p0_up_l ∉ [t_p0_down_l]) : ACall Tryd.prog 37 [(.ref p0 0), (e_api_Entry x1)] σ (fun a τ => a = eB r.1 ∧ τ = σ.grow [(p0, [(eI r.2.down_limit), (.fn (.func 24) [] []), (eT (σ.opn.length + 0) 5 e_api_Entry r.2.down_l), (eI r.2.up_limit), (.fn (.func 25) [] []), (eT (σ.opn.length + 1) 1 eS r.2.up_l)])] [] [t_p0_down_l, t_p0_up_l] 2) := by
 unfold jobs_Queue_api_Entry_push at H
 refine ACall.outT (B := fun g => [(p0, [(eI r.2.down_limit), (.fn (.func 24) [] []), (eT (g 0) 5 e_api_Entry r.2.down_l), (eI r.2.up_limit), (.fn (.func 25) [] []), (eT (g 1) 1 eS r.2.up_l)])]) [t_p0_down_l, t_p0_up_l] 2 (fun ρ κ => (enc_b td4 sz4).cut ρ κ _) (by intro g; simp only [List.mem_cons, List.not_mem_nil, or_false]; rintro _ rfl; exact (List.getElem?_eq_some_iff.1 h0).1) (fun ρ κ g g1 h2 h3 => .cons rfl (.cons (.of_eq ((enc_i64 td3 sz3).cut ρ κ _)) (.cons wr (.cons (.of_eq (cut_eT enc42.cut (h2 0 (by decide)) _)) (.cons (.of_eq ((enc_i64 td3 sz3).cut ρ κ _)) (.cons wr (.cons (.of_eq (cut_eT (enc_s td9 sz9).cut (h2 1 (by decide)) _)) .nil)))))) .nil) (acall_start tk Tryd.func37 (by decide) rfl (nb rfl) ?_)
 have hH := Holds.brings (σ := σ) [(p0, [(eI x0.down_limit), (.fn (.func 24) [] []), (eT t_p0_down_l 5 e_api_Entry x0.down_l), (eI x0.up_limit), (.fn (.func 25) [] []), (eT t_p0_up_l 1 eS x0.up_l)])] (by simp only [List.mem_cons, List.not_mem_nil, or_false]; rintro _ (rfl) <;> assumption) hd
 refine AWP.reT hH 0 2 rfl rfl ho_p0_down_l fun tk1 τ (hH : Holds (σ.shut [t_p0_down_l]) [(p0, [(eI x0.down_limit), (.fn (.func 24) [] []), (eT tk1 5 e_api_Entry x0.down_l), (eI x0.up_limit), (.fn (.func 25) [] []), (eT t_p0_up_l 1 eS x0.up_l)])] [tk1] τ) => ?_
 refine AWP.reT hH 0 5 rfl rfl (shut_in [t_p0_down_l] _ _ ho_p0_up_l hn_p0_up_l) fun tk2 τ (hH : Holds (σ.shut [t_p0_down_l, t_p0_up_l]) [(p0, [(eI x0.down_limit), (.fn (.func 24) [] []), (eT tk1 5 e_api_Entry x0.down_l), (eI x0.up_limit), (.fn (.func 25) [] []), (eT tk2 1 eS x0.up_l)])] [tk2, tk1] τ) => ?_
 refine sr rfl (m_ (.fptr (c_api_Entry x1) 0) rfl (o_boxf tk rfl wr (b := (e_api_Entry x1)) (enc42.flat _)) (ma tk (eB false) rfl rfl (wpo_nil (awp_seq (awp_seq ?_)))))
 refine awp_drawS mixed [] rfl (by decide +kernel) rfl rfl ?_
 refine wpdS_mv (a := (.ref p0 0)) rfl rfl rfl (o_mv tk rfl (Wk.refl _)) (wpdS_mv (a := (.ref p0 0)) rfl rfl rfl (o_c tk false rfl (fun _ => rfl)) (wpdS_mv (a := (.ref p0 2)) rfl rfl rfl (o_c tk false rfl (fun _ => rfl)) (wpdS_rd (a := (eT tk1 5 e_api_Entry x0.down_l)) rfl (by decide +kernel) rfl rfl (h_ld tk hH 0 rfl rfl rfl) ?_)))
 refine wpdS_lt H eI rfl rfl rfl (o_len tk td30 rfl) fun v4 H3 => ?_
 refine wpdS_mv (a := (.ref p0 0)) rfl rfl rfl (o_mv tk rfl (Wk.refl _)) (wpdS_mv (a := (.ref p0 0)) rfl rfl rfl (o_c tk false rfl (fun _ => rfl)) (wpdS_mv (a := (.ref p0 0)) rfl rfl rfl (o_c tk false rfl (fun _ => rfl)) (wpdS_rd (a := (eI x0.down_limit)) rfl (by decide +kernel) rfl rfl (h_ld tk hH 0 rfl rfl rfl) ?_)))
 refine wpdS_lt H3 eB rfl rfl rfl (o_ar tk rfl rfl rfl) fun v6 H5 => ?_
 refine wpdS_nil ?_
 refine awp_if H5 rfl (fun H7 => ?_) (fun H7 => ?_)
 ·refine sr rfl (ma tk (eB false) rfl rfl (wpo_nil (awp_ret ?_)))
  obtain rfl := oi H7
  exact ⟨_, (eB false), rfl, wr, rfl, fun i => [tk1, tk2].getD i 0, (hH.tpick [1, 0] rfl (by decide))⟩
 ·refine awp_skip (awp_seq ?_)
  refine awp_drawS mixed [7, 10] rfl (by decide +kernel) rfl rfl ?_
  refine wpdS_mv (a := (.ref p0 0)) rfl rfl rfl (o_mv tk rfl (Wk.refl _)) (wpdS_mv (a := (.ref p0 0)) rfl rfl rfl (o_mv tk rfl (Wk.refl _)) (wpdS_mv (a := (.ref p0 0)) rfl rfl rfl (o_c tk false rfl (fun _ => rfl)) (wpdS_mv (a := (.ref p0 2)) rfl rfl rfl (o_c tk false rfl (fun _ => rfl)) (wpdS_rd (a := (eT tk1 5 e_api_Entry x0.down_l)) rfl (by decide +kernel) rfl rfl (h_ld tk hH 0 rfl rfl rfl) (wpdS_mv (a := (e_api_Entry x1)) rfl rfl rfl (o_ld tk rfl rfl) ?_)))))
  refine wpdS_lt H7 (eF 5 e_api_Entry) rfl rfl rfl (o_c tk false rfl (fun _ => rfl)) fun v9 H8 => ?_
  obtain ⟨v11, hv12, H10⟩ := ob H8
  refine wpdS_a (av := fun t => eT t 5 e_api_Entry v11) rfl rfl rfl (h_app tk hH 1 hv12 rfl td30 ty42 rfl (by decide) rfl (src_l td30 rfl)) fun tk13 τ hH => ?_
  refine wpdS_mv (a := (.ref p0 0)) rfl rfl rfl (o_c tk false rfl (fun _ => rfl)) (wpdS_mv (a := (.ref p0 2)) rfl rfl rfl (o_c tk false rfl (fun _ => rfl)) ?_)
  refine wpdS_z rfl rfl rfl (h_st (y := (eT tk13 5 e_api_Entry v11)) tk hH 0 rfl ty30 (by simp) rfl rfl wr (b := (eT tk13 5 e_api_Entry v11)) rfl rfl (nb rfl) [(eI ({ x0 with down_l := v11 } : jobs_Jobs).down_limit), (.fn (.func 24) [] []), (eT tk13 5 e_api_Entry ({ x0 with down_l := v11 } : jobs_Jobs).down_l), (eI ({ x0 with down_l := v11 } : jobs_Jobs).up_limit), (.fn (.func 25) [] []), (eT tk2 1 eS ({ x0 with down_l := v11 } : jobs_Jobs).up_l)] rfl) fun τ hH => ?_
  refine wpdS_nil (sr rfl (ma tk (eB true) rfl rfl (wpo_nil (awp_ret ?_))))
  obtain rfl := oi H10
  exact ⟨_, (eB true), rfl, wr, rfl, fun i => [tk13, tk2].getD i 0, (hH.tpick [1, 0] rfl (by decide))⟩
theorem jobs_Jobs_Push_ok {x0 : jobs_Jobs} {x1 : api_Entry} {r : Bool × jobs_Jobs} (H : jobs_Jobs_Push x0 x1 = some r) (σ : St) {p0 : Nat} {t_p0_down_l t_p0_up_l : Nat} (h0 : σ.objs[p0]? = some [(eI x0.down_limit), (.fn (.func 24) [] []), (eT t_p0_down_l 5 e_api_Entry x0.down_l), (eI x0.up_limit), (.fn (.func 25) [] []), (eT t_p0_up_l 1 eS x0.up_l)]) (hd : [p0].Pairwise fun a b => a ≠ b) (ho_p0_down_l : σ.opn[t_p0_down_l]? = some true) (ho_p0_up_l : σ.opn[t_p0_up_l]? = some true) (hn_p0_up_l : t_p0_up_l ∉ [t_p0_down_l]) : ACall Tryd.prog 16 [(.ref p0 0), (e_api_Entry x1)] σ (fun a τ => a = eB r.1 ∧ τ = σ.grow [(p0, [(eI r.2.down_limit), (.fn (.func 24) [] []), (eT (σ.opn.length + 0) 5 e_api_Entry r.2.down_l), (eI r.2.up_limit), (.fn (.func 25) [] []), (eT (σ.opn.length + 1) 1 eS r.2.up_l)])] [] [t_p0_down_l, t_p0_up_l] 2) := by
 unfold jobs_Jobs_Push at H
 refine ACall.outT (B := fun g => [(p0, [(eI r.2.down_limit), (.fn (.func 24) [] []), (eT (g 0) 5 e_api_Entry r.2.down_l), (eI r.2.up_limit), (.fn (.func 25) [] []), (eT (g 1) 1 eS r.2.up_l)])]) [t_p0_down_l, t_p0_up_l] 2 (fun ρ κ => (enc_b td4 sz4).cut ρ κ _) (by intro g; simp only [List.mem_cons, List.not_mem_nil, or_false]; rintro _ rfl; exact (List.getElem?_eq_some_iff.1 h0).1) (fun ρ κ g g1 h2 h3 => .cons rfl (.cons (.of_eq ((enc_i64 td3 sz3).cut ρ κ _)) (.cons wr (.cons (.of_eq (cut_eT enc42.cut (h2 0 (by decide)) _)) (.cons (.of_eq ((enc_i64 td3 sz3).cut ρ κ _)) (.cons wr (.cons (.of_eq (cut_eT (enc_s td9 sz9).cut (h2 1 (by decide)) _)) .nil)))))) .nil) (acall_start tk Tryd.func16 (by decide) rfl (nb rfl) ?_)
 have hH := Holds.brings (σ := σ) [(p0, [(eI x0.down_limit), (.fn (.func 24) [] []), (eT t_p0_down_l 5 e_api_Entry x0.down_l), (eI x0.up_limit), (.fn (.func 25) [] []), (eT t_p0_up_l 1 eS x0.up_l)])] (by simp only [List.mem_cons, List.not_mem_nil, or_false]; rintro _ (rfl) <;> assumption) hd
 refine AWP.reT hH 0 2 rfl rfl ho_p0_down_l fun tk1 τ (hH : Holds (σ.shut [t_p0_down_l]) [(p0, [(eI x0.down_limit), (.fn (.func 24) [] []), (eT tk1 5 e_api_Entry x0.down_l), (eI x0.up_limit), (.fn (.func 25) [] []), (eT t_p0_up_l 1 eS x0.up_l)])] [tk1] τ) => ?_
 refine AWP.reT hH 0 5 rfl rfl (shut_in [t_p0_down_l] _ _ ho_p0_up_l hn_p0_up_l) fun tk2 τ (hH : Holds (σ.shut [t_p0_down_l, t_p0_up_l]) [(p0, [(eI x0.down_limit), (.fn (.func 24) [] []), (eT tk1 5 e_api_Entry x0.down_l), (eI x0.up_limit), (.fn (.func 25) [] []), (eT tk2 1 eS x0.up_l)])] [tk2, tk1] τ) => ?_
 refine sr rfl (m_ (.fptr (c_api_Entry x1) 0) rfl (o_boxf tk rfl wr (b := (e_api_Entry x1)) (enc42.flat _)) (ma tk (eB false) rfl rfl (wpo_nil (awp_seq ?_))))
 refine awp_drawS mixed [5] rfl (by decide +kernel) rfl rfl ?_
 refine wpdS_mv (a := (.ref p0 0)) rfl rfl rfl (o_mv tk rfl (Wk.refl _)) (wpdS_mv (a := (.ref p0 0)) rfl rfl rfl (o_c tk false rfl (fun _ => rfl)) (wpdS_mv (a := (.ref p0 0)) rfl rfl rfl (o_c tk false rfl (fun _ => rfl)) (wpdS_mv (a := (.fptr (c_api_Entry x1) 0)) rfl rfl rfl (o_c tk false rfl (fun _ => rfl)) (wpdS_mv (a := (eS x1.Key)) rfl rfl rfl (o_ld tk rfl rfl) ?_))))
 refine wpdS_cb H (fun x _ => .tup [e_api_Entry x.1, eB x.2.1]) rfl rfl rfl (fun v4 hv => h_callT hH [] 2 ((perm_at 1 rfl).trans (.cons _ ((perm_at 0 rfl).trans (.cons _ (.refl _))))) (fun g => [(0, (p0, [(eI v4.2.2.down_limit), (.fn (.func 24) [] []), (eT (g 0) 5 e_api_Entry v4.2.2.down_l), (eI v4.2.2.up_limit), (.fn (.func 25) [] []), (eT (g 1) 1 eS v4.2.2.up_l)]))]) (fun _ => ⟨⟨_, rfl⟩, trivial⟩) rfl rfl (.cons wr (.cons wr .nil)) (jobs_Queue_api_Entry_drop_ok hv _ (hH.at_ 0 rfl) (hH.pw [0] rfl (by decide)) (hH.open_ 1 rfl) (hH.open_ 0 rfl) (hH.tnin 1 0 rfl rfl (by decide)))) fun v4 tk5 τ hv4 H3 (hH : Holds (σ.shut [t_p0_down_l, t_p0_up_l]) [(p0, [(eI v4.2.2.down_limit), (.fn (.func 24) [] []), (eT (tk5 + 0) 5 e_api_Entry v4.2.2.down_l), (eI v4.2.2.up_limit), (.fn (.func 25) [] []), (eT (tk5 + 1) 1 eS v4.2.2.up_l)])] [(tk5 + 0), (tk5 + 1)] τ) => ?_
 refine wpdS_nil (awp_seq ?_)
 refine awp_drawS mixed [5] rfl (by decide +kernel) rfl rfl ?_
 refine wpdS_mv (a := (.ref p0 0)) rfl rfl rfl (o_mv tk rfl (Wk.refl _)) (wpdS_mv (a := (.ref p0 0)) rfl rfl rfl (o_c tk false rfl (fun _ => rfl)) (wpdS_mv (a := (.ref p0 0)) rfl rfl rfl (o_c tk false rfl (fun _ => rfl)) (wpdS_mv (a := (e_api_Entry x1)) rfl rfl rfl (o_ld tk rfl rfl) ?_)))
 refine wpdS_bd H3 e_api_Entry rfl rfl rfl (fun v7 hv => OpP.of_call rfl rfl (.cons wr .nil) (item_Copy_ok hv)) fun v7 hv7 H6 => ?_
 refine wpdS_cb H6 (fun x _ => eB x.1) rfl rfl rfl (fun v9 hv => h_callT hH [] 2 ((perm_at 0 rfl).trans (.cons _ ((perm_at 0 rfl).trans (.cons _ (.refl _))))) (fun g => [(0, (p0, [(eI v9.2.down_limit), (.fn (.func 24) [] []), (eT (g 0) 5 e_api_Entry v9.2.down_l), (eI v9.2.up_limit), (.fn (.func 25) [] []), (eT (g 1) 1 eS v9.2.up_l)]))]) (fun _ => ⟨⟨_, rfl⟩, trivial⟩) rfl rfl (.cons wr (.cons wr .nil)) (jobs_Queue_api_Entry_push_ok hv _ (hH.at_ 0 rfl) (hH.pw [0] rfl (by decide)) (hH.open_ 0 rfl) (hH.open_ 1 rfl) (hH.tnin 0 1 rfl rfl (by decide)))) fun v9 tk10 τ hv9 H8 (hH : Holds (σ.shut [t_p0_down_l, t_p0_up_l]) [(p0, [(eI v9.2.down_limit), (.fn (.func 24) [] []), (eT (tk10 + 0) 5 e_api_Entry v9.2.down_l), (eI v9.2.up_limit), (.fn (.func 25) [] []), (eT (tk10 + 1) 1 eS v9.2.up_l)])] [(tk10 + 0), (tk10 + 1)] τ) => ?_
 refine wpdS_mv (a := (eB v9.1)) rfl rfl rfl (o_as tk rfl (Wk.refl _)) (wpdS_nil (awp_ret ?_))
 obtain rfl := oi H8
 exact ⟨_, (eB v9.1), rfl, wr, rfl, fun i => [(tk10 + 0), (tk10 + 1)].getD i 0, (hH.tpick [0, 1] rfl (by decide))⟩
theorem R02_Same_ok {x0 : List (BitVec 8)} {x1 : List (BitVec 8)} {r : Bool} (H : R02_Same x0 x1 = some r) (σ : St)  : ACall Tryd.prog 38 [((eL 1 (@eU .u8 8)) x0), ((eL 1 (@eU .u8 8)) x1)] σ (fun a τ => a = eB r ∧ τ = σ) := by
 unfold R02_Same at H
 refine ACall.pure (acall_start tk Tryd.func38 (by decide) rfl (nb rfl) ?_)
 have hH := Holds.init σ
 refine sr rfl (ma tk (eB false) rfl rfl (wpo_nil (awp_seq (sr rfl (mm tk ((eL 1 (@eU .u8 8)) x0) rfl rfl ?_)))))
 refine l_ H eI rfl (o_len tk td40 rfl) fun v2 H1 => ?_
 refine mm tk ((eL 1 (@eU .u8 8)) x1) rfl rfl ?_
 refine l_ H1 eI rfl (o_len tk td40 rfl) fun v4 H3 => ?_
 refine l_ H3 eB rfl (o_ar tk rfl rfl rfl) fun v6 H5 => ?_
 refine wpo_nil ?_
 refine awp_if H5 rfl (fun H7 => ?_) (fun H7 => ?_)
 ·refine sr rfl (ma tk (eB false) rfl rfl (wpo_nil (awp_ret ?_)))
  obtain rfl := oi H7
  exact ⟨_, (eB false), rfl, wr, .of_eq ((enc_b td4 sz4).cut _ _ _), hH.noT⟩
 ·refine awp_skip (awp_seq (sr rfl (ma tk (eI (0 : Int)) rfl rfl (wpo_nil (awp_block ?_)))))
  obtain ⟨o9, hs10, hj11⟩ := ob H7
  refine awp_cutx 0 (fun fr τ => ∃ s16 : Unit, o9 = .inl s16 ∧ WkF fr (fm []) ∧ Holds σ [] [] τ) ?_ ?_
  ·rintro fr τ ⟨s16, rfl, hfr, hH⟩
   have H33 := hj11
   simp only [Sum.elim_inl] at H33
   refine AWP.fm [] hfr ?_
   refine sr rfl (ma tk (eB true) rfl rfl (wpo_nil (awp_ret ?_)))
   obtain rfl := oi H33
   exact ⟨_, (eB true), rfl, wr, .of_eq ((enc_b td4 sz4).cut _ _ _), hH.noT⟩
  ·refine awp_loopO (body := fun s => R02_Same_b0 x0 x1 s) hs10 (fun (s : Int) fr τ => WkF fr (fm [(0, ((eL 1 (@eU .u8 8)) x0)), (1, ((eL 1 (@eU .u8 8)) x1)), (5, (eI s))]) ∧ Holds σ [] [] τ) ⟨(wc (wc (wc (wkf_nil _)))), hH⟩ ?_
   rintro c8 fr τ y12 ⟨hfr, hH⟩ hb14 hy15
   have H17 : R02_Same_b0 x0 x1 c8 = some y12 := hb14
   unfold R02_Same_b0 at H17
   refine AWP.fm [(0, ((eL 1 (@eU .u8 8)) x0)), (1, ((eL 1 (@eU .u8 8)) x1)), (5, (eI c8))] hfr ?_
   have hH : Holds σ [] [] τ := hH
   refine awp_seq (sr rfl (mm tk (eI c8) rfl rfl (mm tk ((eL 1 (@eU .u8 8)) x0) rfl rfl ?_)))
   refine l_ H17 eI rfl (o_len tk td40 rfl) fun v19 H18 => ?_
   refine l_ H18 eB rfl (o_ar tk rfl rfl rfl) fun v21 H20 => ?_
   refine wpo_nil ?_
   refine awp_if H20 rfl (fun H22 => ?_) (fun H22 => ?_)
   ·refine awp_skip (awp_seq (awp_block (awp_seq ?_)))
    refine awp_drawS mixed [] rfl (by decide +kernel) rfl rfl ?_
    refine wpdS_mv (a := ((eL 1 (@eU .u8 8)) x0)) rfl rfl rfl (o_mv tk rfl (Wk.refl _)) (wpdS_mv (a := (eI c8)) rfl rfl rfl (o_mv tk rfl (Wk.refl _)) ?_)
    refine wpdS_bd H22 (fun y => .fptr ((@eU .u8 8) y).cells 0) rfl rfl rfl (fun v24 hv => o_ixa tk hv td40 (enc_u td5 sz5) rfl rfl) fun v24 hv24 H23 => ?_
    refine wpdS_mv (a := ((@eU .u8 8) v24)) rfl rfl rfl (o_ld_e tk (enc_u td5 sz5) rfl rfl) (wpdS_mv (a := ((eL 1 (@eU .u8 8)) x1)) rfl rfl rfl (o_mv tk rfl (Wk.refl _)) (wpdS_mv (a := (eI c8)) rfl rfl rfl (o_mv tk rfl (Wk.refl _)) ?_))
    refine wpdS_bd H23 (fun y => .fptr ((@eU .u8 8) y).cells 0) rfl rfl rfl (fun v26 hv => o_ixa tk hv td40 (enc_u td5 sz5) rfl rfl) fun v26 hv26 H25 => ?_
    refine wpdS_mv (a := ((@eU .u8 8) v26)) rfl rfl rfl (o_ld_e tk (enc_u td5 sz5) rfl rfl) ?_
    refine wpdS_lt H25 eB rfl rfl rfl (o_neq_u tk rfl rfl) fun v28 H27 => ?_
    refine wpdS_nil ?_
    refine awp_if H27 rfl (fun H29 => ?_) (fun H29 => ?_)
    ·refine sr rfl (ma tk (eB false) rfl rfl (wpo_nil (awp_ret ?_)))
     have hz := hy15 _ (inj_inr H29)
     refine ⟨⟨_, inj_inr H29⟩, ?_⟩
     rw [← hz] at hj11
     have H30 := (show some _ = some _ from hj11)
     obtain rfl := oi H30
     exact ⟨_, (eB false), rfl, wr, .of_eq ((enc_b td4 sz4).cut _ _ _), hH.noT⟩
    ·refine awp_skip (awp_region rfl (mm tk (eI c8) rfl rfl ?_))
     refine l_ H29 eI rfl (o_ar tk rfl rfl rfl) fun v32 H31 => ?_
     refine ma tk (eI v32) rfl rfl (wpo_nil ?_)
     exact ⟨v32, inj_inl H31, (wc (wc (wc (wkf_nil _)))), hH⟩
   ·refine awp_exit ?_
    have hz := hy15 _ (inj_inr H22)
    exact ⟨⟨_, inj_inr H22⟩, (), hz.symm, (wkf_nil _), hH⟩
theorem R06_Same_ok {x0 : api_Entry} {x1 : api_Entry} {r : Bool} (H : R06_Same x0 x1 = some r) (σ : St)  : ACall Tryd.prog 17 [(e_api_Entry x0), (e_api_Entry x1)] σ (fun a τ => a = eB r ∧ τ = σ) := by
 unfold R06_Same at H
 refine ACall.pure (acall_start tk Tryd.func17 (by decide) rfl (nb rfl) ?_)
 have hH := Holds.init σ
 refine sr rfl (m_ (.fptr (c_api_Entry x0) 0) rfl (o_boxf tk rfl wr (b := (e_api_Entry x0)) (enc42.flat _)) (m_ (.fptr (c_api_Entry x1) 0) rfl (o_boxf tk rfl wr (b := (e_api_Entry x1)) (enc42.flat _)) (ma tk (eB false) rfl rfl (wpo_nil (sr rfl (mc tk (.fptr (c_api_Entry x0) 0) rfl rfl (fun _ => rfl) (m_ (eS x0.Key) rfl (o_ld tk rfl rfl) (mc tk (.fptr (c_api_Entry x1) 0) rfl rfl (fun _ => rfl) ?_))))))))
 refine m_ (eS x1.Key) rfl (o_ld tk rfl rfl) ?_
 refine l_ H eB rfl (o_eql_s tk rfl rfl) fun v2 H1 => ?_
 refine mm tk (eB v2) rfl rfl ?_
 refine if_split H1 (fun hb H3 => ?_) (fun hb H3 => ?_)
 ·subst hb
  refine mc tk (.fptr (c_api_Entry x0) 1) rfl rfl (fun _ => rfl) (m_ (eI x0.Version) rfl (o_ld tk rfl rfl) (mc tk (.fptr (c_api_Entry x1) 1) rfl rfl (fun _ => rfl) (m_ (eI x1.Version) rfl (o_ld tk rfl rfl) ?_)))
  refine l_ H3 eB rfl (o_ar tk rfl rfl rfl) fun v5 H4 => ?_
  refine pt tk (eB v5) rfl rfl rfl (mm tk (eB v5) rfl rfl ?_)
  refine if_split H4 (fun hb H6 => ?_) (fun hb H6 => ?_)
  ·subst hb
   refine mc tk (.fptr (c_api_Entry x0) 2) rfl rfl (fun _ => rfl) (m_ (eI x0.AsOf) rfl (o_ld tk rfl rfl) (mc tk (.fptr (c_api_Entry x1) 2) rfl rfl (fun _ => rfl) (m_ (eI x1.AsOf) rfl (o_ld tk rfl rfl) ?_)))
   refine l_ H6 eB rfl (o_ar tk rfl rfl rfl) fun v8 H7 => ?_
   refine pt tk (eB v8) rfl rfl rfl (mm tk (eB v8) rfl rfl ?_)
   refine if_split H7 (fun hb H9 => ?_) (fun hb H9 => ?_)
   ·subst hb
    refine mc tk (.fptr (c_api_Entry x0) 3) rfl rfl (fun _ => rfl) (m_ (eI x0.Ends) rfl (o_ld tk rfl rfl) (mc tk (.fptr (c_api_Entry x1) 3) rfl rfl (fun _ => rfl) (m_ (eI x1.Ends) rfl (o_ld tk rfl rfl) ?_)))
    refine l_ H9 eB rfl (o_ar tk rfl rfl rfl) fun v11 H10 => ?_
    refine pt tk (eB v11) rfl rfl rfl (mm tk (eB v11) rfl rfl ?_)
    refine if_split H10 (fun hb H12 => ?_) (fun hb H12 => ?_)
    ·subst hb
     refine mc tk (.fptr (c_api_Entry x0) 4) rfl rfl (fun _ => rfl) (m_ ((eL 1 (@eU .u8 8)) x0.Value) rfl (o_ld tk rfl rfl) (mc tk (.fptr (c_api_Entry x1) 4) rfl rfl (fun _ => rfl) (m_ ((eL 1 (@eU .u8 8)) x1.Value) rfl (o_ld tk rfl rfl) ?_)))
     refine b_ H12 eB rfl (fun v14 hv => OpP.of_call rfl rfl (.cons wr (.cons wr .nil)) (R02_Same_ok hv)) fun v14 hv14 H13 => ?_
     refine pt tk (eB v14) rfl rfl rfl (ma tk (eB v14) rfl rfl (wpo_nil (awp_ret ?_)))
     obtain rfl := oi H13
     exact ⟨_, (eB v14), rfl, wr, .of_eq ((enc_b td4 sz4).cut _ _ _), hH.noT⟩
    ·subst hb
     refine k_ rfl (k_ rfl (k_ rfl (k_ rfl (k_ rfl (pf tk (eB false) rfl rfl rfl (ma tk (eB false) rfl rfl (wpo_nil (awp_ret ?_))))))))
     obtain rfl := oi H12
     exact ⟨_, (eB false), rfl, wr, .of_eq ((enc_b td4 sz4).cut _ _ _), hH.noT⟩
   ·subst hb
    refine k_ rfl (k_ rfl (k_ rfl (k_ rfl (k_ rfl (pf tk (eB false) rfl rfl rfl (mm tk (eB false) rfl rfl (k_ rfl (k_ rfl ?_))))))))
    refine k_ rfl (k_ rfl (k_ rfl (pf tk (eB false) rfl rfl rfl (ma tk (eB false) rfl rfl (wpo_nil (awp_ret ?_))))))
    obtain rfl := oi H9
    exact ⟨_, (eB false), rfl, wr, .of_eq ((enc_b td4 sz4).cut _ _ _), hH.noT⟩
  ·subst hb
   refine k_ rfl (k_ rfl (k_ rfl (k_ rfl (k_ rfl (pf tk (eB false) rfl rfl rfl (mm tk (eB false) rfl rfl (k_ rfl (k_ rfl ?_))))))))
   refine k_ rfl (k_ rfl (k_ rfl (pf tk (eB false) rfl rfl rfl (mm tk (eB false) rfl rfl (k_ rfl (k_ rfl (k_ rfl (k_ rfl ?_))))))))
   refine k_ rfl (pf tk (eB false) rfl rfl rfl (ma tk (eB false) rfl rfl (wpo_nil (awp_ret ?_))))
   obtain rfl := oi H6
   exact ⟨_, (eB false), rfl, wr, .of_eq ((enc_b td4 sz4).cut _ _ _), hH.noT⟩
 ·subst hb
  refine k_ rfl (k_ rfl (k_ rfl (k_ rfl (k_ rfl (pf tk (eB false) rfl rfl rfl (mm tk (eB false) rfl rfl (k_ rfl (k_ rfl ?_))))))))
  refine k_ rfl (k_ rfl (k_ rfl (pf tk (eB false) rfl rfl rfl (mm tk (eB false) rfl rfl (k_ rfl (k_ rfl (k_ rfl (k_ rfl ?_))))))))
  refine k_ rfl (pf tk (eB false) rfl rfl rfl (mm tk (eB false) rfl rfl (k_ rfl (k_ rfl (k_ rfl (k_ rfl (k_ rfl (pf tk (eB false) rfl rfl rfl ?_))))))))
  refine ma tk (eB false) rfl rfl (wpo_nil (awp_ret ?_))
  obtain rfl := oi H3
  exact ⟨_, (eB false), rfl, wr, .of_eq ((enc_b td4 sz4).cut _ _ _), hH.noT⟩
theorem jobs_Queue_api_Entry_pop_ok {x0 : jobs_Jobs} {r : api_Entry × Bool × jobs_Jobs} (H : jobs_Queue_api_Entry_pop x0 = some r) (σ : St) {p0 : Nat} {t_p0_down_l t_p0_up_l : Nat} (h0 : σ.objs[p0]? = some [(eI x0.down_limit), (.fn (.func 24) [] []), (eT t_p0_down_l 5 e_api_Entry x0.down_l), (eI x0.up_limit), (.fn (.func 25) [] []), (eT t_p0_up_l 1 eS x0.up_l)]) (hd : [p0].Pairwise fun a b => a ≠ b) (ho_p0_down_l : σ.opn[t_p0_down_l]? = some true) (ho_p0_up_l : σ.opn[t_p0_up_l]? = some true) (hn_p0_up_l : t_p0_up_l ∉ [t_p0_down_l]) : ACall Tryd.prog 39 [(.ref p0 0)] σ (fun a τ => a = .tup [e_api_Entry r.1, eB r.2.1] ∧ τ = σ.grow [(p0, [(eI r.2.2.down_limit), (.fn (.func 24) [] []), (eT (σ.opn.length + 0) 5 e_api_Entry r.2.2.down_l), (eI r.2.2.up_limit), (.fn (.func 25) [] []), (eT (σ.opn.length + 1) 1 eS r.2.2.up_l)])] [] [t_p0_down_l, t_p0_up_l] 2) := by
 unfold jobs_Queue_api_Entry_pop at H
 refine ACall.outT (B := fun g => [(p0, [(eI r.2.2.down_limit), (.fn (.func 24) [] []), (eT (g 0) 5 e_api_Entry r.2.2.down_l), (eI r.2.2.up_limit), (.fn (.func 25) [] []), (eT (g 1) 1 eS r.2.2.up_l)])]) [t_p0_down_l, t_p0_up_l] 2 (fun ρ κ => by simp only [cutAV, cutL, enc42.cut ρ κ, (enc_b td4 sz4).cut ρ κ]) (by intro g; simp only [List.mem_cons, List.not_mem_nil, or_false]; rintro _ rfl; exact (List.getElem?_eq_some_iff.1 h0).1) (fun ρ κ g g1 h2 h3 => .cons rfl (.cons (.of_eq ((enc_i64 td3 sz3).cut ρ κ _)) (.cons wr (.cons (.of_eq (cut_eT enc42.cut (h2 0 (by decide)) _)) (.cons (.of_eq ((enc_i64 td3 sz3).cut ρ κ _)) (.cons wr (.cons (.of_eq (cut_eT (enc_s td9 sz9).cut (h2 1 (by decide)) _)) .nil)))))) .nil) (acall_start tk Tryd.func39 (by decide) rfl (nb rfl) ?_)
 have hH := Holds.brings (σ := σ) [(p0, [(eI x0.down_limit), (.fn (.func 24) [] []), (eT t_p0_down_l 5 e_api_Entry x0.down_l), (eI x0.up_limit), (.fn (.func 25) [] []), (eT t_p0_up_l 1 eS x0.up_l)])] (by simp only [List.mem_cons, List.not_mem_nil, or_false]; rintro _ (rfl) <;> assumption) hd
 refine AWP.reT hH 0 2 rfl rfl ho_p0_down_l fun tk1 τ (hH : Holds (σ.shut [t_p0_down_l]) [(p0, [(eI x0.down_limit), (.fn (.func 24) [] []), (eT tk1 5 e_api_Entry x0.down_l), (eI x0.up_limit), (.fn (.func 25) [] []), (eT t_p0_up_l 1 eS x0.up_l)])] [tk1] τ) => ?_
 refine AWP.reT hH 0 5 rfl rfl (shut_in [t_p0_down_l] _ _ ho_p0_up_l hn_p0_up_l) fun tk2 τ (hH : Holds (σ.shut [t_p0_down_l, t_p0_up_l]) [(p0, [(eI x0.down_limit), (.fn (.func 24) [] []), (eT tk1 5 e_api_Entry x0.down_l), (eI x0.up_limit), (.fn (.func 25) [] []), (eT tk2 1 eS x0.up_l)])] [tk2, tk1] τ) => ?_
 refine sr rfl ?_
 refine wpo_a (av := fun id => .ref id 0) rfl rfl rfl (h_alloc tk hH ty42 [(eS z_api_Entry.Key), (eI z_api_Entry.Version), (eI z_api_Entry.AsOf), (eI z_api_Entry.Ends), AV.nils] rfl) fun id3 τ ⟨hH, n4⟩ => ?_
 refine ma tk (eB false) rfl rfl (wpo_nil (awp_seq (sr rfl (mm tk (.ref p0 0) rfl rfl (mc tk (.ref p0 0) rfl rfl (fun _ => rfl) (mc tk (.ref p0 2) rfl rfl (fun _ => rfl) (wpo_rd (a := (eT tk1 5 e_api_Entry x0.down_l)) rfl rfl rfl (h_ld tk hH 1 rfl rfl rfl) ?_)))))))
 refine l_ H eI rfl (o_len tk td30 rfl) fun v6 H5 => ?_
 refine l_ H5 eB rfl (o_ar tk rfl rfl rfl) fun v8 H7 => ?_
 refine wpo_nil ?_
 refine awp_if H7 rfl (fun H9 => ?_) (fun H9 => ?_)
 ·refine sr rfl ?_
  refine wpo_a (av := fun id => .ref id 0) rfl rfl rfl (h_alloc tk hH ty42 [(eS z_api_Entry.Key), (eI z_api_Entry.Version), (eI z_api_Entry.AsOf), (eI z_api_Entry.Ends), AV.nils] rfl) fun id10 τ ⟨hH, n11⟩ => ?_
  refine mc tk (.ref id10 0) rfl rfl (fun _ => rfl) (wpo_rd (a := (.agg [(eS z_api_Entry.Key), (eI z_api_Entry.Version), (eI z_api_Entry.AsOf), (eI z_api_Entry.Ends), AV.nils])) rfl rfl rfl (h_ld tk hH 0 rfl rfl rfl) ?_)
  refine wpo_z rfl rfl (h_st (y := (.agg [(eS z_api_Entry.Key), (eI z_api_Entry.Version), (eI z_api_Entry.AsOf), (eI z_api_Entry.Ends), AV.nils])) tk hH 1 rfl ty42 (by simp) rfl rfl wr (b := (.agg [(eS z_api_Entry.Key), (eI z_api_Entry.Version), (eI z_api_Entry.AsOf), (eI z_api_Entry.Ends), AV.nils])) rfl rfl (nb rfl) [(eS (z_api_Entry : api_Entry).Key), (eI (z_api_Entry : api_Entry).Version), (eI (z_api_Entry : api_Entry).AsOf), (eI (z_api_Entry : api_Entry).Ends), AV.nils] rfl) fun τ hH => ?_
  refine ma tk (eB false) rfl rfl (wpo_nil (awp_ret ?_))
  obtain rfl := oi H9
  exact ⟨_, (.tup [(e_api_Entry (z_api_Entry : api_Entry)), (eB false)]), (ares_2 (ares_cell hH 1 rfl rfl rfl) rfl), (wk_tup (.cons (wk_agg (.cons wr (.cons wr (.cons wr (.cons wr (.cons (wk_nils _) .nil)))))) (.cons wr .nil))), rfl, fun i => [tk1, tk2].getD i 0, (((hH.drop n11).drop n4).tpick [1, 0] rfl (by decide))⟩
 ·refine awp_skip (sr rfl (mm tk (.ref p0 0) rfl rfl (mc tk (.ref p0 0) rfl rfl (fun _ => rfl) (mc tk (.ref p0 2) rfl rfl (fun _ => rfl) (wpo_rd (a := (eT tk1 5 e_api_Entry x0.down_l)) rfl rfl rfl (h_ld tk hH 1 rfl rfl rfl) ?_)))))
  refine b_ H9 (fun y => .fptr (e_api_Entry y).cells 0) rfl (fun v14 hv => o_ixa tk hv td30 enc42 rfl rfl) fun v14 hv14 H13 => ?_
  refine m_ (e_api_Entry v14) rfl (o_ld_e tk enc42 rfl rfl) ?_
  refine wpo_a (av := fun id => .ref id 0) rfl rfl rfl (h_alloc tk hH ty42 [(eS z_api_Entry.Key), (eI z_api_Entry.Version), (eI z_api_Entry.AsOf), (eI z_api_Entry.Ends), AV.nils] rfl) fun id15 τ ⟨hH, n16⟩ => ?_
  refine wpo_z rfl rfl (h_st tk hH 0 rfl ty42 (by simp) rfl rfl wr (b := (e_api_Entry v14)) (enc42.flat _) rfl (nb rfl) (c_api_Entry (v14 : api_Entry)) rfl) fun τ hH => ?_
  refine wpo_nil (sr rfl (mm tk (.ref p0 0) rfl rfl (mm tk (.ref p0 0) rfl rfl (mc tk (.ref p0 0) rfl rfl (fun _ => rfl) (mc tk (.ref p0 2) rfl rfl (fun _ => rfl) (wpo_rd (a := (eT tk1 5 e_api_Entry x0.down_l)) rfl rfl rfl (h_ld tk hH 2 rfl rfl rfl) ?_))))))
  refine b_ H13 (eT tk1 5 e_api_Entry) rfl (fun v19 hv => o_cutFromT tk hv td30 enc42 rfl rfl) fun v19 hv19 H18 => ?_
  refine mc tk (.ref p0 0) rfl rfl (fun _ => rfl) (mc tk (.ref p0 2) rfl rfl (fun _ => rfl) ?_)
  refine wpo_z rfl rfl (h_st (y := (eT tk1 5 e_api_Entry v19)) tk hH 2 rfl ty30 (by simp) rfl rfl wr (b := (eT tk1 5 e_api_Entry v19)) rfl rfl (nb rfl) [(eI ({ x0 with down_l := v19 } : jobs_Jobs).down_limit), (.fn (.func 24) [] []), (eT tk1 5 e_api_Entry ({ x0 with down_l := v19 } : jobs_Jobs).down_l), (eI ({ x0 with down_l := v19 } : jobs_Jobs).up_limit), (.fn (.func 25) [] []), (eT tk2 1 eS ({ x0 with down_l := v19 } : jobs_Jobs).up_l)] rfl) fun τ hH => ?_
  refine wpo_nil (sr rfl (wpo_rd (a := (e_api_Entry (v14 : api_Entry))) rfl rfl rfl (h_ld tk hH 0 rfl rfl rfl) ?_))
  refine wpo_z rfl rfl (h_st tk hH 1 rfl ty42 (by simp) rfl rfl wr (b := (e_api_Entry (v14 : api_Entry))) (enc42.flat _) rfl (nb rfl) (c_api_Entry ((v14 : api_Entry) : api_Entry)) rfl) fun τ hH => ?_
  refine ma tk (eB true) rfl rfl (wpo_nil (awp_ret ?_))
  obtain rfl := oi H18
  exact ⟨_, (.tup [(e_api_Entry ((v14 : api_Entry) : api_Entry)), (eB true)]), (ares_2 (ares_cell hH 1 rfl rfl rfl) rfl), (wk_tup (.cons wr (.cons wr .nil))), rfl, fun i => [tk1, tk2].getD i 0, (((hH.drop n16).drop n4).tpick [1, 0] rfl (by decide))⟩
theorem jobs_Jobs_Pop_ok {x0 : jobs_Jobs} {r : api_Entry × Bool × jobs_Jobs} (H : jobs_Jobs_Pop x0 = some r) (σ : St) {p0 : Nat} {t_p0_down_l t_p0_up_l : Nat} (h0 : σ.objs[p0]? = some [(eI x0.down_limit), (.fn (.func 24) [] []), (eT t_p0_down_l 5 e_api_Entry x0.down_l), (eI x0.up_limit), (.fn (.func 25) [] []), (eT t_p0_up_l 1 eS x0.up_l)]) (hd : [p0].Pairwise fun a b => a ≠ b) (ho_p0_down_l : σ.opn[t_p0_down_l]? = some true) (ho_p0_up_l : σ.opn[t_p0_up_l]? = some true) (hn_p0_up_l : t_p0_up_l ∉ [t_p0_down_l]) : ACall Tryd.prog 19 [(.ref p0 0)] σ (fun a τ => a = .tup [e_api_Entry r.1, eB r.2.1] ∧ τ = σ.grow [(p0, [(eI r.2.2.down_limit), (.fn (.func 24) [] []), (eT (σ.opn.length + 0) 5 e_api_Entry r.2.2.down_l), (eI r.2.2.up_limit), (.fn (.func 25) [] []), (eT (σ.opn.length + 1) 1 eS r.2.2.up_l)])] [] [t_p0_down_l, t_p0_up_l] 2) := by
 unfold jobs_Jobs_Pop at H
 refine ACall.outT (B := fun g => [(p0, [(eI r.2.2.down_limit), (.fn (.func 24) [] []), (eT (g 0) 5 e_api_Entry r.2.2.down_l), (eI r.2.2.up_limit), (.fn (.func 25) [] []), (eT (g 1) 1 eS r.2.2.up_l)])]) [t_p0_down_l, t_p0_up_l] 2 (fun ρ κ => by simp only [cutAV, cutL, enc42.cut ρ κ, (enc_b td4 sz4).cut ρ κ]) (by intro g; simp only [List.mem_cons, List.not_mem_nil, or_false]; rintro _ rfl; exact (List.getElem?_eq_some_iff.1 h0).1) (fun ρ κ g g1 h2 h3 => .cons rfl (.cons (.of_eq ((enc_i64 td3 sz3).cut ρ κ _)) (.cons wr (.cons (.of_eq (cut_eT enc42.cut (h2 0 (by decide)) _)) (.cons (.of_eq ((enc_i64 td3 sz3).cut ρ κ _)) (.cons wr (.cons (.of_eq (cut_eT (enc_s td9 sz9).cut (h2 1 (by decide)) _)) .nil)))))) .nil) (acall_start tk Tryd.func19 (by decide) rfl (nb rfl) ?_)
 have hH := Holds.brings (σ := σ) [(p0, [(eI x0.down_limit), (.fn (.func 24) [] []), (eT t_p0_down_l 5 e_api_Entry x0.down_l), (eI x0.up_limit), (.fn (.func 25) [] []), (eT t_p0_up_l 1 eS x0.up_l)])] (by simp only [List.mem_cons, List.not_mem_nil, or_false]; rintro _ (rfl) <;> assumption) hd
 refine AWP.reT hH 0 2 rfl rfl ho_p0_down_l fun tk1 τ (hH : Holds (σ.shut [t_p0_down_l]) [(p0, [(eI x0.down_limit), (.fn (.func 24) [] []), (eT tk1 5 e_api_Entry x0.down_l), (eI x0.up_limit), (.fn (.func 25) [] []), (eT t_p0_up_l 1 eS x0.up_l)])] [tk1] τ) => ?_
 refine AWP.reT hH 0 5 rfl rfl (shut_in [t_p0_down_l] _ _ ho_p0_up_l hn_p0_up_l) fun tk2 τ (hH : Holds (σ.shut [t_p0_down_l, t_p0_up_l]) [(p0, [(eI x0.down_limit), (.fn (.func 24) [] []), (eT tk1 5 e_api_Entry x0.down_l), (eI x0.up_limit), (.fn (.func 25) [] []), (eT tk2 1 eS x0.up_l)])] [tk2, tk1] τ) => ?_
 refine sr rfl ?_
 refine wpo_a (av := fun id => .ref id 0) rfl rfl rfl (h_alloc tk hH ty42 [(eS z_api_Entry.Key), (eI z_api_Entry.Version), (eI z_api_Entry.AsOf), (eI z_api_Entry.Ends), AV.nils] rfl) fun id3 τ ⟨hH, n4⟩ => ?_
 refine ma tk (eB false) rfl rfl (wpo_nil (sr rfl (mm tk (.ref p0 0) rfl rfl (mc tk (.ref p0 0) rfl rfl (fun _ => rfl) (mc tk (.ref p0 0) rfl rfl (fun _ => rfl) ?_)))))
 refine wpo_cb H (fun x _ => .tup [e_api_Entry x.1, eB x.2.1]) rfl rfl rfl (fun v6 hv => h_callT hH [] 2 ((perm_at 1 rfl).trans (.cons _ ((perm_at 0 rfl).trans (.cons _ (.refl _))))) (fun g => [(1, (p0, [(eI v6.2.2.down_limit), (.fn (.func 24) [] []), (eT (g 0) 5 e_api_Entry v6.2.2.down_l), (eI v6.2.2.up_limit), (.fn (.func 25) [] []), (eT (g 1) 1 eS v6.2.2.up_l)]))]) (fun _ => ⟨⟨_, rfl⟩, trivial⟩) rfl rfl (.cons wr .nil) (jobs_Queue_api_Entry_pop_ok hv _ (hH.at_ 1 rfl) (hH.pw [1] rfl (by decide)) (hH.open_ 1 rfl) (hH.open_ 0 rfl) (hH.tnin 1 0 rfl rfl (by decide)))) fun v6 tk7 τ hv6 H5 (hH : Holds (σ.shut [t_p0_down_l, t_p0_up_l]) [(id3, [(eS z_api_Entry.Key), (eI z_api_Entry.Version), (eI z_api_Entry.AsOf), (eI z_api_Entry.Ends), AV.nils]), (p0, [(eI v6.2.2.down_limit), (.fn (.func 24) [] []), (eT (tk7 + 0) 5 e_api_Entry v6.2.2.down_l), (eI v6.2.2.up_limit), (.fn (.func 25) [] []), (eT (tk7 + 1) 1 eS v6.2.2.up_l)])] [(tk7 + 0), (tk7 + 1)] τ) => ?_
 refine m_ (e_api_Entry v6.1) rfl (o_ext tk rfl rfl) (m_ (eB v6.2.1) rfl (o_ext tk rfl rfl) ?_)
 refine wpo_z rfl rfl (h_st tk hH 0 rfl ty42 (by simp) rfl rfl wr (b := (e_api_Entry v6.1)) (enc42.flat _) rfl (nb rfl) (c_api_Entry (v6.1 : api_Entry)) rfl) fun τ hH => ?_
 refine ma tk (eB v6.2.1) rfl rfl (wpo_nil (awp_ret ?_))
 obtain rfl := oi H5
 exact ⟨_, (.tup [(e_api_Entry (v6.1 : api_Entry)), (eB v6.2.1)]), (ares_2 (ares_cell hH 0 rfl rfl rfl) rfl), (wk_tup (.cons wr (.cons wr .nil))), rfl, fun i => [(tk7 + 0), (tk7 + 1)].getD i 0, ((hH.drop n4).tpick [0, 1] rfl (by decide))⟩
theorem jobs_Jobs_Find_ok {x0 : jobs_Jobs} {x1 : List (BitVec 8)} {r : api_Entry × Bool} (H : jobs_Jobs_Find x0 x1 = some r) (σ : St) {p0 : Nat} {t_p0_down_l t_p0_up_l : Nat} (h0 : σ.objs[p0]? = some [(eI x0.down_limit), (.fn (.func 24) [] []), (eT t_p0_down_l 5 e_api_Entry x0.down_l), (eI x0.up_limit), (.fn (.func 25) [] []), (eT t_p0_up_l 1 eS x0.up_l)]) (hd : [p0].Pairwise fun a b => a ≠ b) : ACall Tryd.prog 20 [(.ref p0 0), (eS x1)] σ (fun a τ => a = .tup [e_api_Entry r.1, eB r.2] ∧ τ = σ) := by
 unfold jobs_Jobs_Find at H
 refine ACall.pure (acall_start tk Tryd.func20 (by decide) rfl (nb rfl) ?_)
 have hH := Holds.brings (σ := σ) [(p0, [(eI x0.down_limit), (.fn (.func 24) [] []), (eT t_p0_down_l 5 e_api_Entry x0.down_l), (eI x0.up_limit), (.fn (.func 25) [] []), (eT t_p0_up_l 1 eS x0.up_l)])] (by simp only [List.mem_cons, List.not_mem_nil, or_false]; rintro _ (rfl) <;> assumption) hd
 refine sr rfl ?_
 refine wpo_a (av := fun id => .ref id 0) rfl rfl rfl (h_alloc tk hH ty42 [(eS z_api_Entry.Key), (eI z_api_Entry.Version), (eI z_api_Entry.AsOf), (eI z_api_Entry.Ends), AV.nils] rfl) fun id1 τ ⟨hH, n2⟩ => ?_
 refine ma tk (eB false) rfl rfl (wpo_nil (sr rfl (mm tk (.ref p0 0) rfl rfl (mc tk (.ref p0 0) rfl rfl (fun _ => rfl) (mc tk (.ref p0 0) rfl rfl (fun _ => rfl) (mm tk (eS x1) rfl rfl ?_))))))
 refine wpo_bdr H eI rfl rfl rfl (fun v4 hv => h_callr rfl rfl (.cons wr (.cons wr .nil)) (jobs_Queue_api_Entry_find_ok hv _ (hH.at_ 1 rfl) (hH.pw [1] rfl (by decide)))) fun v4 hv4 H3 => ?_
 refine ma tk (eI v4) rfl rfl (wpo_nil (awp_seq (sr rfl (mm tk (eI v4) rfl rfl ?_))))
 refine l_ H3 eB rfl (o_ar tk rfl rfl rfl) fun v6 H5 => ?_
 refine wpo_nil ?_
 refine awp_if H5 rfl (fun H7 => ?_) (fun H7 => ?_)
 ·refine sr rfl (mc tk (.agg [(eS (⟨([] : List (BitVec 8)), (0 : Int), (0 : Int), (0 : Int), ([] : List (BitVec 8))⟩ : api_Entry).Key), (eI (⟨([] : List (BitVec 8)), (0 : Int), (0 : Int), (0 : Int), ([] : List (BitVec 8))⟩ : api_Entry).Version), (eI (⟨([] : List (BitVec 8)), (0 : Int), (0 : Int), (0 : Int), ([] : List (BitVec 8))⟩ : api_Entry).AsOf), (eI (⟨([] : List (BitVec 8)), (0 : Int), (0 : Int), (0 : Int), ([] : List (BitVec 8))⟩ : api_Entry).Ends), AV.nils]) rfl rfl (fun _ => rfl) ?_)
  refine wpo_z rfl rfl (h_st (y := (.agg [(eS (⟨([] : List (BitVec 8)), (0 : Int), (0 : Int), (0 : Int), ([] : List (BitVec 8))⟩ : api_Entry).Key), (eI (⟨([] : List (BitVec 8)), (0 : Int), (0 : Int), (0 : Int), ([] : List (BitVec 8))⟩ : api_Entry).Version), (eI (⟨([] : List (BitVec 8)), (0 : Int), (0 : Int), (0 : Int), ([] : List (BitVec 8))⟩ : api_Entry).AsOf), (eI (⟨([] : List (BitVec 8)), (0 : Int), (0 : Int), (0 : Int), ([] : List (BitVec 8))⟩ : api_Entry).Ends), AV.nils])) tk hH 0 rfl ty42 (by simp) rfl rfl wr (b := (.agg [(eS (⟨([] : List (BitVec 8)), (0 : Int), (0 : Int), (0 : Int), ([] : List (BitVec 8))⟩ : api_Entry).Key), (eI (⟨([] : List (BitVec 8)), (0 : Int), (0 : Int), (0 : Int), ([] : List (BitVec 8))⟩ : api_Entry).Version), (eI (⟨([] : List (BitVec 8)), (0 : Int), (0 : Int), (0 : Int), ([] : List (BitVec 8))⟩ : api_Entry).AsOf), (eI (⟨([] : List (BitVec 8)), (0 : Int), (0 : Int), (0 : Int), ([] : List (BitVec 8))⟩ : api_Entry).Ends), AV.nils])) rfl rfl (nb rfl) [(eS ((⟨([] : List (BitVec 8)), (0 : Int), (0 : Int), (0 : Int), ([] : List (BitVec 8))⟩ : api_Entry) : api_Entry).Key), (eI ((⟨([] : List (BitVec 8)), (0 : Int), (0 : Int), (0 : Int), ([] : List (BitVec 8))⟩ : api_Entry) : api_Entry).Version), (eI ((⟨([] : List (BitVec 8)), (0 : Int), (0 : Int), (0 : Int), ([] : List (BitVec 8))⟩ : api_Entry) : api_Entry).AsOf), (eI ((⟨([] : List (BitVec 8)), (0 : Int), (0 : Int), (0 : Int), ([] : List (BitVec 8))⟩ : api_Entry) : api_Entry).Ends), AV.nils] rfl) fun τ hH => ?_
  refine ma tk (eB false) rfl rfl (wpo_nil (awp_ret ?_))
  obtain rfl := oi H7
  exact ⟨_, (.tup [(e_api_Entry ((⟨([] : List (BitVec 8)), (0 : Int), (0 : Int), (0 : Int), ([] : List (BitVec 8))⟩ : api_Entry) : api_Entry)), (eB false)]), (ares_2 (ares_cell hH 0 rfl rfl rfl) rfl), (wk_tup (.cons (wk_agg (.cons wr (.cons wr (.cons wr (.cons wr (.cons (wk_nils _) .nil)))))) (.cons wr .nil))), .of_eq (by simp only [cutAV, cutL, enc42.cut _ _ _, (enc_b td4 sz4).cut _ _ _]), ((hH.noT.drop n2).unbring h0)⟩
 ·refine awp_skip (sr rfl (mm tk (.ref p0 0) rfl rfl (mc tk (.ref p0 0) rfl rfl (fun _ => rfl) (mc tk (.ref p0 0) rfl rfl (fun _ => rfl) (mc tk (.ref p0 2) rfl rfl (fun _ => rfl) (wpo_rd (a := ((eL 5 e_api_Entry) x0.down_l)) rfl rfl rfl (OpS.wkr wk_no (h_ld tk hH 1 rfl rfl rfl)) (mm tk (eI v4) rfl rfl ?_)))))))
  refine b_ H7 (fun y => .fptr (e_api_Entry y).cells 0) rfl (fun v10 hv => o_ixa tk hv td30 enc42 rfl rfl) fun v10 hv10 H9 => ?_
  refine m_ (e_api_Entry v10) rfl (o_ld_e tk enc42 rfl rfl) ?_
  refine b_ H9 e_api_Entry rfl (fun v12 hv => OpP.of_call rfl rfl (.cons wr .nil) (item_Copy_ok hv)) fun v12 hv12 H11 => ?_
  refine wpo_z rfl rfl (h_st tk hH 0 rfl ty42 (by simp) rfl rfl wr (b := (e_api_Entry v12)) (enc42.flat _) rfl (nb rfl) (c_api_Entry (v12 : api_Entry)) rfl) fun τ hH => ?_
  refine ma tk (eB true) rfl rfl (wpo_nil (awp_ret ?_))
  obtain rfl := oi H11
  exact ⟨_, (.tup [(e_api_Entry (v12 : api_Entry)), (eB true)]), (ares_2 (ares_cell hH 0 rfl rfl rfl) rfl), (wk_tup (.cons wr (.cons wr .nil))), .of_eq (by simp only [cutAV, cutL, enc42.cut _ _ _, (enc_b td4 sz4).cut _ _ _]), ((hH.noT.drop n2).unbring h0)⟩
theorem jobs_Jobs_Drop_ok {x0 : jobs_Jobs} {x1 : List (BitVec 8)} {r : api_Entry × Bool × jobs_Jobs} (H : jobs_Jobs_Drop x0 x1 = some r) (σ : St) {p0 : Nat} {t_p0_down_l t_p0_up_l : Nat} (h0 : σ.objs[p0]? = some [(eI x0.down_limit), (.fn (.func 24) [] []), (eT t_p0_down_l 5 e_api_Entry x0.down_l), (eI x0.up_limit), (.fn (.func 25) [] []), (eT t_p0_up_l 1 eS x0.up_l)]) (hd : [p0].Pairwise fun a b => a ≠ b) (ho_p0_down_l : σ.opn[t_p0_down_l]? = some true) (ho_p0_up_l : σ.opn[t_p0_up_l]? = some true) (hn_p0_up_l : t_p0_up_l ∉ [t_p0_down_l]) : ACall Tryd.prog 21 [(.ref p0 0), (eS x1)] σ (fun a τ => a = .tup [e_api_Entry r.1, eB r.2.1] ∧ τ = σ.grow [(p0, [(eI r.2.2.down_limit), (.fn (.func 24) [] []), (eT (σ.opn.length + 0) 5 e_api_Entry r.2.2.down_l), (eI r.2.2.up_limit), (.fn (.func 25) [] []), (eT (σ.opn.length + 1) 1 eS r.2.2.up_l)])] [] [t_p0_down_l, t_p0_up_l] 2) := by
 unfold jobs_Jobs_Drop at H
 refine ACall.outT (B := fun g => [(p0, [(eI r.2.2.down_limit), (.fn (.func 24) [] []), (eT (g 0) 5 e_api_Entry r.2.2.down_l), (eI r.2.2.up_limit), (.fn (.func 25) [] []), (eT (g 1) 1 eS r.2.2.up_l)])]) [t_p0_down_l, t_p0_up_l] 2 (fun ρ κ => by simp only [cutAV, cutL, enc42.cut ρ κ, (enc_b td4 sz4).cut ρ κ]) (by intro g; simp only [List.mem_cons, List.not_mem_nil, or_false]; rintro _ rfl; exact (List.getElem?_eq_some_iff.1 h0).1) (fun ρ κ g g1 h2 h3 => .cons rfl (.cons (.of_eq ((enc_i64 td3 sz3).cut ρ κ _)) (.cons wr (.cons (.of_eq (cut_eT enc42.cut (h2 0 (by decide)) _)) (.cons (.of_eq ((enc_i64 td3 sz3).cut ρ κ _)) (.cons wr (.cons (.of_eq (cut_eT (enc_s td9 sz9).cut (h2 1 (by decide)) _)) .nil)))))) .nil) (acall_start tk Tryd.func21 (by decide) rfl (nb rfl) ?_)
 have hH := Holds.brings (σ := σ) [(p0, [(eI x0.down_limit), (.fn (.func 24) [] []), (eT t_p0_down_l 5 e_api_Entry x0.down_l), (eI x0.up_limit), (.fn (.func 25) [] []), (eT t_p0_up_l 1 eS x0.up_l)])] (by simp only [List.mem_cons, List.not_mem_nil, or_false]; rintro _ (rfl) <;> assumption) hd
 refine AWP.reT hH 0 2 rfl rfl ho_p0_down_l fun tk1 τ (hH : Holds (σ.shut [t_p0_down_l]) [(p0, [(eI x0.down_limit), (.fn (.func 24) [] []), (eT tk1 5 e_api_Entry x0.down_l), (eI x0.up_limit), (.fn (.func 25) [] []), (eT t_p0_up_l 1 eS x0.up_l)])] [tk1] τ) => ?_
 refine AWP.reT hH 0 5 rfl rfl (shut_in [t_p0_down_l] _ _ ho_p0_up_l hn_p0_up_l) fun tk2 τ (hH : Holds (σ.shut [t_p0_down_l, t_p0_up_l]) [(p0, [(eI x0.down_limit), (.fn (.func 24) [] []), (eT tk1 5 e_api_Entry x0.down_l), (eI x0.up_limit), (.fn (.func 25) [] []), (eT tk2 1 eS x0.up_l)])] [tk2, tk1] τ) => ?_
 refine sr rfl ?_
 refine wpo_a (av := fun id => .ref id 0) rfl rfl rfl (h_alloc tk hH ty42 [(eS z_api_Entry.Key), (eI z_api_Entry.Version), (eI z_api_Entry.AsOf), (eI z_api_Entry.Ends), AV.nils] rfl) fun id3 τ ⟨hH, n4⟩ => ?_
 refine ma tk (eB false) rfl rfl (wpo_nil (sr rfl (mm tk (.ref p0 0) rfl rfl (mc tk (.ref p0 0) rfl rfl (fun _ => rfl) (mc tk (.ref p0 0) rfl rfl (fun _ => rfl) (mm tk (eS x1) rfl rfl ?_))))))
 refine wpo_cb H (fun x _ => .tup [e_api_Entry x.1, eB x.2.1]) rfl rfl rfl (fun v6 hv => h_callT hH [] 2 ((perm_at 1 rfl).trans (.cons _ ((perm_at 0 rfl).trans (.cons _ (.refl _))))) (fun g => [(1, (p0, [(eI v6.2.2.down_limit), (.fn (.func 24) [] []), (eT (g 0) 5 e_api_Entry v6.2.2.down_l), (eI v6.2.2.up_limit), (.fn (.func 25) [] []), (eT (g 1) 1 eS v6.2.2.up_l)]))]) (fun _ => ⟨⟨_, rfl⟩, trivial⟩) rfl rfl (.cons wr (.cons wr .nil)) (jobs_Queue_api_Entry_drop_ok hv _ (hH.at_ 1 rfl) (hH.pw [1] rfl (by decide)) (hH.open_ 1 rfl) (hH.open_ 0 rfl) (hH.tnin 1 0 rfl rfl (by decide)))) fun v6 tk7 τ hv6 H5 (hH : Holds (σ.shut [t_p0_down_l, t_p0_up_l]) [(id3, [(eS z_api_Entry.Key), (eI z_api_Entry.Version), (eI z_api_Entry.AsOf), (eI z_api_Entry.Ends), AV.nils]), (p0, [(eI v6.2.2.down_limit), (.fn (.func 24) [] []), (eT (tk7 + 0) 5 e_api_Entry v6.2.2.down_l), (eI v6.2.2.up_limit), (.fn (.func 25) [] []), (eT (tk7 + 1) 1 eS v6.2.2.up_l)])] [(tk7 + 0), (tk7 + 1)] τ) => ?_
 refine m_ (e_api_Entry v6.1) rfl (o_ext tk rfl rfl) (m_ (eB v6.2.1) rfl (o_ext tk rfl rfl) ?_)
 refine wpo_z rfl rfl (h_st tk hH 0 rfl ty42 (by simp) rfl rfl wr (b := (e_api_Entry v6.1)) (enc42.flat _) rfl (nb rfl) (c_api_Entry (v6.1 : api_Entry)) rfl) fun τ hH => ?_
 refine ma tk (eB v6.2.1) rfl rfl (wpo_nil (awp_ret ?_))
 obtain rfl := oi H5
 exact ⟨_, (.tup [(e_api_Entry (v6.1 : api_Entry)), (eB v6.2.1)]), (ares_2 (ares_cell hH 0 rfl rfl rfl) rfl), (wk_tup (.cons wr (.cons wr .nil))), rfl, fun i => [(tk7 + 0), (tk7 + 1)].getD i 0, ((hH.drop n4).tpick [0, 1] rfl (by decide))⟩
theorem jobs_New_2_ok {x0 : List (BitVec 8)} {r : (List (BitVec 8))} (H : jobs_New_2 x0 = some r) (σ : St)  : ACall Tryd.prog 25 [(eS x0)] σ (fun a τ => a = eS r ∧ τ = σ) := by
 unfold jobs_New_2 at H
 refine ACall.pure (acall_start tk Tryd.func25 (by decide) rfl (nb rfl) ?_)
 have hH := Holds.init σ
 refine sr rfl (ma tk (eS ([] : List (BitVec 8))) rfl rfl (wpo_nil (sr rfl (mm tk (eS x0) rfl rfl (ma tk (eS x0) rfl rfl (wpo_nil (awp_ret ?_)))))))
 obtain rfl := oi H
 exact ⟨_, (eS x0), rfl, wr, .of_eq ((enc_s td9 sz9).cut _ _ _), hH.noT⟩
theorem jobs_Queue_string_find_1_c_ok {x0 : List (BitVec 8)} {x1 : jobs_Jobs} {x2 : List (BitVec 8)} {r : Bool} (H : jobs_Queue_string_find_1_c x0 x1 x2 = some r) (σ : St) {p1 : Nat} {t_p1_down_l t_p1_up_l : Nat} (h1 : σ.objs[p1]? = some [(eI x1.down_limit), (.fn (.func 24) [] []), (eT t_p1_down_l 5 e_api_Entry x1.down_l), (eI x1.up_limit), (.fn (.func 25) [] []), (eT t_p1_up_l 1 eS x1.up_l)]) (hd : [p1].Pairwise fun a b => a ≠ b) : ACall Tryd.prog 55 [(eS x0), (.fptr [(.ref p1 3)] 0), (.fptr [eS x2] 0)] σ (fun a τ => a = eB r ∧ τ = σ) := by
 unfold jobs_Queue_string_find_1_c at H
 refine ACall.pure (acall_start tk Tryd.func55 (by decide) rfl (nb rfl) ?_)
 have hH := Holds.brings (σ := σ) [(p1, [(eI x1.down_limit), (.fn (.func 24) [] []), (eT t_p1_down_l 5 e_api_Entry x1.down_l), (eI x1.up_limit), (.fn (.func 25) [] []), (eT t_p1_up_l 1 eS x1.up_l)])] (by simp only [List.mem_cons, List.not_mem_nil, or_false]; rintro _ (rfl) <;> assumption) hd
 refine sr rfl (ma tk (eB false) rfl rfl (wpo_nil (awp_seq ?_)))
 refine awp_drawS mixed [] rfl (by decide +kernel) rfl rfl ?_
 refine wpdS_mv (a := (.ref p1 3)) rfl rfl rfl (o_ld tk rfl rfl) (wpdS_mv (a := (.ref p1 3)) rfl rfl rfl (o_c tk false rfl (fun _ => rfl)) (wpdS_mv (a := (.ref p1 4)) rfl rfl rfl (o_c tk false rfl (fun _ => rfl)) (wpdS_rd (a := (.fn (.func 25) [] [])) rfl (by decide +kernel) rfl rfl (h_ld tk hH 0 rfl rfl rfl) (wpdS_mv (a := (eS x0)) rfl rfl rfl (o_mv tk rfl (Wk.refl _)) ?_))))
 refine wpdS_bd H eS rfl rfl rfl (fun v2 hv => OpP.of_call rfl rfl (.cons wr .nil) (jobs_New_2_ok hv)) fun v2 hv2 H1 => ?_
 refine wpdS_mv (a := (eS x2)) rfl rfl rfl (o_ld tk rfl rfl) ?_
 refine wpdS_lt H1 eB rfl rfl rfl (o_eql_s tk rfl rfl) fun v4 H3 => ?_
 refine wpdS_mv (a := (eB v4)) rfl rfl rfl (o_as tk rfl (Wk.refl _)) (wpdS_nil (awp_ret ?_))
 obtain rfl := oi H3
 exact ⟨_, (eB v4), rfl, wr, .of_eq ((enc_b td4 sz4).cut _ _ _), (hH.noT.unbring h1)⟩
theorem slices_IndexFunc_string_string_jobs_Queue_string_find_1_c_ok {x0 : List (List (BitVec 8))} {x1 : jobs_Jobs} {x2 : List (BitVec 8)} {r : Int} (H : slices_IndexFunc_string_string_jobs_Queue_string_find_1_c x0 x1 x2 = some r) (σ : St) {p1 : Nat} {t_p1_down_l t_p1_up_l : Nat} (h1 : σ.objs[p1]? = some [(eI x1.down_limit), (.fn (.func 24) [] []), (eT t_p1_down_l 5 e_api_Entry x1.down_l), (eI x1.up_limit), (.fn (.func 25) [] []), (eT t_p1_up_l 1 eS x1.up_l)]) (hd : [p1].Pairwise fun a b => a ≠ b) : ACall Tryd.prog 54 [((eL 1 eS) x0), (.fn (.func 55) [] [.fptr [(.ref p1 3)] 0, .fptr [eS x2] 0])] σ (fun a τ => a = eI r ∧ τ = σ) := by
 unfold slices_IndexFunc_string_string_jobs_Queue_string_find_1_c at H
 refine ACall.pure (acall_start tk Tryd.func54 (by decide) rfl (nb rfl) ?_)
 have hH := Holds.brings (σ := σ) [(p1, [(eI x1.down_limit), (.fn (.func 24) [] []), (eT t_p1_down_l 5 e_api_Entry x1.down_l), (eI x1.up_limit), (.fn (.func 25) [] []), (eT t_p1_up_l 1 eS x1.up_l)])] (by simp only [List.mem_cons, List.not_mem_nil, or_false]; rintro _ (rfl) <;> assumption) hd
 refine sr rfl (ma tk (eI (0 : Int)) rfl rfl (wpo_nil (awp_seq (sr rfl (mm tk ((eL 1 eS) x0) rfl rfl ?_)))))
 refine l_ H eI rfl (o_len tk td31 rfl) fun v2 H1 => ?_
 refine mm tk (eI (0 : Int)) rfl rfl (wpo_nil (awp_block ?_))
 obtain ⟨o4, hs5, hj6⟩ := ob H1
 refine awp_cutx 0 (fun fr τ => ∃ s11 : Unit, o4 = .inl s11 ∧ WkF fr (fm []) ∧ Holds σ [(p1, [(eI x1.down_limit), (.fn (.func 24) [] []), (eT t_p1_down_l 5 e_api_Entry x1.down_l), (eI x1.up_limit), (.fn (.func 25) [] []), (eT t_p1_up_l 1 eS x1.up_l)])] [] τ) ?_ ?_
 ·rintro fr τ ⟨s11, rfl, hfr, hH⟩
  have H24 := hj6
  simp only [Sum.elim_inl] at H24
  refine AWP.fm [] hfr ?_
  refine sr rfl (ma tk (eI (-1 : Int)) rfl rfl (wpo_nil (awp_ret ?_)))
  obtain rfl := oi H24
  exact ⟨_, (eI (-1 : Int)), rfl, wr, .of_eq ((enc_i64 td3 sz3).cut _ _ _), (hH.noT.unbring h1)⟩
 ·refine awp_loopO (body := fun s => slices_IndexFunc_string_string_jobs_Queue_string_find_1_c_b0 x0 x1 x2 v2 s) hs5 (fun (s : Int) fr τ => WkF fr (fm [(0, ((eL 1 eS) x0)), (1, (.fn (.func 55) [] [(.fptr [(.ref p1 3)] 0), (.fptr [eS x2] 0)])), (7, (eI v2)), (8, (eI s))]) ∧ Holds σ [(p1, [(eI x1.down_limit), (.fn (.func 24) [] []), (eT t_p1_down_l 5 e_api_Entry x1.down_l), (eI x1.up_limit), (.fn (.func 25) [] []), (eT t_p1_up_l 1 eS x1.up_l)])] [] τ) ⟨(wc (wc (wc (wc (wkf_nil _))))), hH⟩ ?_
  rintro c3 fr τ y7 ⟨hfr, hH⟩ hb9 hy10
  have H12 : slices_IndexFunc_string_string_jobs_Queue_string_find_1_c_b0 x0 x1 x2 v2 c3 = some y7 := hb9
  unfold slices_IndexFunc_string_string_jobs_Queue_string_find_1_c_b0 at H12
  refine AWP.fm [(0, ((eL 1 eS) x0)), (1, (.fn (.func 55) [] [(.fptr [(.ref p1 3)] 0), (.fptr [eS x2] 0)])), (7, (eI v2)), (8, (eI c3))] hfr ?_
  have hH : Holds σ [(p1, [(eI x1.down_limit), (.fn (.func 24) [] []), (eT t_p1_down_l 5 e_api_Entry x1.down_l), (eI x1.up_limit), (.fn (.func 25) [] []), (eT t_p1_up_l 1 eS x1.up_l)])] [] τ := hH
  refine sr rfl ?_
  refine l_ H12 eB rfl (o_ar tk rfl rfl rfl) fun v14 H13 => ?_
  refine wpo_nil (awp_seq ?_)
  refine awp_if H13 rfl (fun H15 => ?_) (fun H15 => ?_)
  ·refine awp_skip (awp_seq (awp_block (sr rfl (mm tk (eI c3) rfl rfl (ma tk (eI c3) rfl rfl (wpo_nil (sr rfl (mm tk (.fn (.func 55) [] [(.fptr [(.ref p1 3)] 0), (.fptr [eS x2] 0)]) rfl rfl ?_))))))))
   refine mm tk ((eL 1 eS) x0) rfl rfl (mm tk (eI c3) rfl rfl ?_)
   refine b_ H15 (fun y => .fptr (eS y).cells 0) rfl (fun v17 hv => o_ixa tk hv td31 (enc_s td9 sz9) rfl rfl) fun v17 hv17 H16 => ?_
   refine m_ (eS v17) rfl (o_ld_e tk (enc_s td9 sz9) rfl rfl) ?_
   refine wpo_bdr H16 eB rfl rfl rfl (fun v19 hv => h_callr rfl rfl (.cons wr (.cons wr (.cons wr .nil))) (jobs_Queue_string_find_1_c_ok hv _ (hH.at_ 0 rfl) (hH.pw [0] rfl (by decide)))) fun v19 hv19 H18 => ?_
   refine wpo_nil ?_
   refine awp_if H18 rfl (fun H20 => ?_) (fun H20 => ?_)
   ·refine sr rfl (mm tk (eI c3) rfl rfl (ma tk (eI c3) rfl rfl (wpo_nil (awp_ret ?_))))
    have hz := hy10 _ (inj_inr H20)
    refine ⟨⟨_, inj_inr H20⟩, ?_⟩
    rw [← hz] at hj6
    have H21 := (show some _ = some _ from hj6)
    obtain rfl := oi H21
    exact ⟨_, (eI c3), rfl, wr, .of_eq ((enc_i64 td3 sz3).cut _ _ _), (hH.noT.unbring h1)⟩
   ·refine awp_skip (awp_region rfl ?_)
    refine l_ H20 eI rfl (o_ar tk rfl rfl rfl) fun v23 H22 => ?_
    refine mm tk (eI v23) rfl rfl (wpo_nil ?_)
    exact ⟨v23, inj_inl H22, (wc (wc (wc (wc (wkf_nil _))))), hH⟩
  ·refine awp_exit ?_
   have hz := hy10 _ (inj_inr H15)
   exact ⟨⟨_, inj_inr H15⟩, (), hz.symm, (wkf_nil _), hH⟩
theorem jobs_Queue_string_find_ok {x0 : jobs_Jobs} {x1 : List (BitVec 8)} {r : Int} (H : jobs_Queue_string_find x0 x1 = some r) (σ : St) {p0 : Nat} {t_p0_down_l t_p0_up_l : Nat} (h0 : σ.objs[p0]? = some [(eI x0.down_limit), (.fn (.func 24) [] []), (eT t_p0_down_l 5 e_api_Entry x0.down_l), (eI x0.up_limit), (.fn (.func 25) [] []), (eT t_p0_up_l 1 eS x0.up_l)]) (hd : [p0].Pairwise fun a b => a ≠ b) : ACall Tryd.prog 41 [(.ref p0 3), (eS x1)] σ (fun a τ => a = eI r ∧ τ = σ) := by
 unfold jobs_Queue_string_find at H
 refine ACall.pure (acall_start tk Tryd.func41 (by decide) rfl (nb rfl) ?_)
 have hH := Holds.brings (σ := σ) [(p0, [(eI x0.down_limit), (.fn (.func 24) [] []), (eT t_p0_down_l 5 e_api_Entry x0.down_l), (eI x0.up_limit), (.fn (.func 25) [] []), (eT t_p0_up_l 1 eS x0.up_l)])] (by simp only [List.mem_cons, List.not_mem_nil, or_false]; rintro _ (rfl) <;> assumption) hd
 refine sr rfl (m_ (.fptr [(.ref p0 3)] 0) rfl (o_boxf tk rfl wr (b := (.ref p0 3)) rfl) (m_ (.fptr [eS x1] 0) rfl (o_boxf tk rfl wr (b := (eS x1)) rfl) (ma tk (eI (0 : Int)) rfl rfl (wpo_nil (sr rfl (m_ (.ref p0 3) rfl (o_ld tk rfl rfl) (mc tk (.ref p0 3) rfl rfl (fun _ => rfl) (mc tk (.ref p0 5) rfl rfl (fun _ => rfl) ?_))))))))
 refine wpo_rd (a := ((eL 1 eS) x0.up_l)) rfl rfl rfl (OpS.wkr wk_no (h_ld tk hH 0 rfl rfl rfl)) (mc tk (.fn (.func 55) [] [(.fptr [(.ref p0 3)] 0), (.fptr [eS x1] 0)]) rfl rfl (fun _ => rfl) ?_)
 refine wpo_bdr H eI rfl rfl rfl (fun v2 hv => h_callr rfl rfl (.cons wr (.cons wr .nil)) (slices_IndexFunc_string_string_jobs_Queue_string_find_1_c_ok hv _ (hH.at_ 0 rfl) (hH.pw [0] rfl (by decide)))) fun v2 hv2 H1 => ?_
 refine ma tk (eI v2) rfl rfl (wpo_nil (awp_ret ?_))
 obtain rfl := oi H1
 exact ⟨_, (eI v2), rfl, wr, .of_eq ((enc_i64 td3 sz3).cut _ _ _), (hH.noT.unbring h0)⟩
theorem jobs_Queue_string_push_ok {x0 : jobs_Jobs} {x1 : List (BitVec 8)} {r : Bool × jobs_Jobs} (H : jobs_Queue_string_push x0 x1 = some r) (σ : St) {p0 : Nat} {t_p0_down_l t_p0_up_l : Nat} (h0 : σ.objs[p0]? = some [(eI x0.down_limit), (.fn (.func 24) [] []), (eT t_p0_down_l 5 e_api_Entry x0.down_l), (eI x0.up_limit), (.fn (.func 25) [] []), (eT t_p0_up_l 1 eS x0.up_l)]) (hd : [p0].Pairwise fun a b => a ≠ b) (ho_p0_down_l : σ.opn[t_p0_down_l]? = some true) (ho_p0_up_l : σ.opn[t_p0_up_l]? = some true) (hn_p0_up_l : t_p0_up_l ∉ [t_p0_down_l]) : ACall Tryd.prog 42 [(.ref p0 3), (eS x1)] σ (fun a τ => a = eB r.1 ∧ τ = σ.grow [(p0, [(eI r.2.down_limit), (.fn (.func 24) [] []), (eT (σ.opn.length + 0) 5 e_api_Entry r.2.down_l), (eI r.2.up_limit), (.fn (.func 25) [] []), (eT (σ.opn.length + 1) 1 eS r.2.up_l)])] [] [t_p0_down_l, t_p0_up_l] 2) := by
 unfold jobs_Queue_string_push at H
 refine ACall.outT (B := fun g => [(p0, [(eI r.2.down_limit), (.fn (.func 24) [] []), (eT (g 0) 5 e_api_Entry r.2.down_l), (eI r.2.up_limit), (.fn (.func 25) [] []), (eT (g 1) 1 eS r.2.up_l)])]) [t_p0_down_l, t_p0_up_l] 2 (fun ρ κ => (enc_b td4 sz4).cut ρ κ _) (by intro g; simp only [List.mem_cons, List.not_mem_nil, or_false]; rintro _ rfl; exact (List.getElem?_eq_some_iff.1 h0).1) (fun ρ κ g g1 h2 h3 => .cons rfl (.cons (.of_eq ((enc_i64 td3 sz3).cut ρ κ _)) (.cons wr (.cons (.of_eq (cut_eT enc42.cut (h2 0 (by decide)) _)) (.cons (.of_eq ((enc_i64 td3 sz3).cut ρ κ _)) (.cons wr (.cons (.of_eq (cut_eT (enc_s td9 sz9).cut (h2 1 (by decide)) _)) .nil)))))) .nil) (acall_start tk Tryd.func42 (by decide) rfl (nb rfl) ?_)
 have hH := Holds.brings (σ := σ) [(p0, [(eI x0.down_limit), (.fn (.func 24) [] []), (eT t_p0_down_l 5 e_api_Entry x0.down_l), (eI x0.up_limit), (.fn (.func 25) [] []), (eT t_p0_up_l 1 eS x0.up_l)])] (by simp only [List.mem_cons, List.not_mem_nil, or_false]; rintro _ (rfl) <;> assumption) hd
 refine AWP.reT hH 0 2 rfl rfl ho_p0_down_l fun tk1 τ (hH : Holds (σ.shut [t_p0_down_l]) [(p0, [(eI x0.down_limit), (.fn (.func 24) [] []), (eT tk1 5 e_api_Entry x0.down_l), (eI x0.up_limit), (.fn (.func 25) [] []), (eT t_p0_up_l 1 eS x0.up_l)])] [tk1] τ) => ?_
 refine AWP.reT hH 0 5 rfl rfl (shut_in [t_p0_down_l] _ _ ho_p0_up_l hn_p0_up_l) fun tk2 τ (hH : Holds (σ.shut [t_p0_down_l, t_p0_up_l]) [(p0, [(eI x0.down_limit), (.fn (.func 24) [] []), (eT tk1 5 e_api_Entry x0.down_l), (eI x0.up_limit), (.fn (.func 25) [] []), (eT tk2 1 eS x0.up_l)])] [tk2, tk1] τ) => ?_
 refine sr rfl (ma tk (eB false) rfl rfl (wpo_nil (awp_seq (awp_seq ?_))))
 refine awp_drawS mixed [] rfl (by decide +kernel) rfl rfl ?_
 refine wpdS_mv (a := (.ref p0 3)) rfl rfl rfl (o_mv tk rfl (Wk.refl _)) (wpdS_mv (a := (.ref p0 3)) rfl rfl rfl (o_c tk false rfl (fun _ => rfl)) (wpdS_mv (a := (.ref p0 5)) rfl rfl rfl (o_c tk false rfl (fun _ => rfl)) (wpdS_rd (a := (eT tk2 1 eS x0.up_l)) rfl (by decide +kernel) rfl rfl (h_ld tk hH 0 rfl rfl rfl) ?_)))
 refine wpdS_lt H eI rfl rfl rfl (o_len tk td31 rfl) fun v4 H3 => ?_
 refine wpdS_mv (a := (.ref p0 3)) rfl rfl rfl (o_mv tk rfl (Wk.refl _)) (wpdS_mv (a := (.ref p0 3)) rfl rfl rfl (o_c tk false rfl (fun _ => rfl)) (wpdS_mv (a := (.ref p0 3)) rfl rfl rfl (o_c tk false rfl (fun _ => rfl)) (wpdS_rd (a := (eI x0.up_limit)) rfl (by decide +kernel) rfl rfl (h_ld tk hH 0 rfl rfl rfl) ?_)))
 refine wpdS_lt H3 eB rfl rfl rfl (o_ar tk rfl rfl rfl) fun v6 H5 => ?_
 refine wpdS_nil ?_
 refine awp_if H5 rfl (fun H7 => ?_) (fun H7 => ?_)
 ·refine sr rfl (ma tk (eB false) rfl rfl (wpo_nil (awp_ret ?_)))
  obtain rfl := oi H7
  exact ⟨_, (eB false), rfl, wr, rfl, fun i => [tk1, tk2].getD i 0, (hH.tpick [1, 0] rfl (by decide))⟩
 ·refine awp_skip (sr rfl (mm tk (.ref p0 3) rfl rfl (mm tk (.ref p0 3) rfl rfl (mc tk (.ref p0 3) rfl rfl (fun _ => rfl) (mc tk (.ref p0 5) rfl rfl (fun _ => rfl) (wpo_rd (a := (eT tk2 1 eS x0.up_l)) rfl rfl rfl (h_ld tk hH 0 rfl rfl rfl) (mm tk (eS x1) rfl rfl ?_)))))))
  refine l_ H7 (eF 1 eS) rfl (o_c tk false rfl (fun _ => rfl)) fun v9 H8 => ?_
  obtain ⟨v11, hv12, H10⟩ := ob H8
  refine wpo_a (av := fun t => eT t 1 eS v11) rfl rfl rfl (h_app tk hH 0 hv12 rfl td31 ty9 rfl (by decide) rfl (src_l td31 rfl)) fun tk13 τ hH => ?_
  refine mc tk (.ref p0 3) rfl rfl (fun _ => rfl) (mc tk (.ref p0 5) rfl rfl (fun _ => rfl) ?_)
  refine wpo_z rfl rfl (h_st (y := (eT tk13 1 eS v11)) tk hH 0 rfl ty31 (by simp) rfl rfl wr (b := (eT tk13 1 eS v11)) rfl rfl (nb rfl) [(eI ({ x0 with up_l := v11 } : jobs_Jobs).down_limit), (.fn (.func 24) [] []), (eT tk1 5 e_api_Entry ({ x0 with up_l := v11 } : jobs_Jobs).down_l), (eI ({ x0 with up_l := v11 } : jobs_Jobs).up_limit), (.fn (.func 25) [] []), (eT tk13 1 eS ({ x0 with up_l := v11 } : jobs_Jobs).up_l)] rfl) fun τ hH => ?_
  refine wpo_nil (sr rfl (ma tk (eB true) rfl rfl (wpo_nil (awp_ret ?_))))
  obtain rfl := oi H10
  exact ⟨_, (eB true), rfl, wr, rfl, fun i => [tk1, tk13].getD i 0, (hH.tpick [1, 0] rfl (by decide))⟩
theorem jobs_Jobs_Want_ok {x0 : jobs_Jobs} {x1 : List (BitVec 8)} {r : Bool × jobs_Jobs} (H : jobs_Jobs_Want x0 x1 = some r) (σ : St) {p0 : Nat} {t_p0_down_l t_p0_up_l : Nat} (h0 : σ.objs[p0]? = some [(eI x0.down_limit), (.fn (.func 24) [] []), (eT t_p0_down_l 5 e_api_Entry x0.down_l), (eI x0.up_limit), (.fn (.func 25) [] []), (eT t_p0_up_l 1 eS x0.up_l)]) (hd : [p0].Pairwise fun a b => a ≠ b) (ho_p0_down_l : σ.opn[t_p0_down_l]? = some true) (ho_p0_up_l : σ.opn[t_p0_up_l]? = some true) (hn_p0_up_l : t_p0_up_l ∉ [t_p0_down_l]) : ACall Tryd.prog 22 [(.ref p0 0), (eS x1)] σ (fun a τ => a = eB r.1 ∧ τ = σ.grow [(p0, [(eI r.2.down_limit), (.fn (.func 24) [] []), (eT (σ.opn.length + 0) 5 e_api_Entry r.2.down_l), (eI r.2.up_limit), (.fn (.func 25) [] []), (eT (σ.opn.length + 1) 1 eS r.2.up_l)])] [] [t_p0_down_l, t_p0_up_l] 2) := by
 unfold jobs_Jobs_Want at H
 refine ACall.outT (B := fun g => [(p0, [(eI r.2.down_limit), (.fn (.func 24) [] []), (eT (g 0) 5 e_api_Entry r.2.down_l), (eI r.2.up_limit), (.fn (.func 25) [] []), (eT (g 1) 1 eS r.2.up_l)])]) [t_p0_down_l, t_p0_up_l] 2 (fun ρ κ => (enc_b td4 sz4).cut ρ κ _) (by intro g; simp only [List.mem_cons, List.not_mem_nil, or_false]; rintro _ rfl; exact (List.getElem?_eq_some_iff.1 h0).1) (fun ρ κ g g1 h2 h3 => .cons rfl (.cons (.of_eq ((enc_i64 td3 sz3).cut ρ κ _)) (.cons wr (.cons (.of_eq (cut_eT enc42.cut (h2 0 (by decide)) _)) (.cons (.of_eq ((enc_i64 td3 sz3).cut ρ κ _)) (.cons wr (.cons (.of_eq (cut_eT (enc_s td9 sz9).cut (h2 1 (by decide)) _)) .nil)))))) .nil) (acall_start tk Tryd.func22 (by decide) rfl (nb rfl) ?_)
 have hH := Holds.brings (σ := σ) [(p0, [(eI x0.down_limit), (.fn (.func 24) [] []), (eT t_p0_down_l 5 e_api_Entry x0.down_l), (eI x0.up_limit), (.fn (.func 25) [] []), (eT t_p0_up_l 1 eS x0.up_l)])] (by simp only [List.mem_cons, List.not_mem_nil, or_false]; rintro _ (rfl) <;> assumption) hd
 refine AWP.reT hH 0 2 rfl rfl ho_p0_down_l fun tk1 τ (hH : Holds (σ.shut [t_p0_down_l]) [(p0, [(eI x0.down_limit), (.fn (.func 24) [] []), (eT tk1 5 e_api_Entry x0.down_l), (eI x0.up_limit), (.fn (.func 25) [] []), (eT t_p0_up_l 1 eS x0.up_l)])] [tk1] τ) => ?_
 refine AWP.reT hH 0 5 rfl rfl (shut_in [t_p0_down_l] _ _ ho_p0_up_l hn_p0_up_l) fun tk2 τ (hH : Holds (σ.shut [t_p0_down_l, t_p0_up_l]) [(p0, [(eI x0.down_limit), (.fn (.func 24) [] []), (eT tk1 5 e_api_Entry x0.down_l), (eI x0.up_limit), (.fn (.func 25) [] []), (eT tk2 1 eS x0.up_l)])] [tk2, tk1] τ) => ?_
 refine sr rfl (ma tk (eB false) rfl rfl (wpo_nil (sr rfl (mm tk (.ref p0 0) rfl rfl (mc tk (.ref p0 0) rfl rfl (fun _ => rfl) (mc tk (.ref p0 3) rfl rfl (fun _ => rfl) (mm tk (eS x1) rfl rfl ?_)))))))
 refine wpo_bdr H eI rfl rfl rfl (fun v4 hv => h_callr rfl rfl (.cons wr (.cons wr .nil)) (jobs_Queue_string_find_ok hv _ (hH.at_ 0 rfl) (hH.pw [0] rfl (by decide)))) fun v4 hv4 H3 => ?_
 refine l_ H3 eB rfl (o_ar tk rfl rfl rfl) fun v6 H5 => ?_
 refine mm tk (eB v6) rfl rfl ?_
 refine if_split H5 (fun hb H7 => ?_) (fun hb H7 => ?_)
 ·subst hb
  refine k_ rfl (k_ rfl (k_ rfl (k_ rfl (k_ rfl (pt tk (eB true) rfl rfl rfl (ma tk (eB true) rfl rfl (wpo_nil (awp_ret ?_))))))))
  obtain rfl := oi H7
  exact ⟨_, (eB true), rfl, wr, rfl, fun i => [tk1, tk2].getD i 0, (hH.tpick [1, 0] rfl (by decide))⟩
 ·subst hb
  refine mm tk (.ref p0 0) rfl rfl (mc tk (.ref p0 0) rfl rfl (fun _ => rfl) (mc tk (.ref p0 3) rfl rfl (fun _ => rfl) (mm tk (eS x1) rfl rfl ?_)))
  refine wpo_cb H7 (fun x _ => eB x.1) rfl rfl rfl (fun v9 hv => h_callT hH [] 2 ((perm_at 1 rfl).trans (.cons _ ((perm_at 0 rfl).trans (.cons _ (.refl _))))) (fun g => [(0, (p0, [(eI v9.2.down_limit), (.fn (.func 24) [] []), (eT (g 0) 5 e_api_Entry v9.2.down_l), (eI v9.2.up_limit), (.fn (.func 25) [] []), (eT (g 1) 1 eS v9.2.up_l)]))]) (fun _ => ⟨⟨_, rfl⟩, trivial⟩) rfl rfl (.cons wr (.cons wr .nil)) (jobs_Queue_string_push_ok hv _ (hH.at_ 0 rfl) (hH.pw [0] rfl (by decide)) (hH.open_ 1 rfl) (hH.open_ 0 rfl) (hH.tnin 1 0 rfl rfl (by decide)))) fun v9 tk10 τ hv9 H8 (hH : Holds (σ.shut [t_p0_down_l, t_p0_up_l]) [(p0, [(eI v9.2.down_limit), (.fn (.func 24) [] []), (eT (tk10 + 0) 5 e_api_Entry v9.2.down_l), (eI v9.2.up_limit), (.fn (.func 25) [] []), (eT (tk10 + 1) 1 eS v9.2.up_l)])] [(tk10 + 0), (tk10 + 1)] τ) => ?_
  refine pf tk (eB v9.1) rfl rfl rfl (ma tk (eB v9.1) rfl rfl (wpo_nil (awp_ret ?_)))
  obtain rfl := oi H8
  exact ⟨_, (eB v9.1), rfl, wr, rfl, fun i => [(tk10 + 0), (tk10 + 1)].getD i 0, (hH.tpick [0, 1] rfl (by decide))⟩
theorem R12_But_app {x0 : List api_Entry} {x1 : List (BitVec 8)} {r : (List api_Entry)} (H : R12_But x0 x1 = some r) (σ : St)  : ACall Tryd.prog 47 [((eL 5 e_api_Entry) x0), (eS x1)] σ (fun a τ => a = .sl (.own σ.opn.length) 5 (r.map e_api_Entry) ∧ τ = σ.more) := by
 unfold R12_But at H
 refine ACall.app (fun ρ κ => cutL_enc enc42.cut ρ κ r) (acall_start tk Tryd.func47 (by decide) rfl (nb rfl) ?_)
 have hH := Holds.init σ
 refine sr rfl (ma tk AV.nils rfl rfl (wpo_nil (sr rfl (ma tk AV.nils rfl rfl (wpo_nil (awp_seq (sr rfl (ma tk (eI (0 : Int)) rfl rfl ?_))))))))
 refine wpo_nil (awp_block ?_)
 refine AWP.tokN hH 5 5 rfl fun tk3 τ hH => ?_
 obtain ⟨s11, hs5, hj6⟩ := ob H
 refine awp_cutx 0 (fun fr τ => ∃ tk_5, WkF fr (fm [(5, (eT tk_5 5 e_api_Entry s11))]) ∧ Holds σ [] [tk_5] τ) ?_ ?_
 ·rintro fr τ ⟨tk_5, hfr, hH⟩
  have H35 := hj6
  refine AWP.fm [(5, (eT tk_5 5 e_api_Entry s11))] hfr ?_
  refine sr rfl (mm tk (eT tk_5 5 e_api_Entry s11) rfl rfl (ma tk (eT tk_5 5 e_api_Entry s11) rfl rfl (wpo_nil (awp_ret ?_))))
  obtain rfl := oi H35
  exact ⟨_, (eT tk_5 5 e_api_Entry s11), rfl, .of_eq rfl, tk_5, rfl, hH⟩
 ·refine awp_loopO (body := fun s => R12_But_b0 x0 x1 s.1 s.2) hs5 (fun (s : (List api_Entry) × Int) fr τ => ∃ tk_5, WkF fr (fm [(0, ((eL 5 e_api_Entry) x0)), (1, (eS x1)), (5, (eT tk_5 5 e_api_Entry s.1)), (6, (eI s.2))]) ∧ Holds σ [] [tk_5] τ) ⟨tk3, (wc (wc (wc (wc (wkf_nil _))))), hH⟩ ?_
  rintro ⟨c1, c2⟩ fr τ y7 ⟨tk_5, hfr, hH⟩ hb9 hy10
  have H12 : R12_But_b0 x0 x1 c1 c2 = some y7 := hb9
  unfold R12_But_b0 at H12
  refine AWP.fm [(0, ((eL 5 e_api_Entry) x0)), (1, (eS x1)), (5, (eT tk_5 5 e_api_Entry c1)), (6, (eI c2))] hfr ?_
  have hH : Holds σ [] [tk_5] τ := hH
  refine awp_seq (sr rfl (mm tk (eI c2) rfl rfl (mm tk ((eL 5 e_api_Entry) x0) rfl rfl ?_)))
  refine l_ H12 eI rfl (o_len tk td30 rfl) fun v14 H13 => ?_
  refine l_ H13 eB rfl (o_ar tk rfl rfl rfl) fun v16 H15 => ?_
  refine wpo_nil ?_
  refine awp_if H15 rfl (fun H17 => ?_) (fun H17 => ?_)
  ·refine awp_skip (awp_seq (awp_block (sr rfl (mm tk ((eL 5 e_api_Entry) x0) rfl rfl (mm tk (eI c2) rfl rfl ?_)))))
   refine b_ H17 (fun y => .fptr (e_api_Entry y).cells 0) rfl (fun v19 hv => o_ixa tk hv td30 enc42 rfl rfl) fun v19 hv19 H18 => ?_
   refine mc tk (.fptr (c_api_Entry v19) 0) rfl rfl (fun _ => rfl) (m_ (eS v19.Key) rfl (o_ld tk rfl rfl) (mm tk (eS x1) rfl rfl ?_))
   refine l_ H18 eB rfl (o_neq_s tk rfl rfl) fun v21 H20 => ?_
   refine wpo_nil ?_
   refine awp_if H20 rfl (fun H22 => ?_) (fun H22 => ?_)
   ·refine awp_region rfl (mm tk (eT tk_5 5 e_api_Entry c1) rfl rfl (mm tk ((eL 5 e_api_Entry) x0) rfl rfl (mm tk (eI c2) rfl rfl ?_)))
    refine b_ H22 (fun y => .fptr (e_api_Entry y).cells 0) rfl (fun v24 hv => o_ixa tk hv td30 enc42 rfl rfl) fun v24 hv24 H23 => ?_
    refine m_ (e_api_Entry v24) rfl (o_ld_e tk enc42 rfl rfl) ?_
    refine l_ H23 (eF 5 e_api_Entry) rfl (o_c tk false rfl (fun _ => rfl)) fun v26 H25 => ?_
    obtain ⟨v28, hv29, H27⟩ := ob H25
    refine wpo_a (av := fun t => eT t 5 e_api_Entry v28) rfl rfl rfl (h_app tk hH 0 hv29 rfl td30 ty42 rfl (by decide) rfl (src_l td30 rfl)) fun tk30 τ hH => ?_
    refine ma tk (eT tk30 5 e_api_Entry v28) rfl rfl (wpo_nil (awp_region rfl (mm tk (eI c2) rfl rfl ?_)))
    refine l_ H27 eI rfl (o_ar tk rfl rfl rfl) fun v32 H31 => ?_
    refine ma tk (eI v32) rfl rfl (wpo_nil ?_)
    exact ⟨(v28, v32), inj_inl H31, tk30, (wc (wc (wc (wc (wkf_nil _))))), hH⟩
   ·refine awp_skip (awp_region rfl (mm tk (eI c2) rfl rfl ?_))
    refine l_ H22 eI rfl (o_ar tk rfl rfl rfl) fun v34 H33 => ?_
    refine ma tk (eI v34) rfl rfl (wpo_nil ?_)
    exact ⟨(c1, v34), inj_inl H33, tk_5, (wc (wc (wc (wc (wkf_nil _))))), hH⟩
  ·refine awp_exit ?_
   have hz := hy10 _ (inj_inr H17)
   subst hz
   exact ⟨⟨_, inj_inr H17⟩, tk_5, (wc (wkf_nil _)), hH⟩
theorem R12_But_ok {x0 : List api_Entry} {x1 : List (BitVec 8)} {r : (List api_Entry)} (H : R12_But x0 x1 = some r) (σ : St) : ACall Tryd.prog 47 [((eL 5 e_api_Entry) x0), (eS x1)] σ (fun a τ => a = (eL 5 e_api_Entry) r ∧ τ = σ) := (R12_But_app H σ).unapp (fun ρ κ => cutL_enc enc42.cut ρ κ r)
theorem R19_Push_ok {x0 : R19_Jobs} {x1 : api_Entry} {r : R19_Jobs × Bool} (H : R19_Push x0 x1 = some r) (σ : St)  : ACall Tryd.prog 27 [(e_R19_Jobs x0), (e_api_Entry x1)] σ (fun a τ => a = .tup [e_R19_Jobs r.1, eB r.2] ∧ τ = σ) := by
 unfold R19_Push at H
 refine ACall.pure (acall_start tk Tryd.func27 (by decide) rfl (nb rfl) ?_)
 have hH := Holds.init σ
 refine sr rfl (m_ (.fptr (c_R19_Jobs x0) 0) rfl (o_boxf tk rfl wr (b := (e_R19_Jobs x0)) (enc33.flat _)) (m_ (.fptr (c_api_Entry x1) 0) rfl (o_boxf tk rfl wr (b := (e_api_Entry x1)) (enc42.flat _)) ?_))
 refine wpo_a (av := fun id => .ref id 0) rfl rfl rfl (h_alloc tk hH ty33 [(eI z_R19_Jobs.Limit), AV.nils, AV.nils] rfl) fun id1 τ ⟨hH, n2⟩ => ?_
 refine ma tk (eB false) rfl rfl (wpo_nil (sr rfl (m_ (e_R19_Jobs x0) rfl (o_ld tk rfl rfl) ?_)))
 refine wpo_a (av := fun id => .ref id 0) rfl rfl rfl (h_alloc tk hH ty33 [(eI z_R19_Jobs.Limit), AV.nils, AV.nils] rfl) fun id3 τ ⟨hH, n4⟩ => ?_
 refine wpo_z rfl rfl (h_st tk hH 0 rfl ty33 (by simp) rfl rfl wr (b := (e_R19_Jobs x0)) (enc33.flat _) rfl (nb rfl) (c_R19_Jobs (x0 : R19_Jobs)) rfl) fun τ hH => ?_
 refine wpo_nil (sr rfl (mc tk (.fptr (c_R19_Jobs x0) 1) rfl rfl (fun _ => rfl) (m_ ((eL 5 e_api_Entry) x0.Down) rfl (o_ld tk rfl rfl) (mc tk (.fptr (c_api_Entry x1) 0) rfl rfl (fun _ => rfl) (m_ (eS x1.Key) rfl (o_ld tk rfl rfl) ?_)))))
 refine wpo_cb H (fun x t => eT t 5 e_api_Entry x) rfl rfl rfl (fun v7 hv => h_calla hH rfl rfl (.cons wr (.cons wr .nil)) (R12_But_app hv _)) fun v7 tk8 τ hv7 H6 hH => ?_
 refine mc tk (.ref id3 1) rfl rfl (fun _ => rfl) ?_
 refine wpo_z rfl rfl (h_st (y := (eT tk8 5 e_api_Entry v7)) tk hH 0 rfl ty30 (by simp) rfl rfl wr (b := (eT tk8 5 e_api_Entry v7)) rfl rfl (nb rfl) [(eI ({ (x0 : R19_Jobs) with Down := v7 } : R19_Jobs).Limit), (eT tk8 5 e_api_Entry ({ (x0 : R19_Jobs) with Down := v7 } : R19_Jobs).Down), ((eL 1 eS) ({ (x0 : R19_Jobs) with Down := v7 } : R19_Jobs).Up)] rfl) fun τ hH => ?_
 refine wpo_nil (awp_seq (sr rfl (mc tk (.ref id3 1) rfl rfl (fun _ => rfl) (wpo_rd (a := (eT tk8 5 e_api_Entry ({ (x0 : R19_Jobs) with Down := v7 } : R19_Jobs).Down)) rfl rfl rfl (h_ld tk hH 0 rfl rfl rfl) ?_))))
 refine l_ H6 eI rfl (o_len tk td30 rfl) fun v11 H10 => ?_
 refine mc tk (.fptr (c_R19_Jobs x0) 0) rfl rfl (fun _ => rfl) (m_ (eI x0.Limit) rfl (o_ld tk rfl rfl) ?_)
 refine l_ H10 eB rfl (o_ar tk rfl rfl rfl) fun v13 H12 => ?_
 refine wpo_nil ?_
 refine awp_if H12 rfl (fun H14 => ?_) (fun H14 => ?_)
 ·refine sr rfl (wpo_rd (a := (.agg [(eI ({ (x0 : R19_Jobs) with Down := v7 } : R19_Jobs).Limit), (eT tk8 5 e_api_Entry ({ (x0 : R19_Jobs) with Down := v7 } : R19_Jobs).Down), ((eL 1 eS) ({ (x0 : R19_Jobs) with Down := v7 } : R19_Jobs).Up)])) rfl rfl rfl (h_ld tk hH 0 rfl rfl rfl) ?_)
  refine wpo_z rfl rfl (h_st (y := (.agg [(eI ({ (x0 : R19_Jobs) with Down := v7 } : R19_Jobs).Limit), (eT tk8 5 e_api_Entry ({ (x0 : R19_Jobs) with Down := v7 } : R19_Jobs).Down), ((eL 1 eS) ({ (x0 : R19_Jobs) with Down := v7 } : R19_Jobs).Up)])) tk hH 1 rfl ty33 (by simp) rfl rfl wr (b := (.agg [(eI ({ (x0 : R19_Jobs) with Down := v7 } : R19_Jobs).Limit), (eT tk8 5 e_api_Entry ({ (x0 : R19_Jobs) with Down := v7 } : R19_Jobs).Down), ((eL 1 eS) ({ (x0 : R19_Jobs) with Down := v7 } : R19_Jobs).Up)])) rfl rfl (nb rfl) [(eI (({ (x0 : R19_Jobs) with Down := v7 } : R19_Jobs) : R19_Jobs).Limit), (eT tk8 5 e_api_Entry (({ (x0 : R19_Jobs) with Down := v7 } : R19_Jobs) : R19_Jobs).Down), ((eL 1 eS) (({ (x0 : R19_Jobs) with Down := v7 } : R19_Jobs) : R19_Jobs).Up)] rfl) fun τ hH => ?_
  refine ma tk (eB false) rfl rfl (wpo_nil (awp_ret ?_))
  obtain rfl := oi H14
  exact ⟨_, (.tup [(e_R19_Jobs (({ (x0 : R19_Jobs) with Down := v7 } : R19_Jobs) : R19_Jobs)), (eB false)]), (ares_2 (ares_cell hH 1 rfl rfl rfl) rfl), (wk_tup (.cons (wk_agg (.cons wr (.cons wk_no (.cons wr .nil)))) (.cons wr .nil))), .of_eq (by simp only [cutAV, cutL, enc33.cut _ _ _, (enc_b td4 sz4).cut _ _ _]), ((hH.noT.drop n4).drop n2)⟩
 ·refine awp_skip (sr rfl (mc tk (.ref id3 1) rfl rfl (fun _ => rfl) (wpo_rd (a := (eT tk8 5 e_api_Entry ({ (x0 : R19_Jobs) with Down := v7 } : R19_Jobs).Down)) rfl rfl rfl (h_ld tk hH 0 rfl rfl rfl) (m_ (e_api_Entry x1) rfl (o_ld tk rfl rfl) ?_))))
  refine l_ H14 (eF 5 e_api_Entry) rfl (o_c tk false rfl (fun _ => rfl)) fun v17 H16 => ?_
  obtain ⟨v19, hv20, H18⟩ := ob H16
  refine wpo_a (av := fun t => eT t 5 e_api_Entry v19) rfl rfl rfl (h_app tk hH 0 hv20 rfl td30 ty42 rfl (by decide) rfl (src_l td30 rfl)) fun tk21 τ hH => ?_
  refine mc tk (.ref id3 1) rfl rfl (fun _ => rfl) ?_
  refine wpo_z rfl rfl (h_st (y := (eT tk21 5 e_api_Entry v19)) tk hH 0 rfl ty30 (by simp) rfl rfl wr (b := (eT tk21 5 e_api_Entry v19)) rfl rfl (nb rfl) [(eI ({ ({ (x0 : R19_Jobs) with Down := v7 } : R19_Jobs) with Down := v19 } : R19_Jobs).Limit), (eT tk21 5 e_api_Entry ({ ({ (x0 : R19_Jobs) with Down := v7 } : R19_Jobs) with Down := v19 } : R19_Jobs).Down), ((eL 1 eS) ({ ({ (x0 : R19_Jobs) with Down := v7 } : R19_Jobs) with Down := v19 } : R19_Jobs).Up)] rfl) fun τ hH => ?_
  refine wpo_nil (sr rfl (wpo_rd (a := (.agg [(eI ({ ({ (x0 : R19_Jobs) with Down := v7 } : R19_Jobs) with Down := v19 } : R19_Jobs).Limit), (eT tk21 5 e_api_Entry ({ ({ (x0 : R19_Jobs) with Down := v7 } : R19_Jobs) with Down := v19 } : R19_Jobs).Down), ((eL 1 eS) ({ ({ (x0 : R19_Jobs) with Down := v7 } : R19_Jobs) with Down := v19 } : R19_Jobs).Up)])) rfl rfl rfl (h_ld tk hH 0 rfl rfl rfl) ?_))
  refine wpo_z rfl rfl (h_st (y := (.agg [(eI ({ ({ (x0 : R19_Jobs) with Down := v7 } : R19_Jobs) with Down := v19 } : R19_Jobs).Limit), (eT tk21 5 e_api_Entry ({ ({ (x0 : R19_Jobs) with Down := v7 } : R19_Jobs) with Down := v19 } : R19_Jobs).Down), ((eL 1 eS) ({ ({ (x0 : R19_Jobs) with Down := v7 } : R19_Jobs) with Down := v19 } : R19_Jobs).Up)])) tk hH 1 rfl ty33 (by simp) rfl rfl wr (b := (.agg [(eI ({ ({ (x0 : R19_Jobs) with Down := v7 } : R19_Jobs) with Down := v19 } : R19_Jobs).Limit), (eT tk21 5 e_api_Entry ({ ({ (x0 : R19_Jobs) with Down := v7 } : R19_Jobs) with Down := v19 } : R19_Jobs).Down), ((eL 1 eS) ({ ({ (x0 : R19_Jobs) with Down := v7 } : R19_Jobs) with Down := v19 } : R19_Jobs).Up)])) rfl rfl (nb rfl) [(eI (({ ({ (x0 : R19_Jobs) with Down := v7 } : R19_Jobs) with Down := v19 } : R19_Jobs) : R19_Jobs).Limit), (eT tk21 5 e_api_Entry (({ ({ (x0 : R19_Jobs) with Down := v7 } : R19_Jobs) with Down := v19 } : R19_Jobs) : R19_Jobs).Down), ((eL 1 eS) (({ ({ (x0 : R19_Jobs) with Down := v7 } : R19_Jobs) with Down := v19 } : R19_Jobs) : R19_Jobs).Up)] rfl) fun τ hH => ?_
  refine ma tk (eB true) rfl rfl (wpo_nil (awp_ret ?_))
  obtain rfl := oi H18
  exact ⟨_, (.tup [(e_R19_Jobs (({ ({ (x0 : R19_Jobs) with Down := v7 } : R19_Jobs) with Down := v19 } : R19_Jobs) : R19_Jobs)), (eB true)]), (ares_2 (ares_cell hH 1 rfl rfl rfl) rfl), (wk_tup (.cons (wk_agg (.cons wr (.cons wk_no (.cons wr .nil)))) (.cons wr .nil))), .of_eq (by simp only [cutAV, cutL, enc33.cut _ _ _, (enc_b td4 sz4).cut _ _ _]), ((hH.noT.drop n4).drop n2)⟩
theorem R19_Pop_ok {x0 : R19_Jobs} {r : R19_Jobs × api_Entry × Bool} (H : R19_Pop x0 = some r) (σ : St)  : ACall Tryd.prog 28 [(e_R19_Jobs x0)] σ (fun a τ => a = .tup [e_R19_Jobs r.1, e_api_Entry r.2.1, eB r.2.2] ∧ τ = σ) := by
 unfold R19_Pop at H
 refine ACall.pure (acall_start tk Tryd.func28 (by decide) rfl (nb rfl) ?_)
 have hH := Holds.init σ
 refine sr rfl (m_ (.fptr (c_R19_Jobs x0) 0) rfl (o_boxf tk rfl wr (b := (e_R19_Jobs x0)) (enc33.flat _)) ?_)
 refine wpo_a (av := fun id => .ref id 0) rfl rfl rfl (h_alloc tk hH ty33 [(eI z_R19_Jobs.Limit), AV.nils, AV.nils] rfl) fun id1 τ ⟨hH, n2⟩ => ?_
 refine wpo_a (av := fun id => .ref id 0) rfl rfl rfl (h_alloc tk hH ty42 [(eS z_api_Entry.Key), (eI z_api_Entry.Version), (eI z_api_Entry.AsOf), (eI z_api_Entry.Ends), AV.nils] rfl) fun id3 τ ⟨hH, n4⟩ => ?_
 refine ma tk (eB false) rfl rfl (wpo_nil (awp_seq (sr rfl (mc tk (.fptr (c_R19_Jobs x0) 1) rfl rfl (fun _ => rfl) (m_ ((eL 5 e_api_Entry) x0.Down) rfl (o_ld tk rfl rfl) ?_)))))
 refine l_ H eI rfl (o_len tk td30 rfl) fun v6 H5 => ?_
 refine l_ H5 eB rfl (o_ar tk rfl rfl rfl) fun v8 H7 => ?_
 refine wpo_nil ?_
 refine awp_if H7 rfl (fun H9 => ?_) (fun H9 => ?_)
 ·refine sr rfl (m_ (e_R19_Jobs x0) rfl (o_ld tk rfl rfl) (mc tk (.agg [(eS (⟨([] : List (BitVec 8)), (0 : Int), (0 : Int), (0 : Int), ([] : List (BitVec 8))⟩ : api_Entry).Key), (eI (⟨([] : List (BitVec 8)), (0 : Int), (0 : Int), (0 : Int), ([] : List (BitVec 8))⟩ : api_Entry).Version), (eI (⟨([] : List (BitVec 8)), (0 : Int), (0 : Int), (0 : Int), ([] : List (BitVec 8))⟩ : api_Entry).AsOf), (eI (⟨([] : List (BitVec 8)), (0 : Int), (0 : Int), (0 : Int), ([] : List (BitVec 8))⟩ : api_Entry).Ends), AV.nils]) rfl rfl (fun _ => rfl) ?_))
  refine wpo_z rfl rfl (h_st tk hH 1 rfl ty33 (by simp) rfl rfl wr (b := (e_R19_Jobs x0)) (enc33.flat _) rfl (nb rfl) (c_R19_Jobs (x0 : R19_Jobs)) rfl) fun τ hH => ?_
  refine wpo_z rfl rfl (h_st (y := (.agg [(eS (⟨([] : List (BitVec 8)), (0 : Int), (0 : Int), (0 : Int), ([] : List (BitVec 8))⟩ : api_Entry).Key), (eI (⟨([] : List (BitVec 8)), (0 : Int), (0 : Int), (0 : Int), ([] : List (BitVec 8))⟩ : api_Entry).Version), (eI (⟨([] : List (BitVec 8)), (0 : Int), (0 : Int), (0 : Int), ([] : List (BitVec 8))⟩ : api_Entry).AsOf), (eI (⟨([] : List (BitVec 8)), (0 : Int), (0 : Int), (0 : Int), ([] : List (BitVec 8))⟩ : api_Entry).Ends), AV.nils])) tk hH 0 rfl ty42 (by simp) rfl rfl wr (b := (.agg [(eS (⟨([] : List (BitVec 8)), (0 : Int), (0 : Int), (0 : Int), ([] : List (BitVec 8))⟩ : api_Entry).Key), (eI (⟨([] : List (BitVec 8)), (0 : Int), (0 : Int), (0 : Int), ([] : List (BitVec 8))⟩ : api_Entry).Version), (eI (⟨([] : List (BitVec 8)), (0 : Int), (0 : Int), (0 : Int), ([] : List (BitVec 8))⟩ : api_Entry).AsOf), (eI (⟨([] : List (BitVec 8)), (0 : Int), (0 : Int), (0 : Int), ([] : List (BitVec 8))⟩ : api_Entry).Ends), AV.nils])) rfl rfl (nb rfl) [(eS ((⟨([] : List (BitVec 8)), (0 : Int), (0 : Int), (0 : Int), ([] : List (BitVec 8))⟩ : api_Entry) : api_Entry).Key), (eI ((⟨([] : List (BitVec 8)), (0 : Int), (0 : Int), (0 : Int), ([] : List (BitVec 8))⟩ : api_Entry) : api_Entry).Version), (eI ((⟨([] : List (BitVec 8)), (0 : Int), (0 : Int), (0 : Int), ([] : List (BitVec 8))⟩ : api_Entry) : api_Entry).AsOf), (eI ((⟨([] : List (BitVec 8)), (0 : Int), (0 : Int), (0 : Int), ([] : List (BitVec 8))⟩ : api_Entry) : api_Entry).Ends), AV.nils] rfl) fun τ hH => ?_
  refine ma tk (eB false) rfl rfl (wpo_nil (awp_ret ?_))
  obtain rfl := oi H9
  exact ⟨_, (.tup [(e_R19_Jobs (x0 : R19_Jobs)), (e_api_Entry ((⟨([] : List (BitVec 8)), (0 : Int), (0 : Int), (0 : Int), ([] : List (BitVec 8))⟩ : api_Entry) : api_Entry)), (eB false)]), (ares_3 (ares_cell hH 1 rfl rfl rfl) (ares_cell hH 0 rfl rfl rfl) rfl), (wk_tup (.cons wr (.cons (wk_agg (.cons wr (.cons wr (.cons wr (.cons wr (.cons (wk_nils _) .nil)))))) (.cons wr .nil)))), .of_eq (by simp only [cutAV, cutL, enc33.cut _ _ _, enc42.cut _ _ _, (enc_b td4 sz4).cut _ _ _]), ((hH.noT.drop n4).drop n2)⟩
 ·refine awp_skip (sr rfl (m_ (e_R19_Jobs x0) rfl (o_ld tk rfl rfl) ?_))
  refine wpo_a (av := fun id => .ref id 0) rfl rfl rfl (h_alloc tk hH ty33 [(eI z_R19_Jobs.Limit), AV.nils, AV.nils] rfl) fun id12 τ ⟨hH, n13⟩ => ?_
  refine wpo_z rfl rfl (h_st tk hH 0 rfl ty33 (by simp) rfl rfl wr (b := (e_R19_Jobs x0)) (enc33.flat _) rfl (nb rfl) (c_R19_Jobs (x0 : R19_Jobs)) rfl) fun τ hH => ?_
  refine wpo_nil (sr rfl (mc tk (.fptr (c_R19_Jobs x0) 1) rfl rfl (fun _ => rfl) (m_ ((eL 5 e_api_Entry) x0.Down) rfl (o_ld tk rfl rfl) ?_)))
  refine b_ H9 (eL 5 e_api_Entry) rfl (fun v16 hv => o_cutFrom tk hv td30 enc42 rfl rfl) fun v16 hv16 H15 => ?_
  refine mc tk (.ref id12 1) rfl rfl (fun _ => rfl) ?_
  obtain ⟨c18, hc19, H17⟩ := lt_ex H15
  refine wpo_z rfl rfl (h_st tk hH 0 rfl ty30 (by simp) rfl rfl wr (b := ((eL 5 e_api_Entry) v16)) rfl rfl (nb rfl) (c_R19_Jobs c18) (by rw [← hc19]; rfl)) fun τ hH => ?_
  refine wpo_nil (awp_seq ?_)
  refine awp_drawS mixed [5, 6] rfl (by decide +kernel) rfl rfl ?_
  refine wpdS_rd (a := (e_R19_Jobs c18)) rfl (by decide +kernel) rfl rfl (h_ld tk hH 0 rfl rfl rfl) (wpdS_mv (a := (.fptr (c_R19_Jobs x0) 1)) rfl rfl rfl (o_c tk false rfl (fun _ => rfl)) (wpdS_mv (a := ((eL 5 e_api_Entry) x0.Down)) rfl rfl rfl (o_ld tk rfl rfl) ?_))
  refine wpdS_bd H17 (fun y => .fptr (e_api_Entry y).cells 0) rfl rfl rfl (fun v21 hv => o_ixa tk hv td30 enc42 rfl rfl) fun v21 hv21 H20 => ?_
  refine wpdS_mv (a := (e_api_Entry v21)) rfl rfl rfl (o_ld_e tk enc42 rfl rfl) ?_
  refine wpdS_z rfl rfl rfl (h_st tk hH 2 rfl ty33 (by simp) rfl rfl wr (b := (e_R19_Jobs c18)) (enc33.flat _) rfl (nb rfl) (c_R19_Jobs (c18 : R19_Jobs)) rfl) fun τ hH => ?_
  refine wpdS_z rfl rfl rfl (h_st tk hH 1 rfl ty42 (by simp) rfl rfl wr (b := (e_api_Entry v21)) (enc42.flat _) rfl (nb rfl) (c_api_Entry (v21 : api_Entry)) rfl) fun τ hH => ?_
  refine wpdS_mv (a := (eB true)) rfl rfl rfl (o_as tk rfl (Wk.refl _)) (wpdS_nil (awp_ret ?_))
  obtain rfl := oi H20
  exact ⟨_, (.tup [(e_R19_Jobs (c18 : R19_Jobs)), (e_api_Entry (v21 : api_Entry)), (eB true)]), (ares_3 (ares_cell hH 2 rfl rfl rfl) (ares_cell hH 1 rfl rfl rfl) rfl), (wk_tup (.cons wr (.cons wr (.cons wr .nil)))), .of_eq (by simp only [cutAV, cutL, enc33.cut _ _ _, enc42.cut _ _ _, (enc_b td4 sz4).cut _ _ _]), (((hH.noT.drop n13).drop n4).drop n2)⟩
theorem R06_Find_ok {x0 : List api_Entry} {x1 : List (BitVec 8)} {r : Int} (H : R06_Find x0 x1 = some r) (σ : St)  : ACall Tryd.prog 18 [((eL 5 e_api_Entry) x0), (eS x1)] σ (fun a τ => a = eI r ∧ τ = σ) := by
 unfold R06_Find at H
 refine ACall.pure (acall_start tk Tryd.func18 (by decide) rfl (nb rfl) ?_)
 have hH := Holds.init σ
 refine sr rfl (ma tk (eI (0 : Int)) rfl rfl (wpo_nil (awp_seq (sr rfl (ma tk (eI (0 : Int)) rfl rfl (wpo_nil (awp_block ?_)))))))
 obtain ⟨o2, hs3, hj4⟩ := ob H
 refine awp_cutx 0 (fun fr τ => ∃ s9 : Unit, o2 = .inl s9 ∧ WkF fr (fm []) ∧ Holds σ [] [] τ) ?_ ?_
 ·rintro fr τ ⟨s9, rfl, hfr, hH⟩
  have H24 := hj4
  simp only [Sum.elim_inl] at H24
  refine AWP.fm [] hfr ?_
  refine sr rfl (ma tk (eI (-1 : Int)) rfl rfl (wpo_nil (awp_ret ?_)))
  obtain rfl := oi H24
  exact ⟨_, (eI (-1 : Int)), rfl, wr, .of_eq ((enc_i64 td3 sz3).cut _ _ _), hH.noT⟩
 ·refine awp_loopO (body := fun s => R06_Find_b0 x0 x1 s) hs3 (fun (s : Int) fr τ => WkF fr (fm [(0, ((eL 5 e_api_Entry) x0)), (1, (eS x1)), (5, (eI s))]) ∧ Holds σ [] [] τ) ⟨(wc (wc (wc (wkf_nil _)))), hH⟩ ?_
  rintro c1 fr τ y5 ⟨hfr, hH⟩ hb7 hy8
  have H10 : R06_Find_b0 x0 x1 c1 = some y5 := hb7
  unfold R06_Find_b0 at H10
  refine AWP.fm [(0, ((eL 5 e_api_Entry) x0)), (1, (eS x1)), (5, (eI c1))] hfr ?_
  have hH : Holds σ [] [] τ := hH
  refine awp_seq (sr rfl (mm tk (eI c1) rfl rfl (mm tk ((eL 5 e_api_Entry) x0) rfl rfl ?_)))
  refine l_ H10 eI rfl (o_len tk td30 rfl) fun v12 H11 => ?_
  refine l_ H11 eB rfl (o_ar tk rfl rfl rfl) fun v14 H13 => ?_
  refine wpo_nil ?_
  refine awp_if H13 rfl (fun H15 => ?_) (fun H15 => ?_)
  ·refine awp_skip (awp_seq (awp_block (sr rfl (mm tk ((eL 5 e_api_Entry) x0) rfl rfl (mm tk (eI c1) rfl rfl ?_)))))
   refine b_ H15 (fun y => .fptr (e_api_Entry y).cells 0) rfl (fun v17 hv => o_ixa tk hv td30 enc42 rfl rfl) fun v17 hv17 H16 => ?_
   refine mc tk (.fptr (c_api_Entry v17) 0) rfl rfl (fun _ => rfl) (m_ (eS v17.Key) rfl (o_ld tk rfl rfl) (mm tk (eS x1) rfl rfl ?_))
   refine l_ H16 eB rfl (o_eql_s tk rfl rfl) fun v19 H18 => ?_
   refine wpo_nil ?_
   refine awp_if H18 rfl (fun H20 => ?_) (fun H20 => ?_)
   ·refine sr rfl (mm tk (eI c1) rfl rfl (ma tk (eI c1) rfl rfl (wpo_nil (awp_ret ?_))))
    have hz := hy8 _ (inj_inr H20)
    refine ⟨⟨_, inj_inr H20⟩, ?_⟩
    rw [← hz] at hj4
    have H21 := (show some _ = some _ from hj4)
    obtain rfl := oi H21
    exact ⟨_, (eI c1), rfl, wr, .of_eq ((enc_i64 td3 sz3).cut _ _ _), hH.noT⟩
   ·refine awp_skip (awp_region rfl (mm tk (eI c1) rfl rfl ?_))
    refine l_ H20 eI rfl (o_ar tk rfl rfl rfl) fun v23 H22 => ?_
    refine ma tk (eI v23) rfl rfl (wpo_nil ?_)
    exact ⟨v23, inj_inl H22, (wc (wc (wc (wkf_nil _)))), hH⟩
  ·refine awp_exit ?_
   have hz := hy8 _ (inj_inr H15)
   exact ⟨⟨_, inj_inr H15⟩, (), hz.symm, (wkf_nil _), hH⟩
theorem R19_Find_ok {x0 : R19_Jobs} {x1 : List (BitVec 8)} {r : api_Entry × Bool} (H : R19_Find x0 x1 = some r) (σ : St)  : ACall Tryd.prog 29 [(e_R19_Jobs x0), (eS x1)] σ (fun a τ => a = .tup [e_api_Entry r.1, eB r.2] ∧ τ = σ) := by
 unfold R19_Find at H
 refine ACall.pure (acall_start tk Tryd.func29 (by decide) rfl (nb rfl) ?_)
 have hH := Holds.init σ
 refine sr rfl (m_ (.fptr (c_R19_Jobs x0) 0) rfl (o_boxf tk rfl wr (b := (e_R19_Jobs x0)) (enc33.flat _)) ?_)
 refine wpo_a (av := fun id => .ref id 0) rfl rfl rfl (h_alloc tk hH ty42 [(eS z_api_Entry.Key), (eI z_api_Entry.Version), (eI z_api_Entry.AsOf), (eI z_api_Entry.Ends), AV.nils] rfl) fun id1 τ ⟨hH, n2⟩ => ?_
 refine ma tk (eB false) rfl rfl (wpo_nil (sr rfl (mc tk (.fptr (c_R19_Jobs x0) 1) rfl rfl (fun _ => rfl) (m_ ((eL 5 e_api_Entry) x0.Down) rfl (o_ld tk rfl rfl) (mm tk (eS x1) rfl rfl ?_)))))
 refine b_ H eI rfl (fun v4 hv => OpP.of_call rfl rfl (.cons wr (.cons wr .nil)) (R06_Find_ok hv)) fun v4 hv4 H3 => ?_
 refine ma tk (eI v4) rfl rfl (wpo_nil (awp_seq (sr rfl (mm tk (eI v4) rfl rfl ?_))))
 refine l_ H3 eB rfl (o_ar tk rfl rfl rfl) fun v6 H5 => ?_
 refine wpo_nil ?_
 refine awp_if H5 rfl (fun H7 => ?_) (fun H7 => ?_)
 ·refine sr rfl (mc tk (.agg [(eS (⟨([] : List (BitVec 8)), (0 : Int), (0 : Int), (0 : Int), ([] : List (BitVec 8))⟩ : api_Entry).Key), (eI (⟨([] : List (BitVec 8)), (0 : Int), (0 : Int), (0 : Int), ([] : List (BitVec 8))⟩ : api_Entry).Version), (eI (⟨([] : List (BitVec 8)), (0 : Int), (0 : Int), (0 : Int), ([] : List (BitVec 8))⟩ : api_Entry).AsOf), (eI (⟨([] : List (BitVec 8)), (0 : Int), (0 : Int), (0 : Int), ([] : List (BitVec 8))⟩ : api_Entry).Ends), AV.nils]) rfl rfl (fun _ => rfl) ?_)
  refine wpo_z rfl rfl (h_st (y := (.agg [(eS (⟨([] : List (BitVec 8)), (0 : Int), (0 : Int), (0 : Int), ([] : List (BitVec 8))⟩ : api_Entry).Key), (eI (⟨([] : List (BitVec 8)), (0 : Int), (0 : Int), (0 : Int), ([] : List (BitVec 8))⟩ : api_Entry).Version), (eI (⟨([] : List (BitVec 8)), (0 : Int), (0 : Int), (0 : Int), ([] : List (BitVec 8))⟩ : api_Entry).AsOf), (eI (⟨([] : List (BitVec 8)), (0 : Int), (0 : Int), (0 : Int), ([] : List (BitVec 8))⟩ : api_Entry).Ends), AV.nils])) tk hH 0 rfl ty42 (by simp) rfl rfl wr (b := (.agg [(eS (⟨([] : List (BitVec 8)), (0 : Int), (0 : Int), (0 : Int), ([] : List (BitVec 8))⟩ : api_Entry).Key), (eI (⟨([] : List (BitVec 8)), (0 : Int), (0 : Int), (0 : Int), ([] : List (BitVec 8))⟩ : api_Entry).Version), (eI (⟨([] : List (BitVec 8)), (0 : Int), (0 : Int), (0 : Int), ([] : List (BitVec 8))⟩ : api_Entry).AsOf), (eI (⟨([] : List (BitVec 8)), (0 : Int), (0 : Int), (0 : Int), ([] : List (BitVec 8))⟩ : api_Entry).Ends), AV.nils])) rfl rfl (nb rfl) [(eS ((⟨([] : List (BitVec 8)), (0 : Int), (0 : Int), (0 : Int), ([] : List (BitVec 8))⟩ : api_Entry) : api_Entry).Key), (eI ((⟨([] : List (BitVec 8)), (0 : Int), (0 : Int), (0 : Int), ([] : List (BitVec 8))⟩ : api_Entry) : api_Entry).Version), (eI ((⟨([] : List (BitVec 8)), (0 : Int), (0 : Int), (0 : Int), ([] : List (BitVec 8))⟩ : api_Entry) : api_Entry).AsOf), (eI ((⟨([] : List (BitVec 8)), (0 : Int), (0 : Int), (0 : Int), ([] : List (BitVec 8))⟩ : api_Entry) : api_Entry).Ends), AV.nils] rfl) fun τ hH => ?_
  refine ma tk (eB false) rfl rfl (wpo_nil (awp_ret ?_))
  obtain rfl := oi H7
  exact ⟨_, (.tup [(e_api_Entry ((⟨([] : List (BitVec 8)), (0 : Int), (0 : Int), (0 : Int), ([] : List (BitVec 8))⟩ : api_Entry) : api_Entry)), (eB false)]), (ares_2 (ares_cell hH 0 rfl rfl rfl) rfl), (wk_tup (.cons (wk_agg (.cons wr (.cons wr (.cons wr (.cons wr (.cons (wk_nils _) .nil)))))) (.cons wr .nil))), .of_eq (by simp only [cutAV, cutL, enc42.cut _ _ _, (enc_b td4 sz4).cut _ _ _]), (hH.noT.drop n2)⟩
 ·refine awp_skip (sr rfl (mc tk (.fptr (c_R19_Jobs x0) 1) rfl rfl (fun _ => rfl) (m_ ((eL 5 e_api_Entry) x0.Down) rfl (o_ld tk rfl rfl) (mm tk (eI v4) rfl rfl ?_))))
  refine b_ H7 (fun y => .fptr (e_api_Entry y).cells 0) rfl (fun v10 hv => o_ixa tk hv td30 enc42 rfl rfl) fun v10 hv10 H9 => ?_
  refine m_ (e_api_Entry v10) rfl (o_ld_e tk enc42 rfl rfl) ?_
  refine wpo_z rfl rfl (h_st tk hH 0 rfl ty42 (by simp) rfl rfl wr (b := (e_api_Entry v10)) (enc42.flat _) rfl (nb rfl) (c_api_Entry (v10 : api_Entry)) rfl) fun τ hH => ?_
  refine ma tk (eB true) rfl rfl (wpo_nil (awp_ret ?_))
  obtain rfl := oi H9
  exact ⟨_, (.tup [(e_api_Entry (v10 : api_Entry)), (eB true)]), (ares_2 (ares_cell hH 0 rfl rfl rfl) rfl), (wk_tup (.cons wr (.cons wr .nil))), .of_eq (by simp only [cutAV, cutL, enc42.cut _ _ _, (enc_b td4 sz4).cut _ _ _]), (hH.noT.drop n2)⟩
theorem R19_Drop_ok {x0 : R19_Jobs} {x1 : List (BitVec 8)} {r : R19_Jobs} (H : R19_Drop x0 x1 = some r) (σ : St)  : ACall Tryd.prog 30 [(e_R19_Jobs x0), (eS x1)] σ (fun a τ => a = e_R19_Jobs r ∧ τ = σ) := by
 unfold R19_Drop at H
 refine ACall.pure (acall_start tk Tryd.func30 (by decide) rfl (nb rfl) ?_)
 have hH := Holds.init σ
 refine sr rfl (m_ (.fptr (c_R19_Jobs x0) 0) rfl (o_boxf tk rfl wr (b := (e_R19_Jobs x0)) (enc33.flat _)) ?_)
 refine wpo_a (av := fun id => .ref id 0) rfl rfl rfl (h_alloc tk hH ty33 [(eI z_R19_Jobs.Limit), AV.nils, AV.nils] rfl) fun id1 τ ⟨hH, n2⟩ => ?_
 refine wpo_nil (sr rfl (m_ (e_R19_Jobs x0) rfl (o_ld tk rfl rfl) ?_))
 refine wpo_a (av := fun id => .ref id 0) rfl rfl rfl (h_alloc tk hH ty33 [(eI z_R19_Jobs.Limit), AV.nils, AV.nils] rfl) fun id3 τ ⟨hH, n4⟩ => ?_
 refine wpo_z rfl rfl (h_st tk hH 0 rfl ty33 (by simp) rfl rfl wr (b := (e_R19_Jobs x0)) (enc33.flat _) rfl (nb rfl) (c_R19_Jobs (x0 : R19_Jobs)) rfl) fun τ hH => ?_
 refine wpo_nil (sr rfl (mc tk (.fptr (c_R19_Jobs x0) 1) rfl rfl (fun _ => rfl) (m_ ((eL 5 e_api_Entry) x0.Down) rfl (o_ld tk rfl rfl) (mm tk (eS x1) rfl rfl ?_))))
 refine b_ H (eL 5 e_api_Entry) rfl (fun v7 hv => OpP.of_call rfl rfl (.cons wr (.cons wr .nil)) (R12_But_ok hv)) fun v7 hv7 H6 => ?_
 refine mc tk (.ref id3 1) rfl rfl (fun _ => rfl) ?_
 obtain ⟨c9, hc10, H8⟩ := lt_ex H6
 refine wpo_z rfl rfl (h_st tk hH 0 rfl ty30 (by simp) rfl rfl wr (b := ((eL 5 e_api_Entry) v7)) rfl rfl (nb rfl) (c_R19_Jobs c9) (by rw [← hc10]; rfl)) fun τ hH => ?_
 refine wpo_nil (sr rfl (wpo_rd (a := (e_R19_Jobs c9)) rfl rfl rfl (h_ld tk hH 0 rfl rfl rfl) ?_))
 refine wpo_z rfl rfl (h_st tk hH 1 rfl ty33 (by simp) rfl rfl wr (b := (e_R19_Jobs c9)) (enc33.flat _) rfl (nb rfl) (c_R19_Jobs (c9 : R19_Jobs)) rfl) fun τ hH => ?_
 refine wpo_nil (awp_ret ?_)
 obtain rfl := oi H8
 exact ⟨_, (e_R19_Jobs (c9 : R19_Jobs)), (ares_1 (ares_cell hH 1 rfl rfl rfl)), wr, .of_eq (enc33.cut _ _ _), ((hH.noT.drop n4).drop n2)⟩
theorem R19_Waits_ok {x0 : R19_Jobs} {x1 : List (BitVec 8)} {r : Bool} (H : R19_Waits x0 x1 = some r) (σ : St)  : ACall Tryd.prog 48 [(e_R19_Jobs x0), (eS x1)] σ (fun a τ => a = eB r ∧ τ = σ) := by
 unfold R19_Waits at H
 refine ACall.pure (acall_start tk Tryd.func48 (by decide) rfl (nb rfl) ?_)
 have hH := Holds.init σ
 refine sr rfl (m_ (.fptr (c_R19_Jobs x0) 0) rfl (o_boxf tk rfl wr (b := (e_R19_Jobs x0)) (enc33.flat _)) (ma tk (eB false) rfl rfl (wpo_nil (awp_seq (sr rfl (ma tk (eI (0 : Int)) rfl rfl (wpo_nil (awp_block ?_))))))))
 obtain ⟨o2, hs3, hj4⟩ := ob H
 refine awp_cutx 0 (fun fr τ => ∃ s9 : Unit, o2 = .inl s9 ∧ WkF fr (fm []) ∧ Holds σ [] [] τ) ?_ ?_
 ·rintro fr τ ⟨s9, rfl, hfr, hH⟩
  have H24 := hj4
  simp only [Sum.elim_inl] at H24
  refine AWP.fm [] hfr ?_
  refine sr rfl (ma tk (eB false) rfl rfl (wpo_nil (awp_ret ?_)))
  obtain rfl := oi H24
  exact ⟨_, (eB false), rfl, wr, .of_eq ((enc_b td4 sz4).cut _ _ _), hH.noT⟩
 ·refine awp_loopO (body := fun s => R19_Waits_b0 x0 x1 s) hs3 (fun (s : Int) fr τ => WkF fr (fm [(1, (eS x1)), (2, (.fptr (c_R19_Jobs x0) 0)), (5, (eI s))]) ∧ Holds σ [] [] τ) ⟨(wc (wc (wc (wkf_nil _)))), hH⟩ ?_
  rintro c1 fr τ y5 ⟨hfr, hH⟩ hb7 hy8
  have H10 : R19_Waits_b0 x0 x1 c1 = some y5 := hb7
  unfold R19_Waits_b0 at H10
  refine AWP.fm [(1, (eS x1)), (2, (.fptr (c_R19_Jobs x0) 0)), (5, (eI c1))] hfr ?_
  have hH : Holds σ [] [] τ := hH
  refine awp_seq (sr rfl (mm tk (eI c1) rfl rfl (mc tk (.fptr (c_R19_Jobs x0) 2) rfl rfl (fun _ => rfl) (m_ ((eL 1 eS) x0.Up) rfl (o_ld tk rfl rfl) ?_))))
  refine l_ H10 eI rfl (o_len tk td31 rfl) fun v12 H11 => ?_
  refine l_ H11 eB rfl (o_ar tk rfl rfl rfl) fun v14 H13 => ?_
  refine wpo_nil ?_
  refine awp_if H13 rfl (fun H15 => ?_) (fun H15 => ?_)
  ·refine awp_skip (awp_seq (awp_block (sr rfl (mc tk (.fptr (c_R19_Jobs x0) 2) rfl rfl (fun _ => rfl) (m_ ((eL 1 eS) x0.Up) rfl (o_ld tk rfl rfl) (mm tk (eI c1) rfl rfl ?_))))))
   refine b_ H15 (fun y => .fptr (eS y).cells 0) rfl (fun v17 hv => o_ixa tk hv td31 (enc_s td9 sz9) rfl rfl) fun v17 hv17 H16 => ?_
   refine m_ (eS v17) rfl (o_ld_e tk (enc_s td9 sz9) rfl rfl) (mm tk (eS x1) rfl rfl ?_)
   refine l_ H16 eB rfl (o_eql_s tk rfl rfl) fun v19 H18 => ?_
   refine wpo_nil ?_
   refine awp_if H18 rfl (fun H20 => ?_) (fun H20 => ?_)
   ·refine sr rfl (ma tk (eB true) rfl rfl (wpo_nil (awp_ret ?_)))
    have hz := hy8 _ (inj_inr H20)
    refine ⟨⟨_, inj_inr H20⟩, ?_⟩
    rw [← hz] at hj4
    have H21 := (show some _ = some _ from hj4)
    obtain rfl := oi H21
    exact ⟨_, (eB true), rfl, wr, .of_eq ((enc_b td4 sz4).cut _ _ _), hH.noT⟩
   ·refine awp_skip (awp_region rfl (mm tk (eI c1) rfl rfl ?_))
    refine l_ H20 eI rfl (o_ar tk rfl rfl rfl) fun v23 H22 => ?_
    refine ma tk (eI v23) rfl rfl (wpo_nil ?_)
    exact ⟨v23, inj_inl H22, (wc (wc (wc (wkf_nil _)))), hH⟩
  ·refine awp_exit ?_
   have hz := hy8 _ (inj_inr H15)
   exact ⟨⟨_, inj_inr H15⟩, (), hz.symm, (wkf_nil _), hH⟩
theorem R19_Want_ok {x0 : R19_Jobs} {x1 : List (BitVec 8)} {r : R19_Jobs × Bool} (H : R19_Want x0 x1 = some r) (σ : St)  : ACall Tryd.prog 31 [(e_R19_Jobs x0), (eS x1)] σ (fun a τ => a = .tup [e_R19_Jobs r.1, eB r.2] ∧ τ = σ) := by
 unfold R19_Want at H
 refine ACall.pure (acall_start tk Tryd.func31 (by decide) rfl (nb rfl) ?_)
 have hH := Holds.init σ
 refine sr rfl (m_ (.fptr (c_R19_Jobs x0) 0) rfl (o_boxf tk rfl wr (b := (e_R19_Jobs x0)) (enc33.flat _)) ?_)
 refine wpo_a (av := fun id => .ref id 0) rfl rfl rfl (h_alloc tk hH ty33 [(eI z_R19_Jobs.Limit), AV.nils, AV.nils] rfl) fun id1 τ ⟨hH, n2⟩ => ?_
 refine ma tk (eB false) rfl rfl (wpo_nil (awp_seq (sr rfl (m_ (e_R19_Jobs x0) rfl (o_ld tk rfl rfl) (mm tk (eS x1) rfl rfl ?_)))))
 refine b_ H eB rfl (fun v4 hv => OpP.of_call rfl rfl (.cons wr (.cons wr .nil)) (R19_Waits_ok hv)) fun v4 hv4 H3 => ?_
 refine wpo_nil ?_
 refine awp_if H3 rfl (fun H5 => ?_) (fun H5 => ?_)
 ·refine sr rfl (m_ (e_R19_Jobs x0) rfl (o_ld tk rfl rfl) ?_)
  refine wpo_z rfl rfl (h_st tk hH 0 rfl ty33 (by simp) rfl rfl wr (b := (e_R19_Jobs x0)) (enc33.flat _) rfl (nb rfl) (c_R19_Jobs (x0 : R19_Jobs)) rfl) fun τ hH => ?_
  refine ma tk (eB true) rfl rfl (wpo_nil (awp_ret ?_))
  obtain rfl := oi H5
  exact ⟨_, (.tup [(e_R19_Jobs (x0 : R19_Jobs)), (eB true)]), (ares_2 (ares_cell hH 0 rfl rfl rfl) rfl), (wk_tup (.cons wr (.cons wr .nil))), .of_eq (by simp only [cutAV, cutL, enc33.cut _ _ _, (enc_b td4 sz4).cut _ _ _]), (hH.noT.drop n2)⟩
 ·refine awp_skip (awp_seq (sr rfl (mc tk (.fptr (c_R19_Jobs x0) 2) rfl rfl (fun _ => rfl) (m_ ((eL 1 eS) x0.Up) rfl (o_ld tk rfl rfl) ?_))))
  refine l_ H5 eI rfl (o_len tk td31 rfl) fun v8 H7 => ?_
  refine mc tk (.fptr (c_R19_Jobs x0) 0) rfl rfl (fun _ => rfl) (m_ (eI x0.Limit) rfl (o_ld tk rfl rfl) ?_)
  refine l_ H7 eB rfl (o_ar tk rfl rfl rfl) fun v10 H9 => ?_
  refine wpo_nil ?_
  refine awp_if H9 rfl (fun H11 => ?_) (fun H11 => ?_)
  ·refine sr rfl (m_ (e_R19_Jobs x0) rfl (o_ld tk rfl rfl) ?_)
   refine wpo_z rfl rfl (h_st tk hH 0 rfl ty33 (by simp) rfl rfl wr (b := (e_R19_Jobs x0)) (enc33.flat _) rfl (nb rfl) (c_R19_Jobs (x0 : R19_Jobs)) rfl) fun τ hH => ?_
   refine ma tk (eB false) rfl rfl (wpo_nil (awp_ret ?_))
   obtain rfl := oi H11
   exact ⟨_, (.tup [(e_R19_Jobs (x0 : R19_Jobs)), (eB false)]), (ares_2 (ares_cell hH 0 rfl rfl rfl) rfl), (wk_tup (.cons wr (.cons wr .nil))), .of_eq (by simp only [cutAV, cutL, enc33.cut _ _ _, (enc_b td4 sz4).cut _ _ _]), (hH.noT.drop n2)⟩
  ·refine awp_skip (sr rfl (m_ (e_R19_Jobs x0) rfl (o_ld tk rfl rfl) ?_))
   refine wpo_a (av := fun id => .ref id 0) rfl rfl rfl (h_alloc tk hH ty33 [(eI z_R19_Jobs.Limit), AV.nils, AV.nils] rfl) fun id13 τ ⟨hH, n14⟩ => ?_
   refine wpo_z rfl rfl (h_st tk hH 0 rfl ty33 (by simp) rfl rfl wr (b := (e_R19_Jobs x0)) (enc33.flat _) rfl (nb rfl) (c_R19_Jobs (x0 : R19_Jobs)) rfl) fun τ hH => ?_
   refine wpo_nil (sr rfl (mc tk (.ref id13 2) rfl rfl (fun _ => rfl) ?_))
   refine wpo_z rfl rfl (h_st (y := AV.nils) tk hH 0 rfl ty31 (by simp) rfl rfl wr (b := AV.nils) rfl rfl (nb rfl) [(eI ({ (x0 : R19_Jobs) with Up := [] } : R19_Jobs).Limit), ((eL 5 e_api_Entry) ({ (x0 : R19_Jobs) with Up := [] } : R19_Jobs).Down), AV.nils] rfl) fun τ hH => ?_
   refine wpo_nil (sr rfl (mc tk (.ref id13 2) rfl rfl (fun _ => rfl) (wpo_rd (a := AV.nils) rfl rfl rfl (h_ld tk hH 0 rfl rfl rfl) (mc tk (.fptr (c_R19_Jobs x0) 2) rfl rfl (fun _ => rfl) (m_ ((eL 1 eS) x0.Up) rfl (o_ld tk rfl rfl) ?_)))))
   obtain ⟨v18, hv19, H17⟩ := ob H11
   refine wpo_a (av := fun t => eT t 1 eS v18) rfl rfl rfl (h_app0 tk hH hv19 td31 ty9 rfl (by decide) (.inl ⟨rfl, rfl⟩) (src_l td31 rfl)) fun tk20 τ hH => ?_
   refine mc tk (.ref id13 2) rfl rfl (fun _ => rfl) ?_
   refine wpo_z rfl rfl (h_st (y := (eT tk20 1 eS v18)) tk hH 0 rfl ty31 (by simp) rfl rfl wr (b := (eT tk20 1 eS v18)) rfl rfl (nb rfl) [(eI ({ ({ (x0 : R19_Jobs) with Up := [] } : R19_Jobs) with Up := v18 } : R19_Jobs).Limit), ((eL 5 e_api_Entry) ({ ({ (x0 : R19_Jobs) with Up := [] } : R19_Jobs) with Up := v18 } : R19_Jobs).Down), (eT tk20 1 eS ({ ({ (x0 : R19_Jobs) with Up := [] } : R19_Jobs) with Up := v18 } : R19_Jobs).Up)] rfl) fun τ hH => ?_
   refine wpo_nil (sr rfl (mc tk (.ref id13 2) rfl rfl (fun _ => rfl) (wpo_rd (a := (eT tk20 1 eS ({ ({ (x0 : R19_Jobs) with Up := [] } : R19_Jobs) with Up := v18 } : R19_Jobs).Up)) rfl rfl rfl (h_ld tk hH 0 rfl rfl rfl) (mm tk (eS x1) rfl rfl ?_))))
   refine l_ H17 (eF 1 eS) rfl (o_c tk false rfl (fun _ => rfl)) fun v23 H22 => ?_
   obtain ⟨v25, hv26, H24⟩ := ob H22
   refine wpo_a (av := fun t => eT t 1 eS v25) rfl rfl rfl (h_app tk hH 0 hv26 rfl td31 ty9 rfl (by decide) rfl (src_l td31 rfl)) fun tk27 τ hH => ?_
   refine mc tk (.ref id13 2) rfl rfl (fun _ => rfl) ?_
   refine wpo_z rfl rfl (h_st (y := (eT tk27 1 eS v25)) tk hH 0 rfl ty31 (by simp) rfl rfl wr (b := (eT tk27 1 eS v25)) rfl rfl (nb rfl) [(eI ({ ({ ({ (x0 : R19_Jobs) with Up := [] } : R19_Jobs) with Up := v18 } : R19_Jobs) with Up := v25 } : R19_Jobs).Limit), ((eL 5 e_api_Entry) ({ ({ ({ (x0 : R19_Jobs) with Up := [] } : R19_Jobs) with Up := v18 } : R19_Jobs) with Up := v25 } : R19_Jobs).Down), (eT tk27 1 eS ({ ({ ({ (x0 : R19_Jobs) with Up := [] } : R19_Jobs) with Up := v18 } : R19_Jobs) with Up := v25 } : R19_Jobs).Up)] rfl) fun τ hH => ?_
   refine wpo_nil (sr rfl (wpo_rd (a := (.agg [(eI ({ ({ ({ (x0 : R19_Jobs) with Up := [] } : R19_Jobs) with Up := v18 } : R19_Jobs) with Up := v25 } : R19_Jobs).Limit), ((eL 5 e_api_Entry) ({ ({ ({ (x0 : R19_Jobs) with Up := [] } : R19_Jobs) with Up := v18 } : R19_Jobs) with Up := v25 } : R19_Jobs).Down), (eT tk27 1 eS ({ ({ ({ (x0 : R19_Jobs) with Up := [] } : R19_Jobs) with Up := v18 } : R19_Jobs) with Up := v25 } : R19_Jobs).Up)])) rfl rfl rfl (h_ld tk hH 0 rfl rfl rfl) ?_))
   refine wpo_z rfl rfl (h_st (y := (.agg [(eI ({ ({ ({ (x0 : R19_Jobs) with Up := [] } : R19_Jobs) with Up := v18 } : R19_Jobs) with Up := v25 } : R19_Jobs).Limit), ((eL 5 e_api_Entry) ({ ({ ({ (x0 : R19_Jobs) with Up := [] } : R19_Jobs) with Up := v18 } : R19_Jobs) with Up := v25 } : R19_Jobs).Down), (eT tk27 1 eS ({ ({ ({ (x0 : R19_Jobs) with Up := [] } : R19_Jobs) with Up := v18 } : R19_Jobs) with Up := v25 } : R19_Jobs).Up)])) tk hH 1 rfl ty33 (by simp) rfl rfl wr (b := (.agg [(eI ({ ({ ({ (x0 : R19_Jobs) with Up := [] } : R19_Jobs) with Up := v18 } : R19_Jobs) with Up := v25 } : R19_Jobs).Limit), ((eL 5 e_api_Entry) ({ ({ ({ (x0 : R19_Jobs) with Up := [] } : R19_Jobs) with Up := v18 } : R19_Jobs) with Up := v25 } : R19_Jobs).Down), (eT tk27 1 eS ({ ({ ({ (x0 : R19_Jobs) with Up := [] } : R19_Jobs) with Up := v18 } : R19_Jobs) with Up := v25 } : R19_Jobs).Up)])) rfl rfl (nb rfl) [(eI (({ ({ ({ (x0 : R19_Jobs) with Up := [] } : R19_Jobs) with Up := v18 } : R19_Jobs) with Up := v25 } : R19_Jobs) : R19_Jobs).Limit), ((eL 5 e_api_Entry) (({ ({ ({ (x0 : R19_Jobs) with Up := [] } : R19_Jobs) with Up := v18 } : R19_Jobs) with Up := v25 } : R19_Jobs) : R19_Jobs).Down), (eT tk27 1 eS (({ ({ ({ (x0 : R19_Jobs) with Up := [] } : R19_Jobs) with Up := v18 } : R19_Jobs) with Up := v25 } : R19_Jobs) : R19_Jobs).Up)] rfl) fun τ hH => ?_
   refine ma tk (eB true) rfl rfl (wpo_nil (awp_ret ?_))
   obtain rfl := oi H24
   exact ⟨_, (.tup [(e_R19_Jobs (({ ({ ({ (x0 : R19_Jobs) with Up := [] } : R19_Jobs) with Up := v18 } : R19_Jobs) with Up := v25 } : R19_Jobs) : R19_Jobs)), (eB true)]), (ares_2 (ares_cell hH 1 rfl rfl rfl) rfl), (wk_tup (.cons (wk_agg (.cons wr (.cons wr (.cons wk_no .nil)))) (.cons wr .nil))), .of_eq (by simp only [cutAV, cutL, enc33.cut _ _ _, (enc_b td4 sz4).cut _ _ _]), ((hH.noT.drop n14).drop n2)⟩
theorem R19_Wanted_ok {x0 : R19_Jobs} {r : R19_Jobs × (List (BitVec 8)) × Bool} (H : R19_Wanted x0 = some r) (σ : St)  : ACall Tryd.prog 32 [(e_R19_Jobs x0)] σ (fun a τ => a = .tup [e_R19_Jobs r.1, eS r.2.1, eB r.2.2] ∧ τ = σ) := by
 unfold R19_Wanted at H
 refine ACall.pure (acall_start tk Tryd.func32 (by decide) rfl (nb rfl) ?_)
 have hH := Holds.init σ
 refine sr rfl (m_ (.fptr (c_R19_Jobs x0) 0) rfl (o_boxf tk rfl wr (b := (e_R19_Jobs x0)) (enc33.flat _)) ?_)
 refine wpo_a (av := fun id => .ref id 0) rfl rfl rfl (h_alloc tk hH ty33 [(eI z_R19_Jobs.Limit), AV.nils, AV.nils] rfl) fun id1 τ ⟨hH, n2⟩ => ?_
 refine ma tk (eS ([] : List (BitVec 8))) rfl rfl (ma tk (eB false) rfl rfl (wpo_nil (awp_seq (sr rfl (mc tk (.fptr (c_R19_Jobs x0) 2) rfl rfl (fun _ => rfl) (m_ ((eL 1 eS) x0.Up) rfl (o_ld tk rfl rfl) ?_))))))
 refine l_ H eI rfl (o_len tk td31 rfl) fun v4 H3 => ?_
 refine l_ H3 eB rfl (o_ar tk rfl rfl rfl) fun v6 H5 => ?_
 refine wpo_nil ?_
 refine awp_if H5 rfl (fun H7 => ?_) (fun H7 => ?_)
 ·refine sr rfl (m_ (e_R19_Jobs x0) rfl (o_ld tk rfl rfl) ?_)
  refine wpo_z rfl rfl (h_st tk hH 0 rfl ty33 (by simp) rfl rfl wr (b := (e_R19_Jobs x0)) (enc33.flat _) rfl (nb rfl) (c_R19_Jobs (x0 : R19_Jobs)) rfl) fun τ hH => ?_
  refine ma tk (eS ([] : List (BitVec 8))) rfl rfl (ma tk (eB false) rfl rfl (wpo_nil (awp_ret ?_)))
  obtain rfl := oi H7
  exact ⟨_, (.tup [(e_R19_Jobs (x0 : R19_Jobs)), (eS ([] : List (BitVec 8))), (eB false)]), (ares_3 (ares_cell hH 0 rfl rfl rfl) rfl rfl), (wk_tup (.cons wr (.cons wr (.cons wr .nil)))), .of_eq (by simp only [cutAV, cutL, enc33.cut _ _ _, (enc_s td9 sz9).cut _ _ _, (enc_b td4 sz4).cut _ _ _]), (hH.noT.drop n2)⟩
 ·refine awp_skip (sr rfl (m_ (e_R19_Jobs x0) rfl (o_ld tk rfl rfl) ?_))
  refine wpo_a (av := fun id => .ref id 0) rfl rfl rfl (h_alloc tk hH ty33 [(eI z_R19_Jobs.Limit), AV.nils, AV.nils] rfl) fun id9 τ ⟨hH, n10⟩ => ?_
  refine wpo_z rfl rfl (h_st tk hH 0 rfl ty33 (by simp) rfl rfl wr (b := (e_R19_Jobs x0)) (enc33.flat _) rfl (nb rfl) (c_R19_Jobs (x0 : R19_Jobs)) rfl) fun τ hH => ?_
  refine wpo_nil (sr rfl (mc tk (.fptr (c_R19_Jobs x0) 2) rfl rfl (fun _ => rfl) (m_ ((eL 1 eS) x0.Up) rfl (o_ld tk rfl rfl) ?_)))
  refine b_ H7 (eL 1 eS) rfl (fun v13 hv => o_cutFrom tk hv td31 (enc_s td9 sz9) rfl rfl) fun v13 hv13 H12 => ?_
  refine mc tk (.ref id9 2) rfl rfl (fun _ => rfl) ?_
  obtain ⟨c15, hc16, H14⟩ := lt_ex H12
  refine wpo_z rfl rfl (h_st tk hH 0 rfl ty31 (by simp) rfl rfl wr (b := ((eL 1 eS) v13)) rfl rfl (nb rfl) (c_R19_Jobs c15) (by rw [← hc16]; rfl)) fun τ hH => ?_
  refine wpo_nil (awp_seq ?_)
  refine awp_drawS mixed [5] rfl (by decide +kernel) rfl rfl ?_
  refine wpdS_rd (a := (e_R19_Jobs c15)) rfl (by decide +kernel) rfl rfl (h_ld tk hH 0 rfl rfl rfl) (wpdS_mv (a := (.fptr (c_R19_Jobs x0) 2)) rfl rfl rfl (o_c tk false rfl (fun _ => rfl)) (wpdS_mv (a := ((eL 1 eS) x0.Up)) rfl rfl rfl (o_ld tk rfl rfl) ?_))
  refine wpdS_bd H14 (fun y => .fptr (eS y).cells 0) rfl rfl rfl (fun v18 hv => o_ixa tk hv td31 (enc_s td9 sz9) rfl rfl) fun v18 hv18 H17 => ?_
  refine wpdS_mv (a := (eS v18)) rfl rfl rfl (o_ld_e tk (enc_s td9 sz9) rfl rfl) ?_
  refine wpdS_z rfl rfl rfl (h_st tk hH 1 rfl ty33 (by simp) rfl rfl wr (b := (e_R19_Jobs c15)) (enc33.flat _) rfl (nb rfl) (c_R19_Jobs (c15 : R19_Jobs)) rfl) fun τ hH => ?_
  refine wpdS_mv (a := (eS v18)) rfl rfl rfl (o_as tk rfl (Wk.refl _)) (wpdS_mv (a := (eB true)) rfl rfl rfl (o_as tk rfl (Wk.refl _)) (wpdS_nil (awp_ret ?_)))
  obtain rfl := oi H17
  exact ⟨_, (.tup [(e_R19_Jobs (c15 : R19_Jobs)), (eS v18), (eB true)]), (ares_3 (ares_cell hH 1 rfl rfl rfl) rfl rfl), (wk_tup (.cons wr (.cons wr (.cons wr .nil)))), .of_eq (by simp only [cutAV, cutL, enc33.cut _ _ _, (enc_s td9 sz9).cut _ _ _, (enc_b td4 sz4).cut _ _ _]), ((hH.noT.drop n10).drop n2)⟩
theorem jobs_Queue_string_pop_ok {x0 : jobs_Jobs} {r : (List (BitVec 8)) × Bool × jobs_Jobs} (H : jobs_Queue_string_pop x0 = some r) (σ : St) {p0 : Nat} {t_p0_down_l t_p0_up_l : Nat} (h0 : σ.objs[p0]? = some [(eI x0.down_limit), (.fn (.func 24) [] []), (eT t_p0_down_l 5 e_api_Entry x0.down_l), (eI x0.up_limit), (.fn (.func 25) [] []), (eT t_p0_up_l 1 eS x0.up_l)]) (hd : [p0].Pairwise fun a b => a ≠ b) (ho_p0_down_l : σ.opn[t_p0_down_l]? = some true) (ho_p0_up_l : σ.opn[t_p0_up_l]? = some true) (hn_p0_up_l : t_p0_up_l ∉ [t_p0_down_l]) : ACall Tryd.prog 49 [(.ref p0 3)] σ (fun a τ => a = .tup [eS r.1, eB r.2.1] ∧ τ = σ.grow [(p0, [(eI r.2.2.down_limit), (.fn (.func 24) [] []), (eT (σ.opn.length + 0) 5 e_api_Entry r.2.2.down_l), (eI r.2.2.up_limit), (.fn (.func 25) [] []), (eT (σ.opn.length + 1) 1 eS r.2.2.up_l)])] [] [t_p0_down_l, t_p0_up_l] 2) := by
 unfold jobs_Queue_string_pop at H
 refine ACall.outT (B := fun g => [(p0, [(eI r.2.2.down_limit), (.fn (.func 24) [] []), (eT (g 0) 5 e_api_Entry r.2.2.down_l), (eI r.2.2.up_limit), (.fn (.func 25) [] []), (eT (g 1) 1 eS r.2.2.up_l)])]) [t_p0_down_l, t_p0_up_l] 2 (fun ρ κ => by simp only [cutAV, cutL, (enc_s td9 sz9).cut ρ κ, (enc_b td4 sz4).cut ρ κ]) (by intro g; simp only [List.mem_cons, List.not_mem_nil, or_false]; rintro _ rfl; exact (List.getElem?_eq_some_iff.1 h0).1) (fun ρ κ g g1 h2 h3 => .cons rfl (.cons (.of_eq ((enc_i64 td3 sz3).cut ρ κ _)) (.cons wr (.cons (.of_eq (cut_eT enc42.cut (h2 0 (by decide)) _)) (.cons (.of_eq ((enc_i64 td3 sz3).cut ρ κ _)) (.cons wr (.cons (.of_eq (cut_eT (enc_s td9 sz9).cut (h2 1 (by decide)) _)) .nil)))))) .nil) (acall_start tk Tryd.func49 (by decide) rfl (nb rfl) ?_)
 have hH := Holds.brings (σ := σ) [(p0, [(eI x0.down_limit), (.fn (.func 24) [] []), (eT t_p0_down_l 5 e_api_Entry x0.down_l), (eI x0.up_limit), (.fn (.func 25) [] []), (eT t_p0_up_l 1 eS x0.up_l)])] (by simp only [List.mem_cons, List.not_mem_nil, or_false]; rintro _ (rfl) <;> assumption) hd
 refine AWP.reT hH 0 2 rfl rfl ho_p0_down_l fun tk1 τ (hH : Holds (σ.shut [t_p0_down_l]) [(p0, [(eI x0.down_limit), (.fn (.func 24) [] []), (eT tk1 5 e_api_Entry x0.down_l), (eI x0.up_limit), (.fn (.func 25) [] []), (eT t_p0_up_l 1 eS x0.up_l)])] [tk1] τ) => ?_
 refine AWP.reT hH 0 5 rfl rfl (shut_in [t_p0_down_l] _ _ ho_p0_up_l hn_p0_up_l) fun tk2 τ (hH : Holds (σ.shut [t_p0_down_l, t_p0_up_l]) [(p0, [(eI x0.down_limit), (.fn (.func 24) [] []), (eT tk1 5 e_api_Entry x0.down_l), (eI x0.up_limit), (.fn (.func 25) [] []), (eT tk2 1 eS x0.up_l)])] [tk2, tk1] τ) => ?_
 refine sr rfl (ma tk (eS ([] : List (BitVec 8))) rfl rfl (ma tk (eB false) rfl rfl (wpo_nil (awp_seq (sr rfl (mm tk (.ref p0 3) rfl rfl (mc tk (.ref p0 3) rfl rfl (fun _ => rfl) (mc tk (.ref p0 5) rfl rfl (fun _ => rfl) ?_))))))))
 refine wpo_rd (a := (eT tk2 1 eS x0.up_l)) rfl rfl rfl (h_ld tk hH 0 rfl rfl rfl) ?_
 refine l_ H eI rfl (o_len tk td31 rfl) fun v4 H3 => ?_
 refine l_ H3 eB rfl (o_ar tk rfl rfl rfl) fun v6 H5 => ?_
 refine wpo_nil ?_
 refine awp_if H5 rfl (fun H7 => ?_) (fun H7 => ?_)
 ·refine sr rfl ?_
  refine wpo_a (av := fun id => .ref id 0) rfl rfl rfl (h_alloc tk hH ty9 [eS ([] : List (BitVec 8))] rfl) fun id8 τ ⟨hH, n9⟩ => ?_
  refine mc tk (.ref id8 0) rfl rfl (fun _ => rfl) (wpo_rd (a := (eS ([] : List (BitVec 8)))) rfl rfl rfl (h_ld tk hH 0 rfl rfl rfl) (ma tk (eS ([] : List (BitVec 8))) rfl rfl (ma tk (eB false) rfl rfl (wpo_nil (awp_ret ?_)))))
  obtain rfl := oi H7
  exact ⟨_, (.tup [(eS ([] : List (BitVec 8))), (eB false)]), rfl, (wk_tup (.cons wr (.cons wr .nil))), rfl, fun i => [tk1, tk2].getD i 0, ((hH.drop n9).tpick [1, 0] rfl (by decide))⟩
 ·refine awp_skip (sr rfl (mm tk (.ref p0 3) rfl rfl (mc tk (.ref p0 3) rfl rfl (fun _ => rfl) (mc tk (.ref p0 5) rfl rfl (fun _ => rfl) (wpo_rd (a := (eT tk2 1 eS x0.up_l)) rfl rfl rfl (h_ld tk hH 0 rfl rfl rfl) ?_)))))
  refine b_ H7 (fun y => .fptr (eS y).cells 0) rfl (fun v11 hv => o_ixa tk hv td31 (enc_s td9 sz9) rfl rfl) fun v11 hv11 H10 => ?_
  refine m_ (eS v11) rfl (o_ld_e tk (enc_s td9 sz9) rfl rfl) (ma tk (eS v11) rfl rfl (wpo_nil (sr rfl (mm tk (.ref p0 3) rfl rfl (mm tk (.ref p0 3) rfl rfl (mc tk (.ref p0 3) rfl rfl (fun _ => rfl) (mc tk (.ref p0 5) rfl rfl (fun _ => rfl) (wpo_rd (a := (eT tk2 1 eS x0.up_l)) rfl rfl rfl (h_ld tk hH 0 rfl rfl rfl) ?_))))))))
  refine b_ H10 (eT tk2 1 eS) rfl (fun v13 hv => o_cutFromT tk hv td31 (enc_s td9 sz9) rfl rfl) fun v13 hv13 H12 => ?_
  refine mc tk (.ref p0 3) rfl rfl (fun _ => rfl) (mc tk (.ref p0 5) rfl rfl (fun _ => rfl) ?_)
  refine wpo_z rfl rfl (h_st (y := (eT tk2 1 eS v13)) tk hH 0 rfl ty31 (by simp) rfl rfl wr (b := (eT tk2 1 eS v13)) rfl rfl (nb rfl) [(eI ({ x0 with up_l := v13 } : jobs_Jobs).down_limit), (.fn (.func 24) [] []), (eT tk1 5 e_api_Entry ({ x0 with up_l := v13 } : jobs_Jobs).down_l), (eI ({ x0 with up_l := v13 } : jobs_Jobs).up_limit), (.fn (.func 25) [] []), (eT tk2 1 eS ({ x0 with up_l := v13 } : jobs_Jobs).up_l)] rfl) fun τ hH => ?_
  refine wpo_nil (sr rfl (mm tk (eS v11) rfl rfl (ma tk (eS v11) rfl rfl (ma tk (eB true) rfl rfl (wpo_nil (awp_ret ?_))))))
  obtain rfl := oi H12
  exact ⟨_, (.tup [(eS v11), (eB true)]), rfl, (wk_tup (.cons wr (.cons wr .nil))), rfl, fun i => [tk1, tk2].getD i 0, (hH.tpick [1, 0] rfl (by decide))⟩
theorem jobs_Jobs_Wanted_ok {x0 : jobs_Jobs} {r : (List (BitVec 8)) × Bool × jobs_Jobs} (H : jobs_Jobs_Wanted x0 = some r) (σ : St) {p0 : Nat} {t_p0_down_l t_p0_up_l : Nat} (h0 : σ.objs[p0]? = some [(eI x0.down_limit), (.fn (.func 24) [] []), (eT t_p0_down_l 5 e_api_Entry x0.down_l), (eI x0.up_limit), (.fn (.func 25) [] []), (eT t_p0_up_l 1 eS x0.up_l)]) (hd : [p0].Pairwise fun a b => a ≠ b) (ho_p0_down_l : σ.opn[t_p0_down_l]? = some true) (ho_p0_up_l : σ.opn[t_p0_up_l]? = some true) (hn_p0_up_l : t_p0_up_l ∉ [t_p0_down_l]) : ACall Tryd.prog 33 [(.ref p0 0)] σ (fun a τ => a = .tup [eS r.1, eB r.2.1] ∧ τ = σ.grow [(p0, [(eI r.2.2.down_limit), (.fn (.func 24) [] []), (eT (σ.opn.length + 0) 5 e_api_Entry r.2.2.down_l), (eI r.2.2.up_limit), (.fn (.func 25) [] []), (eT (σ.opn.length + 1) 1 eS r.2.2.up_l)])] [] [t_p0_down_l, t_p0_up_l] 2) := by
 unfold jobs_Jobs_Wanted at H
 refine ACall.outT (B := fun g => [(p0, [(eI r.2.2.down_limit), (.fn (.func 24) [] []), (eT (g 0) 5 e_api_Entry r.2.2.down_l), (eI r.2.2.up_limit), (.fn (.func 25) [] []), (eT (g 1) 1 eS r.2.2.up_l)])]) [t_p0_down_l, t_p0_up_l] 2 (fun ρ κ => by simp only [cutAV, cutL, (enc_s td9 sz9).cut ρ κ, (enc_b td4 sz4).cut ρ κ]) (by intro g; simp only [List.mem_cons, List.not_mem_nil, or_false]; rintro _ rfl; exact (List.getElem?_eq_some_iff.1 h0).1) (fun ρ κ g g1 h2 h3 => .cons rfl (.cons (.of_eq ((enc_i64 td3 sz3).cut ρ κ _)) (.cons wr (.cons (.of_eq (cut_eT enc42.cut (h2 0 (by decide)) _)) (.cons (.of_eq ((enc_i64 td3 sz3).cut ρ κ _)) (.cons wr (.cons (.of_eq (cut_eT (enc_s td9 sz9).cut (h2 1 (by decide)) _)) .nil)))))) .nil) (acall_start tk Tryd.func33 (by decide) rfl (nb rfl) ?_)
 have hH := Holds.brings (σ := σ) [(p0, [(eI x0.down_limit), (.fn (.func 24) [] []), (eT t_p0_down_l 5 e_api_Entry x0.down_l), (eI x0.up_limit), (.fn (.func 25) [] []), (eT t_p0_up_l 1 eS x0.up_l)])] (by simp only [List.mem_cons, List.not_mem_nil, or_false]; rintro _ (rfl) <;> assumption) hd
 refine AWP.reT hH 0 2 rfl rfl ho_p0_down_l fun tk1 τ (hH : Holds (σ.shut [t_p0_down_l]) [(p0, [(eI x0.down_limit), (.fn (.func 24) [] []), (eT tk1 5 e_api_Entry x0.down_l), (eI x0.up_limit), (.fn (.func 25) [] []), (eT t_p0_up_l 1 eS x0.up_l)])] [tk1] τ) => ?_
 refine AWP.reT hH 0 5 rfl rfl (shut_in [t_p0_down_l] _ _ ho_p0_up_l hn_p0_up_l) fun tk2 τ (hH : Holds (σ.shut [t_p0_down_l, t_p0_up_l]) [(p0, [(eI x0.down_limit), (.fn (.func 24) [] []), (eT tk1 5 e_api_Entry x0.down_l), (eI x0.up_limit), (.fn (.func 25) [] []), (eT tk2 1 eS x0.up_l)])] [tk2, tk1] τ) => ?_
 refine sr rfl (ma tk (eS ([] : List (BitVec 8))) rfl rfl (ma tk (eB false) rfl rfl (wpo_nil (sr rfl (mm tk (.ref p0 0) rfl rfl (mc tk (.ref p0 0) rfl rfl (fun _ => rfl) (mc tk (.ref p0 3) rfl rfl (fun _ => rfl) ?_)))))))
 refine wpo_cb H (fun x _ => .tup [eS x.1, eB x.2.1]) rfl rfl rfl (fun v4 hv => h_callT hH [] 2 ((perm_at 1 rfl).trans (.cons _ ((perm_at 0 rfl).trans (.cons _ (.refl _))))) (fun g => [(0, (p0, [(eI v4.2.2.down_limit), (.fn (.func 24) [] []), (eT (g 0) 5 e_api_Entry v4.2.2.down_l), (eI v4.2.2.up_limit), (.fn (.func 25) [] []), (eT (g 1) 1 eS v4.2.2.up_l)]))]) (fun _ => ⟨⟨_, rfl⟩, trivial⟩) rfl rfl (.cons wr .nil) (jobs_Queue_string_pop_ok hv _ (hH.at_ 0 rfl) (hH.pw [0] rfl (by decide)) (hH.open_ 1 rfl) (hH.open_ 0 rfl) (hH.tnin 1 0 rfl rfl (by decide)))) fun v4 tk5 τ hv4 H3 (hH : Holds (σ.shut [t_p0_down_l, t_p0_up_l]) [(p0, [(eI v4.2.2.down_limit), (.fn (.func 24) [] []), (eT (tk5 + 0) 5 e_api_Entry v4.2.2.down_l), (eI v4.2.2.up_limit), (.fn (.func 25) [] []), (eT (tk5 + 1) 1 eS v4.2.2.up_l)])] [(tk5 + 0), (tk5 + 1)] τ) => ?_
 refine m_ (eS v4.1) rfl (o_ext tk rfl rfl) (m_ (eB v4.2.1) rfl (o_ext tk rfl rfl) (ma tk (eS v4.1) rfl rfl (ma tk (eB v4.2.1) rfl rfl (wpo_nil (awp_ret ?_)))))
 obtain rfl := oi H3
 exact ⟨_, (.tup [(eS v4.1), (eB v4.2.1)]), rfl, (wk_tup (.cons wr (.cons wr .nil))), rfl, fun i => [(tk5 + 0), (tk5 + 1)].getD i 0, (hH.tpick [0, 1] rfl (by decide))⟩
theorem L19_do_ok {x0 : jobs_Jobs} {x1 : R19_Jobs} {x2 : L19_Op} {r : R19_Jobs × Bool × jobs_Jobs} (H : L19_do x0 x1 x2 = some r) (σ : St) {p0 : Nat} {t_p0_down_l t_p0_up_l : Nat} (h0 : σ.objs[p0]? = some [(eI x0.down_limit), (.fn (.func 24) [] []), (eT t_p0_down_l 5 e_api_Entry x0.down_l), (eI x0.up_limit), (.fn (.func 25) [] []), (eT t_p0_up_l 1 eS x0.up_l)]) (hd : [p0].Pairwise fun a b => a ≠ b) (ho_p0_down_l : σ.opn[t_p0_down_l]? = some true) (ho_p0_up_l : σ.opn[t_p0_up_l]? = some true) (hn_p0_up_l : t_p0_up_l ∉ [t_p0_down_l]) : ACall Tryd.prog 10 [(.ref p0 0), (e_R19_Jobs x1), (e_L19_Op x2)] σ (fun a τ => a = .tup [e_R19_Jobs r.1, eB r.2.1] ∧ τ = σ.grow [(p0, [(eI r.2.2.down_limit), (.fn (.func 24) [] []), (eT (σ.opn.length + 0) 5 e_api_Entry r.2.2.down_l), (eI r.2.2.up_limit), (.fn (.func 25) [] []), (eT (σ.opn.length + 1) 1 eS r.2.2.up_l)])] [] [t_p0_down_l, t_p0_up_l] 2) := by
 unfold L19_do at H
 refine ACall.outT (B := fun g => [(p0, [(eI r.2.2.down_limit), (.fn (.func 24) [] []), (eT (g 0) 5 e_api_Entry r.2.2.down_l), (eI r.2.2.up_limit), (.fn (.func 25) [] []), (eT (g 1) 1 eS r.2.2.up_l)])]) [t_p0_down_l, t_p0_up_l] 2 (fun ρ κ => by simp only [cutAV, cutL, enc33.cut ρ κ, (enc_b td4 sz4).cut ρ κ]) (by intro g; simp only [List.mem_cons, List.not_mem_nil, or_false]; rintro _ rfl; exact (List.getElem?_eq_some_iff.1 h0).1) (fun ρ κ g g1 h2 h3 => .cons rfl (.cons (.of_eq ((enc_i64 td3 sz3).cut ρ κ _)) (.cons wr (.cons (.of_eq (cut_eT enc42.cut (h2 0 (by decide)) _)) (.cons (.of_eq ((enc_i64 td3 sz3).cut ρ κ _)) (.cons wr (.cons (.of_eq (cut_eT (enc_s td9 sz9).cut (h2 1 (by decide)) _)) .nil)))))) .nil) (acall_start tk Tryd.func10 (by decide) rfl (nb rfl) ?_)
 have hH := Holds.brings (σ := σ) [(p0, [(eI x0.down_limit), (.fn (.func 24) [] []), (eT t_p0_down_l 5 e_api_Entry x0.down_l), (eI x0.up_limit), (.fn (.func 25) [] []), (eT t_p0_up_l 1 eS x0.up_l)])] (by simp only [List.mem_cons, List.not_mem_nil, or_false]; rintro _ (rfl) <;> assumption) hd
 refine AWP.reT hH 0 2 rfl rfl ho_p0_down_l fun tk1 τ (hH : Holds (σ.shut [t_p0_down_l]) [(p0, [(eI x0.down_limit), (.fn (.func 24) [] []), (eT tk1 5 e_api_Entry x0.down_l), (eI x0.up_limit), (.fn (.func 25) [] []), (eT t_p0_up_l 1 eS x0.up_l)])] [tk1] τ) => ?_
 refine AWP.reT hH 0 5 rfl rfl (shut_in [t_p0_down_l] _ _ ho_p0_up_l hn_p0_up_l) fun tk2 τ (hH : Holds (σ.shut [t_p0_down_l, t_p0_up_l]) [(p0, [(eI x0.down_limit), (.fn (.func 24) [] []), (eT tk1 5 e_api_Entry x0.down_l), (eI x0.up_limit), (.fn (.func 25) [] []), (eT tk2 1 eS x0.up_l)])] [tk2, tk1] τ) => ?_
 refine sr rfl (m_ (.fptr (c_R19_Jobs x1) 0) rfl (o_boxf tk rfl wr (b := (e_R19_Jobs x1)) (enc33.flat _)) (m_ (.fptr (c_L19_Op x2) 0) rfl (o_boxf tk rfl wr (b := (e_L19_Op x2)) (enc44.flat _)) ?_))
 refine wpo_a (av := fun id => .ref id 0) rfl rfl rfl (h_alloc tk hH ty33 [(eI z_R19_Jobs.Limit), AV.nils, AV.nils] rfl) fun id3 τ ⟨hH, n4⟩ => ?_
 refine ma tk (eB false) rfl rfl (wpo_nil (awp_seq (sr rfl (mc tk (.fptr (c_L19_Op x2) 0) rfl rfl (fun _ => rfl) (m_ (eI x2.Kind) rfl (o_ld tk rfl rfl) (wpo_nil (awp_block (sr rfl ?_))))))))
 refine l_ H eB rfl (o_ar tk rfl rfl rfl) fun v6 H5 => ?_
 refine ma tk (eB v6) rfl rfl (wpo_nil ?_)
 refine awp_if H5 rfl (fun H7 => ?_) (fun H7 => ?_)
 ·refine sr rfl (m_ (e_R19_Jobs x1) rfl (o_ld tk rfl rfl) (mc tk (.fptr (c_L19_Op x2) 1) rfl rfl (fun _ => rfl) (m_ (e_api_Entry x2.X) rfl (o_ld tk rfl rfl) ?_)))
  refine b_ H7 (fun r => .tup [e_R19_Jobs r.1, eB r.2]) rfl (fun v9 hv => OpP.of_call rfl rfl (.cons wr (.cons wr .nil)) (R19_Push_ok hv)) fun v9 hv9 H8 => ?_
  refine mm tk (.tup [(e_R19_Jobs v9.1), (eB v9.2)]) rfl rfl (m_ (e_R19_Jobs v9.1) rfl (o_ext tk rfl rfl) (m_ (eB v9.2) rfl (o_ext tk rfl rfl) ?_))
  refine wpo_a (av := fun id => .ref id 0) rfl rfl rfl (h_alloc tk hH ty33 [(eI z_R19_Jobs.Limit), AV.nils, AV.nils] rfl) fun id10 τ ⟨hH, n11⟩ => ?_
  refine wpo_z rfl rfl (h_st tk hH 0 rfl ty33 (by simp) rfl rfl wr (b := (e_R19_Jobs v9.1)) (enc33.flat _) rfl (nb rfl) (c_R19_Jobs (v9.1 : R19_Jobs)) rfl) fun τ hH => ?_
  refine ma tk (eB v9.2) rfl rfl (wpo_nil (awp_seq ?_))
  refine awp_drawR mixed [4, 7] rfl (by decide +kernel) rfl rfl (fun σ => σ.objs[id10]? = some (c_R19_Jobs (v9.1 : R19_Jobs))) 1 (hH.at_ 0 rfl) ?_
  refine wpdR_rdp (a := (e_R19_Jobs (v9.1 : R19_Jobs))) rfl (by decide +kernel) rfl rfl (fun σ hF => (h_ld tk (Holds.one hF) 0 rfl rfl rfl)) ?_
  refine wpdR_mv (a := (.ref p0 0)) rfl rfl rfl (o_mv tk rfl (Wk.refl _)) ?_
  refine wpdR_mv (a := (.fptr (c_L19_Op x2) 1)) rfl rfl rfl (o_c tk false rfl (fun _ => rfl)) ?_
  refine wpdR_mv (a := (e_api_Entry x2.X)) rfl rfl rfl (o_ld tk rfl rfl) ?_
  refine wpdR_cb H8 (fun x _ => eB x.1) rfl rfl rfl (fun v14 hv => h_callT hH [] 2 ((perm_at 1 rfl).trans (.cons _ ((perm_at 0 rfl).trans (.cons _ (.refl _))))) (fun g => [(2, (p0, [(eI v14.2.down_limit), (.fn (.func 24) [] []), (eT (g 0) 5 e_api_Entry v14.2.down_l), (eI v14.2.up_limit), (.fn (.func 25) [] []), (eT (g 1) 1 eS v14.2.up_l)]))]) (fun _ => ⟨⟨_, rfl⟩, trivial⟩) rfl rfl (.cons wr (.cons wr .nil)) (jobs_Jobs_Push_ok hv _ (hH.at_ 2 rfl) (hH.pw [2] rfl (by decide)) (hH.open_ 1 rfl) (hH.open_ 0 rfl) (hH.tnin 1 0 rfl rfl (by decide)))) fun v14 tk15 τ hv14 H13 (hH : Holds (σ.shut [t_p0_down_l, t_p0_up_l]) [(id10, (c_R19_Jobs (v9.1 : R19_Jobs))), (id3, [(eI z_R19_Jobs.Limit), AV.nils, AV.nils]), (p0, [(eI v14.2.down_limit), (.fn (.func 24) [] []), (eT (tk15 + 0) 5 e_api_Entry v14.2.down_l), (eI v14.2.up_limit), (.fn (.func 25) [] []), (eT (tk15 + 1) 1 eS v14.2.up_l)])] [(tk15 + 0), (tk15 + 1)] τ) => ⟨fun _ => (hH.at_ 0 rfl), ?_⟩
  refine wpdR_mv (a := (eB v9.2)) rfl rfl rfl (o_mv tk rfl (Wk.refl _)) ?_
  refine wpdR_lt H13 eB rfl rfl rfl (o_bool_eql tk td4 rfl rfl) fun v17 H16 => ?_
  refine wpdR_z rfl rfl rfl (h_st tk hH 1 rfl ty33 (by simp) rfl rfl wr (b := (e_R19_Jobs (v9.1 : R19_Jobs))) (enc33.flat _) rfl (nb rfl) (c_R19_Jobs ((v9.1 : R19_Jobs) : R19_Jobs)) rfl) fun τ hH => ⟨fun h => absurd h (by decide +kernel), ?_⟩
  refine wpdR_mv (a := (eB v17)) rfl rfl rfl (o_as tk rfl (Wk.refl _)) ?_
  refine wpdR_nil ?_
  refine awp_ret ?_
  obtain rfl := oi H16
  exact ⟨_, (.tup [(e_R19_Jobs ((v9.1 : R19_Jobs) : R19_Jobs)), (eB v17)]), (ares_2 (ares_cell hH 1 rfl rfl rfl) rfl), (wk_tup (.cons wr (.cons wr .nil))), rfl, fun i => [(tk15 + 0), (tk15 + 1)].getD i 0, (((hH.drop n11).drop n4).tpick [0, 1] rfl (by decide))⟩
 ·refine sr rfl ?_
  refine l_ H7 eB rfl (o_ar tk rfl rfl rfl) fun v20 H19 => ?_
  refine ma tk (eB v20) rfl rfl (wpo_nil ?_)
  refine awp_if H19 rfl (fun H21 => ?_) (fun H21 => ?_)
  ·refine sr rfl (m_ (e_R19_Jobs x1) rfl (o_ld tk rfl rfl) ?_)
   refine b_ H21 (fun r => .tup [e_R19_Jobs r.1, e_api_Entry r.2.1, eB r.2.2]) rfl (fun v23 hv => OpP.of_call rfl rfl (.cons wr .nil) (R19_Pop_ok hv)) fun v23 hv23 H22 => ?_
   refine mm tk (.tup [(e_R19_Jobs v23.1), (e_api_Entry v23.2.1), (eB v23.2.2)]) rfl rfl (m_ (e_R19_Jobs v23.1) rfl (o_ext tk rfl rfl) (m_ (e_api_Entry v23.2.1) rfl (o_ext tk rfl rfl) (m_ (eB v23.2.2) rfl (o_ext tk rfl rfl) ?_)))
   refine wpo_a (av := fun id => .ref id 0) rfl rfl rfl (h_alloc tk hH ty33 [(eI z_R19_Jobs.Limit), AV.nils, AV.nils] rfl) fun id24 τ ⟨hH, n25⟩ => ?_
   refine wpo_a (av := fun id => .ref id 0) rfl rfl rfl (h_alloc tk hH ty42 [(eS z_api_Entry.Key), (eI z_api_Entry.Version), (eI z_api_Entry.AsOf), (eI z_api_Entry.Ends), AV.nils] rfl) fun id26 τ ⟨hH, n27⟩ => ?_
   refine wpo_z rfl rfl (h_st tk hH 1 rfl ty33 (by simp) rfl rfl wr (b := (e_R19_Jobs v23.1)) (enc33.flat _) rfl (nb rfl) (c_R19_Jobs (v23.1 : R19_Jobs)) rfl) fun τ hH => ?_
   refine wpo_z rfl rfl (h_st tk hH 0 rfl ty42 (by simp) rfl rfl wr (b := (e_api_Entry v23.2.1)) (enc42.flat _) rfl (nb rfl) (c_api_Entry (v23.2.1 : api_Entry)) rfl) fun τ hH => ?_
   refine ma tk (eB v23.2.2) rfl rfl (wpo_nil (sr rfl (mm tk (.ref p0 0) rfl rfl ?_)))
   refine wpo_cb H22 (fun x _ => .tup [e_api_Entry x.1, eB x.2.1]) rfl rfl rfl (fun v31 hv => h_callT hH [] 2 ((perm_at 1 rfl).trans (.cons _ ((perm_at 0 rfl).trans (.cons _ (.refl _))))) (fun g => [(3, (p0, [(eI v31.2.2.down_limit), (.fn (.func 24) [] []), (eT (g 0) 5 e_api_Entry v31.2.2.down_l), (eI v31.2.2.up_limit), (.fn (.func 25) [] []), (eT (g 1) 1 eS v31.2.2.up_l)]))]) (fun _ => ⟨⟨_, rfl⟩, trivial⟩) rfl rfl (.cons wr .nil) (jobs_Jobs_Pop_ok hv _ (hH.at_ 3 rfl) (hH.pw [3] rfl (by decide)) (hH.open_ 1 rfl) (hH.open_ 0 rfl) (hH.tnin 1 0 rfl rfl (by decide)))) fun v31 tk32 τ hv31 H30 (hH : Holds (σ.shut [t_p0_down_l, t_p0_up_l]) [(id26, (c_api_Entry (v23.2.1 : api_Entry))), (id24, (c_R19_Jobs (v23.1 : R19_Jobs))), (id3, [(eI z_R19_Jobs.Limit), AV.nils, AV.nils]), (p0, [(eI v31.2.2.down_limit), (.fn (.func 24) [] []), (eT (tk32 + 0) 5 e_api_Entry v31.2.2.down_l), (eI v31.2.2.up_limit), (.fn (.func 25) [] []), (eT (tk32 + 1) 1 eS v31.2.2.up_l)])] [(tk32 + 0), (tk32 + 1)] τ) => ?_
   refine mm tk (.tup [(e_api_Entry v31.1), (eB v31.2.1)]) rfl rfl (m_ (e_api_Entry v31.1) rfl (o_ext tk rfl rfl) (m_ (eB v31.2.1) rfl (o_ext tk rfl rfl) ?_))
   refine wpo_a (av := fun id => .ref id 0) rfl rfl rfl (h_alloc tk hH ty42 [(eS z_api_Entry.Key), (eI z_api_Entry.Version), (eI z_api_Entry.AsOf), (eI z_api_Entry.Ends), AV.nils] rfl) fun id33 τ ⟨hH, n34⟩ => ?_
   refine wpo_z rfl rfl (h_st tk hH 0 rfl ty42 (by simp) rfl rfl wr (b := (e_api_Entry v31.1)) (enc42.flat _) rfl (nb rfl) (c_api_Entry (v31.1 : api_Entry)) rfl) fun τ hH => ?_
   refine ma tk (eB v31.2.1) rfl rfl (wpo_nil (awp_seq ?_))
   refine awp_drawS mixed [9] rfl (by decide +kernel) rfl rfl ?_
   refine wpdS_rd (a := (e_R19_Jobs (v23.1 : R19_Jobs))) rfl (by decide +kernel) rfl rfl (h_ld tk hH 2 rfl rfl rfl) (wpdS_mv (a := (eB v23.2.2)) rfl rfl rfl (o_mv tk rfl (Wk.refl _)) (wpdS_mv (a := (eB v31.2.1)) rfl rfl rfl (o_mv tk rfl (Wk.refl _)) ?_))
   refine wpdS_lt H30 eB rfl rfl rfl (o_bool_eql tk td4 rfl rfl) fun v37 H36 => ?_
   refine wpdS_mv (a := (eB v37)) rfl rfl rfl (o_mv tk rfl (Wk.refl _)) ?_
   refine if_split H36 (fun hb H38 => ?_) (fun hb H38 => ?_)
   ·subst hb
    refine wpdS_rd (a := (e_api_Entry (v23.2.1 : api_Entry))) rfl (by decide +kernel) rfl rfl (h_ld tk hH 1 rfl rfl rfl) (wpdS_rd (a := (e_api_Entry (v31.1 : api_Entry))) rfl (by decide +kernel) rfl rfl (h_ld tk hH 0 rfl rfl rfl) ?_)
    refine wpdS_bd H38 eB rfl rfl rfl (fun v40 hv => OpP.of_call rfl rfl (.cons wr (.cons wr .nil)) (R06_Same_ok hv)) fun v40 hv40 H39 => ?_
    refine wpdS_mv (a := (eB v40)) rfl rfl rfl (o_pick_t tk rfl rfl (Wk.refl _)) ?_
    refine wpdS_z rfl rfl rfl (h_st tk hH 3 rfl ty33 (by simp) rfl rfl wr (b := (e_R19_Jobs (v23.1 : R19_Jobs))) (enc33.flat _) rfl (nb rfl) (c_R19_Jobs ((v23.1 : R19_Jobs) : R19_Jobs)) rfl) fun τ hH => ?_
    refine wpdS_mv (a := (eB v40)) rfl rfl rfl (o_as tk rfl (Wk.refl _)) (wpdS_nil (awp_ret ?_))
    obtain rfl := oi H39
    exact ⟨_, (.tup [(e_R19_Jobs ((v23.1 : R19_Jobs) : R19_Jobs)), (eB v40)]), (ares_2 (ares_cell hH 3 rfl rfl rfl) rfl), (wk_tup (.cons wr (.cons wr .nil))), rfl, fun i => [(tk32 + 0), (tk32 + 1)].getD i 0, (((((hH.drop n34).drop n27).drop n25).drop n4).tpick [0, 1] rfl (by decide))⟩
   ·subst hb
    refine wpdS_skip rfl rfl rfl (wpdS_skip rfl rfl rfl (wpdS_skip rfl rfl rfl (wpdS_mv (a := (eB false)) rfl rfl rfl (o_pick_f tk rfl rfl (Wk.refl _)) ?_)))
    refine wpdS_z rfl rfl rfl (h_st tk hH 3 rfl ty33 (by simp) rfl rfl wr (b := (e_R19_Jobs (v23.1 : R19_Jobs))) (enc33.flat _) rfl (nb rfl) (c_R19_Jobs ((v23.1 : R19_Jobs) : R19_Jobs)) rfl) fun τ hH => ?_
    refine wpdS_mv (a := (eB false)) rfl rfl rfl (o_as tk rfl (Wk.refl _)) (wpdS_nil (awp_ret ?_))
    obtain rfl := oi H38
    exact ⟨_, (.tup [(e_R19_Jobs ((v23.1 : R19_Jobs) : R19_Jobs)), (eB false)]), (ares_2 (ares_cell hH 3 rfl rfl rfl) rfl), (wk_tup (.cons wr (.cons wr .nil))), rfl, fun i => [(tk32 + 0), (tk32 + 1)].getD i 0, (((((hH.drop n34).drop n27).drop n25).drop n4).tpick [0, 1] rfl (by decide))⟩
  ·refine sr rfl ?_
   refine l_ H21 eB rfl (o_ar tk rfl rfl rfl) fun v44 H43 => ?_
   refine ma tk (eB v44) rfl rfl (wpo_nil ?_)
   refine awp_if H43 rfl (fun H45 => ?_) (fun H45 => ?_)
   ·refine sr rfl (m_ (e_R19_Jobs x1) rfl (o_ld tk rfl rfl) (mc tk (.fptr (c_L19_Op x2) 1) rfl rfl (fun _ => rfl) (mc tk (.fptr (c_L19_Op x2) 1) rfl rfl (fun _ => rfl) (m_ (eS x2.X.Key) rfl (o_ld tk rfl rfl) ?_))))
    refine b_ H45 (fun r => .tup [e_api_Entry r.1, eB r.2]) rfl (fun v47 hv => OpP.of_call rfl rfl (.cons wr (.cons wr .nil)) (R19_Find_ok hv)) fun v47 hv47 H46 => ?_
    refine mm tk (.tup [(e_api_Entry v47.1), (eB v47.2)]) rfl rfl (m_ (e_api_Entry v47.1) rfl (o_ext tk rfl rfl) (m_ (eB v47.2) rfl (o_ext tk rfl rfl) ?_))
    refine wpo_a (av := fun id => .ref id 0) rfl rfl rfl (h_alloc tk hH ty42 [(eS z_api_Entry.Key), (eI z_api_Entry.Version), (eI z_api_Entry.AsOf), (eI z_api_Entry.Ends), AV.nils] rfl) fun id48 τ ⟨hH, n49⟩ => ?_
    refine wpo_z rfl rfl (h_st tk hH 0 rfl ty42 (by simp) rfl rfl wr (b := (e_api_Entry v47.1)) (enc42.flat _) rfl (nb rfl) (c_api_Entry (v47.1 : api_Entry)) rfl) fun τ hH => ?_
    refine ma tk (eB v47.2) rfl rfl (wpo_nil (sr rfl (mm tk (.ref p0 0) rfl rfl (mc tk (.fptr (c_L19_Op x2) 1) rfl rfl (fun _ => rfl) (mc tk (.fptr (c_L19_Op x2) 1) rfl rfl (fun _ => rfl) (m_ (eS x2.X.Key) rfl (o_ld tk rfl rfl) ?_))))))
    refine wpo_cb H46 (fun x _ => .tup [e_api_Entry x.1, eB x.2.1]) rfl rfl rfl (fun v52 hv => h_callT hH [] 2 ((perm_at 1 rfl).trans (.cons _ ((perm_at 0 rfl).trans (.cons _ (.refl _))))) (fun g => [(2, (p0, [(eI v52.2.2.down_limit), (.fn (.func 24) [] []), (eT (g 0) 5 e_api_Entry v52.2.2.down_l), (eI v52.2.2.up_limit), (.fn (.func 25) [] []), (eT (g 1) 1 eS v52.2.2.up_l)]))]) (fun _ => ⟨⟨_, rfl⟩, trivial⟩) rfl rfl (.cons wr (.cons wr .nil)) (jobs_Jobs_Drop_ok hv _ (hH.at_ 2 rfl) (hH.pw [2] rfl (by decide)) (hH.open_ 1 rfl) (hH.open_ 0 rfl) (hH.tnin 1 0 rfl rfl (by decide)))) fun v52 tk53 τ hv52 H51 (hH : Holds (σ.shut [t_p0_down_l, t_p0_up_l]) [(id48, (c_api_Entry (v47.1 : api_Entry))), (id3, [(eI z_R19_Jobs.Limit), AV.nils, AV.nils]), (p0, [(eI v52.2.2.down_limit), (.fn (.func 24) [] []), (eT (tk53 + 0) 5 e_api_Entry v52.2.2.down_l), (eI v52.2.2.up_limit), (.fn (.func 25) [] []), (eT (tk53 + 1) 1 eS v52.2.2.up_l)])] [(tk53 + 0), (tk53 + 1)] τ) => ?_
    refine mm tk (.tup [(e_api_Entry v52.1), (eB v52.2.1)]) rfl rfl (m_ (e_api_Entry v52.1) rfl (o_ext tk rfl rfl) (m_ (eB v52.2.1) rfl (o_ext tk rfl rfl) ?_))
    refine wpo_a (av := fun id => .ref id 0) rfl rfl rfl (h_alloc tk hH ty42 [(eS z_api_Entry.Key), (eI z_api_Entry.Version), (eI z_api_Entry.AsOf), (eI z_api_Entry.Ends), AV.nils] rfl) fun id54 τ ⟨hH, n55⟩ => ?_
    refine wpo_z rfl rfl (h_st tk hH 0 rfl ty42 (by simp) rfl rfl wr (b := (e_api_Entry v52.1)) (enc42.flat _) rfl (nb rfl) (c_api_Entry (v52.1 : api_Entry)) rfl) fun τ hH => ?_
    refine ma tk (eB v52.2.1) rfl rfl (wpo_nil (sr rfl (m_ (e_R19_Jobs x1) rfl (o_ld tk rfl rfl) (mc tk (.fptr (c_L19_Op x2) 1) rfl rfl (fun _ => rfl) (mc tk (.fptr (c_L19_Op x2) 1) rfl rfl (fun _ => rfl) (m_ (eS x2.X.Key) rfl (o_ld tk rfl rfl) ?_))))))
    refine b_ H51 e_R19_Jobs rfl (fun v58 hv => OpP.of_call rfl rfl (.cons wr (.cons wr .nil)) (R19_Drop_ok hv)) fun v58 hv58 H57 => ?_
    refine mm tk (eB v47.2) rfl rfl (mm tk (eB v52.2.1) rfl rfl ?_)
    refine l_ H57 eB rfl (o_bool_eql tk td4 rfl rfl) fun v60 H59 => ?_
    refine mm tk (eB v60) rfl rfl ?_
    refine if_split H59 (fun hb H61 => ?_) (fun hb H61 => ?_)
    ·subst hb
     refine wpo_rd (a := (e_api_Entry (v47.1 : api_Entry))) rfl rfl rfl (h_ld tk hH 1 rfl rfl rfl) (wpo_rd (a := (e_api_Entry (v52.1 : api_Entry))) rfl rfl rfl (h_ld tk hH 0 rfl rfl rfl) ?_)
     refine b_ H61 eB rfl (fun v63 hv => OpP.of_call rfl rfl (.cons wr (.cons wr .nil)) (R06_Same_ok hv)) fun v63 hv63 H62 => ?_
     refine pt tk (eB v63) rfl rfl rfl ?_
     refine wpo_z rfl rfl (h_st tk hH 2 rfl ty33 (by simp) rfl rfl wr (b := (e_R19_Jobs v58)) (enc33.flat _) rfl (nb rfl) (c_R19_Jobs (v58 : R19_Jobs)) rfl) fun τ hH => ?_
     refine ma tk (eB v63) rfl rfl (wpo_nil (awp_ret ?_))
     obtain rfl := oi H62
     exact ⟨_, (.tup [(e_R19_Jobs (v58 : R19_Jobs)), (eB v63)]), (ares_2 (ares_cell hH 2 rfl rfl rfl) rfl), (wk_tup (.cons wr (.cons wr .nil))), rfl, fun i => [(tk53 + 0), (tk53 + 1)].getD i 0, ((((hH.drop n55).drop n49).drop n4).tpick [0, 1] rfl (by decide))⟩
    ·subst hb
     refine k_ rfl (k_ rfl (k_ rfl (pf tk (eB false) rfl rfl rfl ?_)))
     refine wpo_z rfl rfl (h_st tk hH 2 rfl ty33 (by simp) rfl rfl wr (b := (e_R19_Jobs v58)) (enc33.flat _) rfl (nb rfl) (c_R19_Jobs (v58 : R19_Jobs)) rfl) fun τ hH => ?_
     refine ma tk (eB false) rfl rfl (wpo_nil (awp_ret ?_))
     obtain rfl := oi H61
     exact ⟨_, (.tup [(e_R19_Jobs (v58 : R19_Jobs)), (eB false)]), (ares_2 (ares_cell hH 2 rfl rfl rfl) rfl), (wk_tup (.cons wr (.cons wr .nil))), rfl, fun i => [(tk53 + 0), (tk53 + 1)].getD i 0, ((((hH.drop n55).drop n49).drop n4).tpick [0, 1] rfl (by decide))⟩
   ·refine sr rfl ?_
    refine l_ H45 eB rfl (o_ar tk rfl rfl rfl) fun v67 H66 => ?_
    refine ma tk (eB v67) rfl rfl (wpo_nil ?_)
    refine awp_if H66 rfl (fun H68 => ?_) (fun H68 => ?_)
    ·refine sr rfl (m_ (e_R19_Jobs x1) rfl (o_ld tk rfl rfl) (mc tk (.fptr (c_L19_Op x2) 1) rfl rfl (fun _ => rfl) (mc tk (.fptr (c_L19_Op x2) 1) rfl rfl (fun _ => rfl) (m_ (eS x2.X.Key) rfl (o_ld tk rfl rfl) ?_))))
     refine b_ H68 (fun r => .tup [e_R19_Jobs r.1, eB r.2]) rfl (fun v70 hv => OpP.of_call rfl rfl (.cons wr (.cons wr .nil)) (R19_Want_ok hv)) fun v70 hv70 H69 => ?_
     refine mm tk (.tup [(e_R19_Jobs v70.1), (eB v70.2)]) rfl rfl (m_ (e_R19_Jobs v70.1) rfl (o_ext tk rfl rfl) (m_ (eB v70.2) rfl (o_ext tk rfl rfl) ?_))
     refine wpo_a (av := fun id => .ref id 0) rfl rfl rfl (h_alloc tk hH ty33 [(eI z_R19_Jobs.Limit), AV.nils, AV.nils] rfl) fun id71 τ ⟨hH, n72⟩ => ?_
     refine wpo_z rfl rfl (h_st tk hH 0 rfl ty33 (by simp) rfl rfl wr (b := (e_R19_Jobs v70.1)) (enc33.flat _) rfl (nb rfl) (c_R19_Jobs (v70.1 : R19_Jobs)) rfl) fun τ hH => ?_
     refine ma tk (eB v70.2) rfl rfl (wpo_nil (awp_seq ?_))
     refine awp_drawR mixed [5, 8] rfl (by decide +kernel) rfl rfl (fun σ => σ.objs[id71]? = some (c_R19_Jobs (v70.1 : R19_Jobs))) 1 (hH.at_ 0 rfl) ?_
     refine wpdR_rdp (a := (e_R19_Jobs (v70.1 : R19_Jobs))) rfl (by decide +kernel) rfl rfl (fun σ hF => (h_ld tk (Holds.one hF) 0 rfl rfl rfl)) ?_
     refine wpdR_mv (a := (.ref p0 0)) rfl rfl rfl (o_mv tk rfl (Wk.refl _)) ?_
     refine wpdR_mv (a := (.fptr (c_L19_Op x2) 1)) rfl rfl rfl (o_c tk false rfl (fun _ => rfl)) ?_
     refine wpdR_mv (a := (.fptr (c_L19_Op x2) 1)) rfl rfl rfl (o_c tk false rfl (fun _ => rfl)) ?_
     refine wpdR_mv (a := (eS x2.X.Key)) rfl rfl rfl (o_ld tk rfl rfl) ?_
     refine wpdR_cb H69 (fun x _ => eB x.1) rfl rfl rfl (fun v75 hv => h_callT hH [] 2 ((perm_at 1 rfl).trans (.cons _ ((perm_at 0 rfl).trans (.cons _ (.refl _))))) (fun g => [(2, (p0, [(eI v75.2.down_limit), (.fn (.func 24) [] []), (eT (g 0) 5 e_api_Entry v75.2.down_l), (eI v75.2.up_limit), (.fn (.func 25) [] []), (eT (g 1) 1 eS v75.2.up_l)]))]) (fun _ => ⟨⟨_, rfl⟩, trivial⟩) rfl rfl (.cons wr (.cons wr .nil)) (jobs_Jobs_Want_ok hv _ (hH.at_ 2 rfl) (hH.pw [2] rfl (by decide)) (hH.open_ 1 rfl) (hH.open_ 0 rfl) (hH.tnin 1 0 rfl rfl (by decide)))) fun v75 tk76 τ hv75 H74 (hH : Holds (σ.shut [t_p0_down_l, t_p0_up_l]) [(id71, (c_R19_Jobs (v70.1 : R19_Jobs))), (id3, [(eI z_R19_Jobs.Limit), AV.nils, AV.nils]), (p0, [(eI v75.2.down_limit), (.fn (.func 24) [] []), (eT (tk76 + 0) 5 e_api_Entry v75.2.down_l), (eI v75.2.up_limit), (.fn (.func 25) [] []), (eT (tk76 + 1) 1 eS v75.2.up_l)])] [(tk76 + 0), (tk76 + 1)] τ) => ⟨fun _ => (hH.at_ 0 rfl), ?_⟩
     refine wpdR_mv (a := (eB v70.2)) rfl rfl rfl (o_mv tk rfl (Wk.refl _)) ?_
     refine wpdR_lt H74 eB rfl rfl rfl (o_bool_eql tk td4 rfl rfl) fun v78 H77 => ?_
     refine wpdR_z rfl rfl rfl (h_st tk hH 1 rfl ty33 (by simp) rfl rfl wr (b := (e_R19_Jobs (v70.1 : R19_Jobs))) (enc33.flat _) rfl (nb rfl) (c_R19_Jobs ((v70.1 : R19_Jobs) : R19_Jobs)) rfl) fun τ hH => ⟨fun h => absurd h (by decide +kernel), ?_⟩
     refine wpdR_mv (a := (eB v78)) rfl rfl rfl (o_as tk rfl (Wk.refl _)) ?_
     refine wpdR_nil ?_
     refine awp_ret ?_
     obtain rfl := oi H77
     exact ⟨_, (.tup [(e_R19_Jobs ((v70.1 : R19_Jobs) : R19_Jobs)), (eB v78)]), (ares_2 (ares_cell hH 1 rfl rfl rfl) rfl), (wk_tup (.cons wr (.cons wr .nil))), rfl, fun i => [(tk76 + 0), (tk76 + 1)].getD i 0, (((hH.drop n72).drop n4).tpick [0, 1] rfl (by decide))⟩
    ·refine sr rfl ?_
     refine l_ H68 eB rfl (o_ar tk rfl rfl rfl) fun v81 H80 => ?_
     refine ma tk (eB v81) rfl rfl (wpo_nil ?_)
     refine awp_if H80 rfl (fun H82 => ?_) (fun H82 => ?_)
     ·refine sr rfl (m_ (e_R19_Jobs x1) rfl (o_ld tk rfl rfl) ?_)
      refine b_ H82 (fun r => .tup [e_R19_Jobs r.1, eS r.2.1, eB r.2.2]) rfl (fun v84 hv => OpP.of_call rfl rfl (.cons wr .nil) (R19_Wanted_ok hv)) fun v84 hv84 H83 => ?_
      refine mm tk (.tup [(e_R19_Jobs v84.1), (eS v84.2.1), (eB v84.2.2)]) rfl rfl (m_ (e_R19_Jobs v84.1) rfl (o_ext tk rfl rfl) (m_ (eS v84.2.1) rfl (o_ext tk rfl rfl) (m_ (eB v84.2.2) rfl (o_ext tk rfl rfl) ?_)))
      refine wpo_a (av := fun id => .ref id 0) rfl rfl rfl (h_alloc tk hH ty33 [(eI z_R19_Jobs.Limit), AV.nils, AV.nils] rfl) fun id85 τ ⟨hH, n86⟩ => ?_
      refine wpo_z rfl rfl (h_st tk hH 0 rfl ty33 (by simp) rfl rfl wr (b := (e_R19_Jobs v84.1)) (enc33.flat _) rfl (nb rfl) (c_R19_Jobs (v84.1 : R19_Jobs)) rfl) fun τ hH => ?_
      refine ma tk (eS v84.2.1) rfl rfl (ma tk (eB v84.2.2) rfl rfl (wpo_nil (sr rfl (mm tk (.ref p0 0) rfl rfl ?_))))
      refine wpo_cb H83 (fun x _ => .tup [eS x.1, eB x.2.1]) rfl rfl rfl (fun v89 hv => h_callT hH [] 2 ((perm_at 1 rfl).trans (.cons _ ((perm_at 0 rfl).trans (.cons _ (.refl _))))) (fun g => [(2, (p0, [(eI v89.2.2.down_limit), (.fn (.func 24) [] []), (eT (g 0) 5 e_api_Entry v89.2.2.down_l), (eI v89.2.2.up_limit), (.fn (.func 25) [] []), (eT (g 1) 1 eS v89.2.2.up_l)]))]) (fun _ => ⟨⟨_, rfl⟩, trivial⟩) rfl rfl (.cons wr .nil) (jobs_Jobs_Wanted_ok hv _ (hH.at_ 2 rfl) (hH.pw [2] rfl (by decide)) (hH.open_ 1 rfl) (hH.open_ 0 rfl) (hH.tnin 1 0 rfl rfl (by decide)))) fun v89 tk90 τ hv89 H88 (hH : Holds (σ.shut [t_p0_down_l, t_p0_up_l]) [(id85, (c_R19_Jobs (v84.1 : R19_Jobs))), (id3, [(eI z_R19_Jobs.Limit), AV.nils, AV.nils]), (p0, [(eI v89.2.2.down_limit), (.fn (.func 24) [] []), (eT (tk90 + 0) 5 e_api_Entry v89.2.2.down_l), (eI v89.2.2.up_limit), (.fn (.func 25) [] []), (eT (tk90 + 1) 1 eS v89.2.2.up_l)])] [(tk90 + 0), (tk90 + 1)] τ) => ?_
      refine mm tk (.tup [(eS v89.1), (eB v89.2.1)]) rfl rfl (m_ (eS v89.1) rfl (o_ext tk rfl rfl) (m_ (eB v89.2.1) rfl (o_ext tk rfl rfl) (ma tk (eS v89.1) rfl rfl (ma tk (eB v89.2.1) rfl rfl (wpo_nil (sr rfl (wpo_rd (a := (e_R19_Jobs (v84.1 : R19_Jobs))) rfl rfl rfl (h_ld tk hH 0 rfl rfl rfl) (mm tk (eB v84.2.2) rfl rfl ?_))))))))
      refine mm tk (eB v89.2.1) rfl rfl ?_
      refine l_ H88 eB rfl (o_bool_eql tk td4 rfl rfl) fun v92 H91 => ?_
      refine mm tk (eB v92) rfl rfl ?_
      refine if_split H91 (fun hb H93 => ?_) (fun hb H93 => ?_)
      ·subst hb
       refine mm tk (eS v84.2.1) rfl rfl (mm tk (eS v89.1) rfl rfl ?_)
       refine l_ H93 eB rfl (o_eql_s tk rfl rfl) fun v95 H94 => ?_
       refine pt tk (eB v95) rfl rfl rfl ?_
       refine wpo_z rfl rfl (h_st tk hH 1 rfl ty33 (by simp) rfl rfl wr (b := (e_R19_Jobs (v84.1 : R19_Jobs))) (enc33.flat _) rfl (nb rfl) (c_R19_Jobs ((v84.1 : R19_Jobs) : R19_Jobs)) rfl) fun τ hH => ?_
       refine ma tk (eB v95) rfl rfl (wpo_nil (awp_ret ?_))
       obtain rfl := oi H94
       exact ⟨_, (.tup [(e_R19_Jobs ((v84.1 : R19_Jobs) : R19_Jobs)), (eB v95)]), (ares_2 (ares_cell hH 1 rfl rfl rfl) rfl), (wk_tup (.cons wr (.cons wr .nil))), rfl, fun i => [(tk90 + 0), (tk90 + 1)].getD i 0, (((hH.drop n86).drop n4).tpick [0, 1] rfl (by decide))⟩
      ·subst hb
       refine k_ rfl (k_ rfl (k_ rfl (pf tk (eB false) rfl rfl rfl ?_)))
       refine wpo_z rfl rfl (h_st tk hH 1 rfl ty33 (by simp) rfl rfl wr (b := (e_R19_Jobs (v84.1 : R19_Jobs))) (enc33.flat _) rfl (nb rfl) (c_R19_Jobs ((v84.1 : R19_Jobs) : R19_Jobs)) rfl) fun τ hH => ?_
       refine ma tk (eB false) rfl rfl (wpo_nil (awp_ret ?_))
       obtain rfl := oi H93
       exact ⟨_, (.tup [(e_R19_Jobs ((v84.1 : R19_Jobs) : R19_Jobs)), (eB false)]), (ares_2 (ares_cell hH 1 rfl rfl rfl) rfl), (wk_tup (.cons wr (.cons wr .nil))), rfl, fun i => [(tk90 + 0), (tk90 + 1)].getD i 0, (((hH.drop n86).drop n4).tpick [0, 1] rfl (by decide))⟩
     ·refine awp_skip (sr rfl (m_ (e_R19_Jobs x1) rfl (o_ld tk rfl rfl) (mc tk (.fptr (c_L19_Op x2) 1) rfl rfl (fun _ => rfl) (mc tk (.fptr (c_L19_Op x2) 1) rfl rfl (fun _ => rfl) (m_ (eS x2.X.Key) rfl (o_ld tk rfl rfl) ?_)))))
      refine b_ H82 (fun r => .tup [e_api_Entry r.1, eB r.2]) rfl (fun v99 hv => OpP.of_call rfl rfl (.cons wr (.cons wr .nil)) (R19_Find_ok hv)) fun v99 hv99 H98 => ?_
      refine mm tk (.tup [(e_api_Entry v99.1), (eB v99.2)]) rfl rfl (m_ (e_api_Entry v99.1) rfl (o_ext tk rfl rfl) (m_ (eB v99.2) rfl (o_ext tk rfl rfl) ?_))
      refine wpo_a (av := fun id => .ref id 0) rfl rfl rfl (h_alloc tk hH ty42 [(eS z_api_Entry.Key), (eI z_api_Entry.Version), (eI z_api_Entry.AsOf), (eI z_api_Entry.Ends), AV.nils] rfl) fun id100 τ ⟨hH, n101⟩ => ?_
      refine wpo_z rfl rfl (h_st tk hH 0 rfl ty42 (by simp) rfl rfl wr (b := (e_api_Entry v99.1)) (enc42.flat _) rfl (nb rfl) (c_api_Entry (v99.1 : api_Entry)) rfl) fun τ hH => ?_
      refine ma tk (eB v99.2) rfl rfl (wpo_nil (sr rfl (mm tk (.ref p0 0) rfl rfl (mc tk (.fptr (c_L19_Op x2) 1) rfl rfl (fun _ => rfl) (mc tk (.fptr (c_L19_Op x2) 1) rfl rfl (fun _ => rfl) (m_ (eS x2.X.Key) rfl (o_ld tk rfl rfl) ?_))))))
      refine wpo_bdr H98 (fun r => .tup [e_api_Entry r.1, eB r.2]) rfl rfl rfl (fun v104 hv => h_callr rfl rfl (.cons wr (.cons wr .nil)) (jobs_Jobs_Find_ok hv _ (hH.at_ 2 rfl) (hH.pw [2] rfl (by decide)))) fun v104 hv104 H103 => ?_
      refine mm tk (.tup [(e_api_Entry v104.1), (eB v104.2)]) rfl rfl (m_ (e_api_Entry v104.1) rfl (o_ext tk rfl rfl) (m_ (eB v104.2) rfl (o_ext tk rfl rfl) ?_))
      refine wpo_a (av := fun id => .ref id 0) rfl rfl rfl (h_alloc tk hH ty42 [(eS z_api_Entry.Key), (eI z_api_Entry.Version), (eI z_api_Entry.AsOf), (eI z_api_Entry.Ends), AV.nils] rfl) fun id105 τ ⟨hH, n106⟩ => ?_
      refine wpo_z rfl rfl (h_st tk hH 0 rfl ty42 (by simp) rfl rfl wr (b := (e_api_Entry v104.1)) (enc42.flat _) rfl (nb rfl) (c_api_Entry (v104.1 : api_Entry)) rfl) fun τ hH => ?_
      refine ma tk (eB v104.2) rfl rfl (wpo_nil (awp_seq ?_))
      refine awp_drawS mixed [9] rfl (by decide +kernel) rfl rfl ?_
      refine wpdS_mv (a := (e_R19_Jobs x1)) rfl rfl rfl (o_ld tk rfl rfl) (wpdS_mv (a := (eB v99.2)) rfl rfl rfl (o_mv tk rfl (Wk.refl _)) (wpdS_mv (a := (eB v104.2)) rfl rfl rfl (o_mv tk rfl (Wk.refl _)) ?_))
      refine wpdS_lt H103 eB rfl rfl rfl (o_bool_eql tk td4 rfl rfl) fun v109 H108 => ?_
      refine wpdS_mv (a := (eB v109)) rfl rfl rfl (o_mv tk rfl (Wk.refl _)) ?_
      refine if_split H108 (fun hb H110 => ?_) (fun hb H110 => ?_)
      ·subst hb
       refine wpdS_rd (a := (e_api_Entry (v99.1 : api_Entry))) rfl (by decide +kernel) rfl rfl (h_ld tk hH 1 rfl rfl rfl) (wpdS_rd (a := (e_api_Entry (v104.1 : api_Entry))) rfl (by decide +kernel) rfl rfl (h_ld tk hH 0 rfl rfl rfl) ?_)
       refine wpdS_bd H110 eB rfl rfl rfl (fun v112 hv => OpP.of_call rfl rfl (.cons wr (.cons wr .nil)) (R06_Same_ok hv)) fun v112 hv112 H111 => ?_
       refine wpdS_mv (a := (eB v112)) rfl rfl rfl (o_pick_t tk rfl rfl (Wk.refl _)) ?_
       refine wpdS_z rfl rfl rfl (h_st tk hH 2 rfl ty33 (by simp) rfl rfl wr (b := (e_R19_Jobs x1)) (enc33.flat _) rfl (nb rfl) (c_R19_Jobs (x1 : R19_Jobs)) rfl) fun τ hH => ?_
       refine wpdS_mv (a := (eB v112)) rfl rfl rfl (o_as tk rfl (Wk.refl _)) (wpdS_nil (awp_ret ?_))
       obtain rfl := oi H111
       exact ⟨_, (.tup [(e_R19_Jobs (x1 : R19_Jobs)), (eB v112)]), (ares_2 (ares_cell hH 2 rfl rfl rfl) rfl), (wk_tup (.cons wr (.cons wr .nil))), rfl, fun i => [tk1, tk2].getD i 0, ((((hH.drop n106).drop n101).drop n4).tpick [1, 0] rfl (by decide))⟩
      ·subst hb
       refine wpdS_skip rfl rfl rfl (wpdS_skip rfl rfl rfl (wpdS_skip rfl rfl rfl (wpdS_mv (a := (eB false)) rfl rfl rfl (o_pick_f tk rfl rfl (Wk.refl _)) ?_)))
       refine wpdS_z rfl rfl rfl (h_st tk hH 2 rfl ty33 (by simp) rfl rfl wr (b := (e_R19_Jobs x1)) (enc33.flat _) rfl (nb rfl) (c_R19_Jobs (x1 : R19_Jobs)) rfl) fun τ hH => ?_
       refine wpdS_mv (a := (eB false)) rfl rfl rfl (o_as tk rfl (Wk.refl _)) (wpdS_nil (awp_ret ?_))
       obtain rfl := oi H110
       exact ⟨_, (.tup [(e_R19_Jobs (x1 : R19_Jobs)), (eB false)]), (ares_2 (ares_cell hH 2 rfl rfl rfl) rfl), (wk_tup (.cons wr (.cons wr .nil))), rfl, fun i => [tk1, tk2].getD i 0, ((((hH.drop n106).drop n101).drop n4).tpick [1, 0] rfl (by decide))⟩
theorem jobs_Jobs_Down_ok {x0 : jobs_Jobs} {r : (List api_Entry)} (H : jobs_Jobs_Down x0 = some r) (σ : St) {p0 : Nat} {t_p0_down_l t_p0_up_l : Nat} (h0 : σ.objs[p0]? = some [(eI x0.down_limit), (.fn (.func 24) [] []), (eT t_p0_down_l 5 e_api_Entry x0.down_l), (eI x0.up_limit), (.fn (.func 25) [] []), (eT t_p0_up_l 1 eS x0.up_l)]) (hd : [p0].Pairwise fun a b => a ≠ b) : ACall Tryd.prog 12 [(.ref p0 0)] σ (fun a τ => a = (eL 5 e_api_Entry) r ∧ τ = σ) := by
 unfold jobs_Jobs_Down at H
 refine ACall.pure (acall_start tk Tryd.func12 (by decide) rfl (nb rfl) ?_)
 have hH := Holds.brings (σ := σ) [(p0, [(eI x0.down_limit), (.fn (.func 24) [] []), (eT t_p0_down_l 5 e_api_Entry x0.down_l), (eI x0.up_limit), (.fn (.func 25) [] []), (eT t_p0_up_l 1 eS x0.up_l)])] (by simp only [List.mem_cons, List.not_mem_nil, or_false]; rintro _ (rfl) <;> assumption) hd
 refine sr rfl (ma tk AV.nils rfl rfl (wpo_nil (sr rfl (ma tk AV.nils rfl rfl (wpo_nil (awp_seq (sr rfl (mm tk (.ref p0 0) rfl rfl ?_))))))))
 refine mc tk (.ref p0 0) rfl rfl (fun _ => rfl) (mc tk (.ref p0 0) rfl rfl (fun _ => rfl) (mc tk (.ref p0 2) rfl rfl (fun _ => rfl) (wpo_rd (a := ((eL 5 e_api_Entry) x0.down_l)) rfl rfl rfl (OpS.wkr wk_no (h_ld tk hH 0 rfl rfl rfl)) ?_)))
 refine l_ H eI rfl (o_len tk td30 rfl) fun v2 H1 => ?_
 refine mm tk (eI (0 : Int)) rfl rfl (wpo_nil (awp_block ?_))
 refine AWP.tokN hH 3 5 rfl fun tk5 τ hH => ?_
 obtain ⟨s13, hs7, hj8⟩ := ob H1
 refine awp_cutx 0 (fun fr τ => ∃ tk_3, WkF fr (fm [(3, (eT tk_3 5 e_api_Entry s13))]) ∧ Holds σ [(p0, [(eI x0.down_limit), (.fn (.func 24) [] []), (eT t_p0_down_l 5 e_api_Entry x0.down_l), (eI x0.up_limit), (.fn (.func 25) [] []), (eT t_p0_up_l 1 eS x0.up_l)])] [tk_3] τ) ?_ ?_
 ·rintro fr τ ⟨tk_3, hfr, hH⟩
  have H33 := hj8
  refine AWP.fm [(3, (eT tk_3 5 e_api_Entry s13))] hfr ?_
  refine sr rfl (mm tk (eT tk_3 5 e_api_Entry s13) rfl rfl (ma tk (eT tk_3 5 e_api_Entry s13) rfl rfl (wpo_nil (awp_ret ?_))))
  obtain rfl := oi H33
  exact ⟨_, ((eL 5 e_api_Entry) s13), rfl, wk_no, .of_eq ((enc_l td30 sz30 enc42.cut).cut _ _ _), (hH.noT.unbring h0)⟩
 ·refine awp_loopO (body := fun s => jobs_Jobs_Down_b0 x0 v2 s.1 s.2) hs7 (fun (s : (List api_Entry) × Int) fr τ => ∃ tk_3, WkF fr (fm [(3, (eT tk_3 5 e_api_Entry s.1)), (10, ((eL 5 e_api_Entry) x0.down_l)), (11, (eI v2)), (12, (eI s.2))]) ∧ Holds σ [(p0, [(eI x0.down_limit), (.fn (.func 24) [] []), (eT t_p0_down_l 5 e_api_Entry x0.down_l), (eI x0.up_limit), (.fn (.func 25) [] []), (eT t_p0_up_l 1 eS x0.up_l)])] [tk_3] τ) ⟨tk5, (wc (wc (wc (wc (wkf_nil _))))), hH⟩ ?_
  rintro ⟨c3, c4⟩ fr τ y9 ⟨tk_3, hfr, hH⟩ hb11 hy12
  have H14 : jobs_Jobs_Down_b0 x0 v2 c3 c4 = some y9 := hb11
  unfold jobs_Jobs_Down_b0 at H14
  refine AWP.fm [(3, (eT tk_3 5 e_api_Entry c3)), (10, ((eL 5 e_api_Entry) x0.down_l)), (11, (eI v2)), (12, (eI c4))] hfr ?_
  have hH : Holds σ [(p0, [(eI x0.down_limit), (.fn (.func 24) [] []), (eT t_p0_down_l 5 e_api_Entry x0.down_l), (eI x0.up_limit), (.fn (.func 25) [] []), (eT t_p0_up_l 1 eS x0.up_l)])] [tk_3] τ := hH
  refine sr rfl ?_
  refine l_ H14 eB rfl (o_ar tk rfl rfl rfl) fun v16 H15 => ?_
  refine wpo_nil (awp_seq ?_)
  refine awp_if H15 rfl (fun H17 => ?_) (fun H17 => ?_)
  ·refine awp_skip (awp_seq (awp_block (sr rfl ?_)))
   refine b_ H17 (fun y => .fptr (e_api_Entry y).cells 0) rfl (fun v19 hv => o_ixa tk hv td30 enc42 rfl rfl) fun v19 hv19 H18 => ?_
   refine m_ (e_api_Entry v19) rfl (o_ld_e tk enc42 rfl rfl) ?_
   refine wpo_a (av := fun id => .ref id 0) rfl rfl rfl (h_alloc tk hH ty42 [(eS z_api_Entry.Key), (eI z_api_Entry.Version), (eI z_api_Entry.AsOf), (eI z_api_Entry.Ends), AV.nils] rfl) fun id20 τ ⟨hH, n21⟩ => ?_
   refine wpo_z rfl rfl (h_st tk hH 0 rfl ty42 (by simp) rfl rfl wr (b := (e_api_Entry v19)) (enc42.flat _) rfl (nb rfl) (c_api_Entry (v19 : api_Entry)) rfl) fun τ hH => ?_
   refine wpo_nil (awp_region rfl (mm tk (eT tk_3 5 e_api_Entry c3) rfl rfl (wpo_rd (a := (e_api_Entry (v19 : api_Entry))) rfl rfl rfl (h_ld tk hH 0 rfl rfl rfl) ?_)))
   refine b_ H18 e_api_Entry rfl (fun v24 hv => OpP.of_call rfl rfl (.cons wr .nil) (item_Copy_ok hv)) fun v24 hv24 H23 => ?_
   refine l_ H23 (eF 5 e_api_Entry) rfl (o_c tk false rfl (fun _ => rfl)) fun v26 H25 => ?_
   obtain ⟨v28, hv29, H27⟩ := ob H25
   refine wpo_a (av := fun t => eT t 5 e_api_Entry v28) rfl rfl rfl (h_app tk hH 0 hv29 rfl td30 ty42 rfl (by decide) rfl (src_l td30 rfl)) fun tk30 τ hH => ?_
   refine ma tk (eT tk30 5 e_api_Entry v28) rfl rfl (wpo_nil (awp_region rfl ?_))
   refine l_ H27 eI rfl (o_ar tk rfl rfl rfl) fun v32 H31 => ?_
   refine mm tk (eI v32) rfl rfl (wpo_nil ?_)
   exact ⟨(v28, v32), inj_inl H31, tk30, (wc (wc (wc (wc (wkf_nil _))))), (hH.drop n21)⟩
  ·refine awp_exit ?_
   have hz := hy12 _ (inj_inr H17)
   subst hz
   exact ⟨⟨_, inj_inr H17⟩, tk_3, (wc (wkf_nil _)), hH⟩
theorem slices_Clone_string_string_ok {x0 : List (List (BitVec 8))} {r : (List (List (BitVec 8)))} (H : slices_Clone_string_string x0 = some r) (σ : St)  : ACall Tryd.prog 35 [((eL 1 eS) x0)] σ (fun a τ => a = (eL 1 eS) r ∧ τ = σ) := by
 unfold slices_Clone_string_string at H
 refine ACall.pure (acall_start tk Tryd.func35 (by decide) rfl (nb rfl) ?_)
 have hH := Holds.init σ
 refine sr rfl (ma tk AV.nils rfl rfl (wpo_nil (awp_seq (sr rfl (mm tk ((eL 1 eS) x0) rfl rfl ?_)))))
 refine wpo_nilq rfl rfl rfl (o_nilq tk td31 rfl rfl) fun b1 hb2 => ?_
 refine wpo_nil ?_
 refine awp_nilif (b := b1) rfl (fun hb2_ => ?_) ?_
 ·have hx4 := List.map_eq_nil_iff.1 (hb2 hb2_)
  have H3 : (some []) = some _ := Eq.trans (by simp [hx4, app]) H
  refine sr rfl (ma tk AV.nils rfl rfl (wpo_nil (awp_ret ?_)))
  obtain rfl := oi H3
  exact ⟨_, ((eL 1 eS) []), rfl, (wk_nils _), .of_eq ((enc_l td31 sz31 (enc_s td9 sz9).cut).cut _ _ _), hH.noT⟩
 ·refine awp_skip (sr rfl (mc tk (eF 1 eS ([] : List (List (BitVec 8)))) rfl rfl (fun _ => rfl) (mm tk ((eL 1 eS) x0) rfl rfl ?_)))
  obtain ⟨v6, hv7, H5⟩ := ob H
  refine wpo_a (av := fun t => eT t 1 eS v6) rfl rfl rfl (h_app0 tk hH hv7 td31 ty9 rfl (by decide) (.inr rfl) (src_l td31 rfl)) fun tk8 τ hH => ?_
  refine ma tk (eT tk8 1 eS v6) rfl rfl (wpo_nil (awp_ret ?_))
  obtain rfl := oi H5
  exact ⟨_, ((eL 1 eS) v6), rfl, wk_no, .of_eq ((enc_l td31 sz31 (enc_s td9 sz9).cut).cut _ _ _), hH.noT⟩
theorem jobs_Jobs_Up_ok {x0 : jobs_Jobs} {r : (List (List (BitVec 8)))} (H : jobs_Jobs_Up x0 = some r) (σ : St) {p0 : Nat} {t_p0_down_l t_p0_up_l : Nat} (h0 : σ.objs[p0]? = some [(eI x0.down_limit), (.fn (.func 24) [] []), (eT t_p0_down_l 5 e_api_Entry x0.down_l), (eI x0.up_limit), (.fn (.func 25) [] []), (eT t_p0_up_l 1 eS x0.up_l)]) (hd : [p0].Pairwise fun a b => a ≠ b) : ACall Tryd.prog 14 [(.ref p0 0)] σ (fun a τ => a = (eL 1 eS) r ∧ τ = σ) := by
 unfold jobs_Jobs_Up at H
 refine ACall.pure (acall_start tk Tryd.func14 (by decide) rfl (nb rfl) ?_)
 have hH := Holds.brings (σ := σ) [(p0, [(eI x0.down_limit), (.fn (.func 24) [] []), (eT t_p0_down_l 5 e_api_Entry x0.down_l), (eI x0.up_limit), (.fn (.func 25) [] []), (eT t_p0_up_l 1 eS x0.up_l)])] (by simp only [List.mem_cons, List.not_mem_nil, or_false]; rintro _ (rfl) <;> assumption) hd
 refine sr rfl (ma tk AV.nils rfl rfl (wpo_nil (sr rfl (mm tk (.ref p0 0) rfl rfl (mc tk (.ref p0 0) rfl rfl (fun _ => rfl) (mc tk (.ref p0 3) rfl rfl (fun _ => rfl) (mc tk (.ref p0 5) rfl rfl (fun _ => rfl) (wpo_rd (a := ((eL 1 eS) x0.up_l)) rfl rfl rfl (OpS.wkr wk_no (h_ld tk hH 0 rfl rfl rfl)) ?_))))))))
 refine b_ H (eL 1 eS) rfl (fun v2 hv => OpP.of_call rfl rfl (.cons wr .nil) (slices_Clone_string_string_ok hv)) fun v2 hv2 H1 => ?_
 refine ma tk ((eL 1 eS) v2) rfl rfl (wpo_nil (awp_ret ?_))
 obtain rfl := oi H1
 exact ⟨_, ((eL 1 eS) v2), rfl, wr, .of_eq ((enc_l td31 sz31 (enc_s td9 sz9).cut).cut _ _ _), (hH.noT.unbring h0)⟩
theorem L06_Light_ok {x0 : List api_Entry} {r : Int} (H : L06_Light x0 = some r) (σ : St)  : ACall Tryd.prog 15 [((eL 5 e_api_Entry) x0)] σ (fun a τ => a = eI r ∧ τ = σ) := by
 unfold L06_Light at H
 refine ACall.pure (acall_start tk Tryd.func15 (by decide) rfl (nb rfl) ?_)
 have hH := Holds.init σ
 refine sr rfl (ma tk (eI (0 : Int)) rfl rfl (wpo_nil (awp_seq (sr rfl (mm tk ((eL 5 e_api_Entry) x0) rfl rfl ?_)))))
 refine l_ H eI rfl (o_len tk td30 rfl) fun v2 H1 => ?_
 refine l_ H1 eB rfl (o_ar tk rfl rfl rfl) fun v4 H3 => ?_
 refine wpo_nil ?_
 refine awp_if H3 rfl (fun H5 => ?_) (fun H5 => ?_)
 ·refine sr rfl (ma tk (eI (1 : Int)) rfl rfl (wpo_nil (awp_ret ?_)))
  obtain rfl := oi H5
  exact ⟨_, (eI (1 : Int)), rfl, wr, .of_eq ((enc_i64 td3 sz3).cut _ _ _), hH.noT⟩
 ·refine awp_skip (sr rfl (ma tk (eI (0 : Int)) rfl rfl (wpo_nil (awp_seq (sr rfl (ma tk (eI (0 : Int)) rfl rfl (wpo_nil (awp_block ?_))))))))
  obtain ⟨o8, hs9, hj10⟩ := ob H5
  refine awp_cutx 0 (fun fr τ => ∃ s15 : Unit, o8 = .inl s15 ∧ WkF fr (fm []) ∧ Holds σ [] [] τ) ?_ ?_
  ·rintro fr τ ⟨s15, rfl, hfr, hH⟩
   have H54 := hj10
   simp only [Sum.elim_inl] at H54
   refine AWP.fm [] hfr ?_
   refine sr rfl (ma tk (eI (0 : Int)) rfl rfl (wpo_nil (awp_ret ?_)))
   obtain rfl := oi H54
   exact ⟨_, (eI (0 : Int)), rfl, wr, .of_eq ((enc_i64 td3 sz3).cut _ _ _), hH.noT⟩
  ·refine awp_loopO (body := fun s => L06_Light_b0 x0 s.1 s.2) hs9 (fun (s : Int × Int) fr τ => WkF fr (fm [(0, ((eL 5 e_api_Entry) x0)), (3, (eI s.1)), (4, (eI s.2))]) ∧ Holds σ [] [] τ) ⟨(wc (wc (wc (wkf_nil _)))), hH⟩ ?_
   rintro ⟨c6, c7⟩ fr τ y11 ⟨hfr, hH⟩ hb13 hy14
   have H16 : L06_Light_b0 x0 c6 c7 = some y11 := hb13
   unfold L06_Light_b0 at H16
   refine AWP.fm [(0, ((eL 5 e_api_Entry) x0)), (3, (eI c6)), (4, (eI c7))] hfr ?_
   have hH : Holds σ [] [] τ := hH
   refine awp_seq (sr rfl (mm tk (eI c7) rfl rfl (mm tk ((eL 5 e_api_Entry) x0) rfl rfl ?_)))
   refine l_ H16 eI rfl (o_len tk td30 rfl) fun v18 H17 => ?_
   refine l_ H17 eB rfl (o_ar tk rfl rfl rfl) fun v20 H19 => ?_
   refine wpo_nil ?_
   refine awp_if H19 rfl (fun H21 => ?_) (fun H21 => ?_)
   ·refine awp_skip (awp_seq (awp_block (awp_seq (awp_seq ?_))))
    obtain ⟨s22, hs24, hj25⟩ := ob H21
    refine awp_cutn (fun fr τ => WkF fr (fm [(0, ((eL 5 e_api_Entry) x0)), (3, (eI c6)), (4, (eI c7)), (29, (eB s22))]) ∧ Holds σ [] [] τ) ?_ ?_
    ·rintro fr τ ⟨hfr, hH⟩
     have H39 := hj25
     refine AWP.fm [(0, ((eL 5 e_api_Entry) x0)), (3, (eI c6)), (4, (eI c7)), (29, (eB s22))] hfr ?_
     refine awp_if H39 rfl (fun H40 => ?_) (fun H40 => ?_)
     ·refine sr rfl (ma tk (eI (1 : Int)) rfl rfl (wpo_nil (awp_ret ?_)))
      have hz := hy14 _ (inj_inr H40)
      refine ⟨⟨_, inj_inr H40⟩, ?_⟩
      rw [← hz] at hj10
      have H41 := (show some _ = some _ from hj10)
      obtain rfl := oi H41
      exact ⟨_, (eI (1 : Int)), rfl, wr, .of_eq ((enc_i64 td3 sz3).cut _ _ _), hH.noT⟩
     ·refine awp_skip (sr rfl (mm tk (eI c6) rfl rfl (mm tk ((eL 5 e_api_Entry) x0) rfl rfl (mm tk (eI c7) rfl rfl ?_))))
      refine b_ H40 (fun y => .fptr (e_api_Entry y).cells 0) rfl (fun v43 hv => o_ixa tk hv td30 enc42 rfl rfl) fun v43 hv43 H42 => ?_
      refine mc tk (.fptr (c_api_Entry v43) 4) rfl rfl (fun _ => rfl) (m_ ((eL 1 (@eU .u8 8)) v43.Value) rfl (o_ld tk rfl rfl) ?_)
      refine l_ H42 eI rfl (o_len tk td40 rfl) fun v45 H44 => ?_
      refine l_ H44 eI rfl (o_ar tk rfl rfl rfl) fun v47 H46 => ?_
      refine ma tk (eI v47) rfl rfl (wpo_nil (sr rfl (mm tk (eI v47) rfl rfl ?_)))
      refine l_ H46 eB rfl (o_ar tk rfl rfl rfl) fun v49 H48 => ?_
      refine wpo_nil ?_
      refine awp_if H48 rfl (fun H50 => ?_) (fun H50 => ?_)
      ·refine sr rfl (ma tk (eI (1 : Int)) rfl rfl (wpo_nil (awp_ret ?_)))
       have hz := hy14 _ (inj_inr H50)
       refine ⟨⟨_, inj_inr H50⟩, ?_⟩
       rw [← hz] at hj10
       have H51 := (show some _ = some _ from hj10)
       obtain rfl := oi H51
       exact ⟨_, (eI (1 : Int)), rfl, wr, .of_eq ((enc_i64 td3 sz3).cut _ _ _), hH.noT⟩
      ·refine awp_skip (awp_region rfl (mm tk (eI c7) rfl rfl ?_))
       refine l_ H50 eI rfl (o_ar tk rfl rfl rfl) fun v53 H52 => ?_
       refine ma tk (eI v53) rfl rfl (wpo_nil ?_)
       exact ⟨(v47, v53), inj_inl H52, (wc (wc (wc (wkf_nil _)))), hH⟩
    ·refine awp_region rfl (mm tk ((eL 5 e_api_Entry) x0) rfl rfl (mm tk (eI c7) rfl rfl ?_))
     refine b_ hs24 (fun y => .fptr (e_api_Entry y).cells 0) rfl (fun v27 hv => o_ixa tk hv td30 enc42 rfl rfl) fun v27 hv27 H26 => ?_
     refine mc tk (.fptr (c_api_Entry v27) 0) rfl rfl (fun _ => rfl) (m_ (eS v27.Key) rfl (o_ld tk rfl rfl) ?_)
     refine l_ H26 eI rfl (o_len_s tk td9 rfl) fun v29 H28 => ?_
     refine l_ H28 eB rfl (o_ar tk rfl rfl rfl) fun v31 H30 => ?_
     refine mm tk (eB v31) rfl rfl ?_
     refine if_split H30 (fun hb H32 => ?_) (fun hb H32 => ?_)
     ·subst hb
      refine k_ rfl (k_ rfl (k_ rfl (k_ rfl (k_ rfl (k_ rfl (k_ rfl (pt tk (eB true) rfl rfl rfl (wpo_nil ?_))))))))
      have e := oi H32
      subst e
      exact ⟨(wc (wc (wc (wc (wkf_nil _))))), hH⟩
     ·subst hb
      refine mm tk ((eL 5 e_api_Entry) x0) rfl rfl (mm tk (eI c7) rfl rfl ?_)
      refine b_ H32 (fun y => .fptr (e_api_Entry y).cells 0) rfl (fun v34 hv => o_ixa tk hv td30 enc42 rfl rfl) fun v34 hv34 H33 => ?_
      refine mc tk (.fptr (c_api_Entry v34) 4) rfl rfl (fun _ => rfl) (m_ ((eL 1 (@eU .u8 8)) v34.Value) rfl (o_ld tk rfl rfl) ?_)
      refine l_ H33 eI rfl (o_len tk td40 rfl) fun v36 H35 => ?_
      refine l_ H35 eB rfl (o_ar tk rfl rfl rfl) fun v38 H37 => ?_
      refine pf tk (eB v38) rfl rfl rfl (wpo_nil ?_)
      have e := oi H37
      subst e
      exact ⟨(wc (wc (wc (wc (wkf_nil _))))), hH⟩
   ·refine awp_exit ?_
    have hz := hy14 _ (inj_inr H21)
    exact ⟨⟨_, inj_inr H21⟩, (), hz.symm, (wkf_nil _), hH⟩
theorem L19_light_ok {x0 : List L19_Op} {r : Bool} (H : L19_light x0 = some r) (σ : St)  : ACall Tryd.prog 5 [((eL 6 e_L19_Op) x0)] σ (fun a τ => a = eB r ∧ τ = σ) := by
 unfold L19_light at H
 refine ACall.pure (acall_start tk Tryd.func5 (by decide) rfl (nb rfl) ?_)
 have hH := Holds.init σ
 refine sr rfl (ma tk (eB false) rfl rfl (wpo_nil (awp_seq (sr rfl (mm tk ((eL 6 e_L19_Op) x0) rfl rfl ?_)))))
 refine l_ H eI rfl (o_len tk td22 rfl) fun v2 H1 => ?_
 refine l_ H1 eB rfl (o_ar tk rfl rfl rfl) fun v4 H3 => ?_
 refine wpo_nil ?_
 refine awp_if H3 rfl (fun H5 => ?_) (fun H5 => ?_)
 ·refine sr rfl (ma tk (eB false) rfl rfl (wpo_nil (awp_ret ?_)))
  obtain rfl := oi H5
  exact ⟨_, (eB false), rfl, wr, .of_eq ((enc_b td4 sz4).cut _ _ _), hH.noT⟩
 ·refine awp_skip (sr rfl (ma tk AV.nils rfl rfl (wpo_nil (awp_seq (sr rfl (ma tk (eI (0 : Int)) rfl rfl (wpo_nil (awp_block ?_))))))))
  refine AWP.tokN hH 3 5 rfl fun tk8 τ hH => ?_
  obtain ⟨s16, hs10, hj11⟩ := ob H5
  refine awp_cutx 0 (fun fr τ => ∃ tk_3, WkF fr (fm [(3, (eT tk_3 5 e_api_Entry s16))]) ∧ Holds σ [] [tk_3] τ) ?_ ?_
  ·rintro fr τ ⟨tk_3, hfr, hH⟩
   have H33 := hj11
   refine AWP.fm [(3, (eT tk_3 5 e_api_Entry s16))] hfr ?_
   refine sr rfl (mm tk (eT tk_3 5 e_api_Entry s16) rfl rfl ?_)
   refine b_ H33 eI rfl (fun v35 hv => OpP.of_call rfl rfl (.cons wk_no .nil) (L06_Light_ok hv)) fun v35 hv35 H34 => ?_
   refine l_ H34 eB rfl (o_ar tk rfl rfl rfl) fun v37 H36 => ?_
   refine ma tk (eB v37) rfl rfl (wpo_nil (awp_ret ?_))
   obtain rfl := oi H36
   exact ⟨_, (eB v37), rfl, wr, .of_eq ((enc_b td4 sz4).cut _ _ _), hH.noT⟩
  ·refine awp_loopO (body := fun s => L19_light_b0 x0 s.1 s.2) hs10 (fun (s : (List api_Entry) × Int) fr τ => ∃ tk_3, WkF fr (fm [(0, ((eL 6 e_L19_Op) x0)), (3, (eT tk_3 5 e_api_Entry s.1)), (4, (eI s.2))]) ∧ Holds σ [] [tk_3] τ) ⟨tk8, (wc (wc (wc (wkf_nil _)))), hH⟩ ?_
   rintro ⟨c6, c7⟩ fr τ y12 ⟨tk_3, hfr, hH⟩ hb14 hy15
   have H17 : L19_light_b0 x0 c6 c7 = some y12 := hb14
   unfold L19_light_b0 at H17
   refine AWP.fm [(0, ((eL 6 e_L19_Op) x0)), (3, (eT tk_3 5 e_api_Entry c6)), (4, (eI c7))] hfr ?_
   have hH : Holds σ [] [tk_3] τ := hH
   refine awp_seq (sr rfl (mm tk (eI c7) rfl rfl (mm tk ((eL 6 e_L19_Op) x0) rfl rfl ?_)))
   refine l_ H17 eI rfl (o_len tk td22 rfl) fun v19 H18 => ?_
   refine l_ H18 eB rfl (o_ar tk rfl rfl rfl) fun v21 H20 => ?_
   refine wpo_nil ?_
   refine awp_if H20 rfl (fun H22 => ?_) (fun H22 => ?_)
   ·refine awp_skip (awp_seq (awp_block (awp_region rfl (mm tk (eT tk_3 5 e_api_Entry c6) rfl rfl (mm tk ((eL 6 e_L19_Op) x0) rfl rfl (mm tk (eI c7) rfl rfl ?_))))))
    refine b_ H22 (fun y => .fptr (e_L19_Op y).cells 0) rfl (fun v24 hv => o_ixa tk hv td22 enc44 rfl rfl) fun v24 hv24 H23 => ?_
    refine mc tk (.fptr (c_L19_Op v24) 1) rfl rfl (fun _ => rfl) (m_ (e_api_Entry v24.X) rfl (o_ld tk rfl rfl) ?_)
    refine l_ H23 (eF 5 e_api_Entry) rfl (o_c tk false rfl (fun _ => rfl)) fun v26 H25 => ?_
    obtain ⟨v28, hv29, H27⟩ := ob H25
    refine wpo_a (av := fun t => eT t 5 e_api_Entry v28) rfl rfl rfl (h_app tk hH 0 hv29 rfl td30 ty42 rfl (by decide) rfl (src_l td30 rfl)) fun tk30 τ hH => ?_
    refine ma tk (eT tk30 5 e_api_Entry v28) rfl rfl (wpo_nil (awp_region rfl (mm tk (eI c7) rfl rfl ?_)))
    refine l_ H27 eI rfl (o_ar tk rfl rfl rfl) fun v32 H31 => ?_
    refine ma tk (eI v32) rfl rfl (wpo_nil ?_)
    exact ⟨(v28, v32), inj_inl H31, tk30, (wc (wc (wc (wkf_nil _)))), hH⟩
   ·refine awp_exit ?_
    have hz := hy15 _ (inj_inr H22)
    subst hz
    exact ⟨⟨_, inj_inr H22⟩, tk_3, (wc (wkf_nil _)), hH⟩
theorem trouble_New_ok {x0 : List (BitVec 8)} {x1 : Int} {x2 : Int} {r : Err} (H : trouble_New x0 x1 x2 = some r) (σ : St)  : ACall Tryd.prog 23 [(eS x0), (eI x1), (eI x2)] σ (fun a τ => a = eErr r ∧ τ = σ) := by
 unfold trouble_New at H
 refine ACall.pure (acall_start tk Tryd.func23 (by decide) rfl (nb rfl) ?_)
 have hH := Holds.init σ
 refine sr rfl (ma tk (eErr Err.nil) rfl rfl (wpo_nil (awp_seq (sr rfl (mm tk (eI x2) rfl rfl ?_)))))
 refine l_ H eB rfl (o_ar tk rfl rfl rfl) fun v2 H1 => ?_
 refine wpo_nil ?_
 refine awp_if H1 rfl (fun H3 => ?_) (fun H3 => ?_)
 ·refine sr rfl (ma tk (eErr Err.nil) rfl rfl (wpo_nil (awp_ret ?_)))
  obtain rfl := oi H3
  exact ⟨_, (eErr Err.nil), rfl, wr, .of_eq (encErr.cut _ _ _), hH.noT⟩
 ·refine awp_skip (sr rfl (mm tk (eS x0) rfl rfl (mm tk (eI x1) rfl rfl (mm tk (eI x2) rfl rfl ?_))))
  refine l_ H3 e_trouble_fault rfl (o_c tk false rfl (fun _ => rfl)) fun v5 H4 => ?_
  refine m_ (.fptr (c_trouble_fault v5) 0) rfl (o_boxf tk rfl wr (b := (e_trouble_fault v5)) (enc72.flat _)) (mc tk (eErr (Err.fault v5.op v5.at_ v5.code v5.under)) rfl rfl (fun _ => rfl) (ma tk (eErr (Err.fault v5.op v5.at_ v5.code v5.under)) rfl rfl (wpo_nil (awp_ret ?_))))
  obtain rfl := oi H4
  exact ⟨_, (eErr (Err.fault v5.op v5.at_ v5.code v5.under)), rfl, wr, .of_eq (encErr.cut _ _ _), hH.noT⟩
theorem jobs_New_ok {x0 : Int} {r : (Option jobs_Jobs) × Err} (H : jobs_New x0 = some r) (σ : St)  : ACall Tryd.prog 7 [(eI x0)] σ (fun a τ => NewO (c_jobs_Jobs 24 25) [eErr r.2] σ r.1 a τ) := by
 unfold jobs_New at H
 refine ACall.newo (fun ρ κ => by simp only [cutL, encErr.cut ρ κ]) (fun c ρ κ => c_jobs_Jobs_cut ρ κ _ _ c) (acall_start tk Tryd.func7 (by decide) rfl (nb rfl) ?_)
 have hH := Holds.init σ
 refine sr rfl (ma tk .nilp rfl rfl (ma tk (eErr Err.nil) rfl rfl (wpo_nil (awp_seq (awp_seq ?_)))))
 obtain ⟨s1, hs3, hj4⟩ := ob H
 refine awp_cutn (fun fr τ => WkF fr (fm [(0, (eI x0)), (10, (eB s1))]) ∧ Holds σ [] [] τ) ?_ ?_
 ·rintro fr τ ⟨hfr, hH⟩
  have H10 := hj4
  refine AWP.fm [(0, (eI x0)), (10, (eB s1))] hfr ?_
  refine awp_if H10 rfl (fun H11 => ?_) (fun H11 => ?_)
  ·refine sr rfl (mm tk (eI x0) rfl rfl ?_)
   refine b_ H11 eErr rfl (fun v13 hv => OpP.of_call rfl rfl (.cons wr (.cons wr (.cons wr .nil))) (trouble_New_ok hv)) fun v13 hv13 H12 => ?_
   refine ma tk .nilp rfl rfl (ma tk (eErr v13) rfl rfl (wpo_nil (awp_ret ?_)))
   obtain rfl := oi H12
   exact ⟨_, .tup [.nilp, (eErr v13)], rfl, .of_eq rfl, NewE.none hH.noT⟩
  ·refine awp_skip (sr rfl (mm tk (eI x0) rfl rfl (mc tk (.agg [(eI x0), .nilf, AV.nils]) rfl rfl (fun _ => rfl) (mm tk (eI x0) rfl rfl (mc tk (.agg [(eI x0), .nilf, AV.nils]) rfl rfl (fun _ => rfl) (mc tk (.agg [(eI (⟨x0, ([] : List api_Entry), x0, ([] : List (List (BitVec 8)))⟩ : jobs_Jobs).down_limit), .nilf, AV.nils, (eI (⟨x0, ([] : List api_Entry), x0, ([] : List (List (BitVec 8)))⟩ : jobs_Jobs).up_limit), .nilf, AV.nils]) rfl rfl (fun _ => rfl) ?_))))))
   refine wpo_a (av := fun id => .ref id 0) rfl rfl rfl (h_box tk hH rfl wr (b := (.agg [(eI (⟨x0, ([] : List api_Entry), x0, ([] : List (List (BitVec 8)))⟩ : jobs_Jobs).down_limit), .nilf, AV.nils, (eI (⟨x0, ([] : List api_Entry), x0, ([] : List (List (BitVec 8)))⟩ : jobs_Jobs).up_limit), .nilf, AV.nils])) rfl [(eI (⟨x0, ([] : List api_Entry), x0, ([] : List (List (BitVec 8)))⟩ : jobs_Jobs).down_limit), .nilf, AV.nils, (eI (⟨x0, ([] : List api_Entry), x0, ([] : List (List (BitVec 8)))⟩ : jobs_Jobs).up_limit), .nilf, AV.nils] rfl) fun id14 τ ⟨hH, n15⟩ => ?_
   refine ma tk (.ref id14 0) rfl rfl (wpo_nil (sr rfl (mm tk (.ref id14 0) rfl rfl (mc tk (.ref id14 0) rfl rfl (fun _ => rfl) (mc tk (.ref id14 0) rfl rfl (fun _ => rfl) (mc tk (.ref id14 1) rfl rfl (fun _ => rfl) ?_))))))
   refine wpo_z rfl rfl (h_st (y := (.fn (.func 24) [] [])) tk hH 0 rfl ty60 (by simp) rfl rfl wr (b := (.fn (.func 24) [] [])) rfl rfl (nb rfl) [(eI (⟨x0, ([] : List api_Entry), x0, ([] : List (List (BitVec 8)))⟩ : jobs_Jobs).down_limit), (.fn (.func 24) [] []), AV.nils, (eI (⟨x0, ([] : List api_Entry), x0, ([] : List (List (BitVec 8)))⟩ : jobs_Jobs).up_limit), .nilf, AV.nils] rfl) fun τ hH => ?_
   refine wpo_nil (sr rfl (mm tk (.ref id14 0) rfl rfl (mc tk (.ref id14 0) rfl rfl (fun _ => rfl) (mc tk (.ref id14 3) rfl rfl (fun _ => rfl) (mc tk (.ref id14 4) rfl rfl (fun _ => rfl) ?_)))))
   refine wpo_z rfl rfl (h_st (y := (.fn (.func 25) [] [])) tk hH 0 rfl ty63 (by simp) rfl rfl wr (b := (.fn (.func 25) [] [])) rfl rfl (nb rfl) [(eI (⟨x0, ([] : List api_Entry), x0, ([] : List (List (BitVec 8)))⟩ : jobs_Jobs).down_limit), (.fn (.func 24) [] []), AV.nils, (eI (⟨x0, ([] : List api_Entry), x0, ([] : List (List (BitVec 8)))⟩ : jobs_Jobs).up_limit), (.fn (.func 25) [] []), AV.nils] rfl) fun τ hH => ?_
   refine wpo_nil (sr rfl (mm tk (.ref id14 0) rfl rfl (ma tk (.ref id14 0) rfl rfl (ma tk (eErr Err.nil) rfl rfl (wpo_nil (awp_ret ?_))))))
   obtain rfl := oi H11
   exact ⟨_, .tup [.ref id14 0, (eErr Err.nil)], rfl, .of_eq rfl, NewE.some n15 hH.noT⟩
 ·refine awp_region rfl (mm tk (eI x0) rfl rfl ?_)
  refine l_ hs3 eB rfl (o_ar tk rfl rfl rfl) fun v6 H5 => ?_
  refine mm tk (eB v6) rfl rfl ?_
  refine if_split H5 (fun hb H7 => ?_) (fun hb H7 => ?_)
  ·subst hb
   refine k_ rfl (k_ rfl (pt tk (eB true) rfl rfl rfl (wpo_nil ?_)))
   have e := oi H7
   subst e
   exact ⟨(wc (wc (wkf_nil _))), hH⟩
  ·subst hb
   refine mm tk (eI x0) rfl rfl ?_
   refine l_ H7 eB rfl (o_ar tk rfl rfl rfl) fun v9 H8 => ?_
   refine pf tk (eB v9) rfl rfl rfl (wpo_nil ?_)
   have e := oi H8
   subst e
   exact ⟨(wc (wc (wkf_nil _))), hH⟩
theorem trouble_Of_ok {x0 : Err} {r : Int} (H : trouble_Of x0 = some r) (σ : St) (hg : σ.gl = gls) : ACall Tryd.prog 9 [eErr x0] σ (fun a τ => a = eI r ∧ τ = σ) := by
 obtain rfl := oi H
 refine ACall.pure (acall_start tk Tryd.func9 (by decide) rfl (nb rfl) ?_)
 have hH := Holds.init σ
 refine sr rfl (ma tk (eI (0 : Int)) rfl rfl (wpo_nil (awp_seq (awp_block ?_))))
 have hs := trouble_Of_l0 x0
 refine awp_cutx 0 (fun fr τ => codeOf x0 = 0 ∧ WkF fr (fm []) ∧ Holds σ [] [] τ) ?_ ?_
 ·rintro fr τ ⟨h0, hfr, hH⟩
  refine AWP.fm [] hfr ?_
  refine sr rfl (ma tk (eI 0) rfl rfl (wpo_nil (awp_ret ?_)))
  rw [h0]
  exact ⟨_, (eI 0), rfl, wr, .of_eq rfl, hH.noT⟩
 ·refine awp_loopO (body := trouble_Of_b0) hs (fun (s : Err) fr τ => WkF fr (fm [(0, eErr s)]) ∧ Holds σ [] [] τ) ⟨(wc (wkf_nil _)), hH⟩ ?_
  rintro c1 fr τ y ⟨hfr, hH⟩ hb hy
  refine AWP.fm [(0, eErr c1)] hfr ?_
  cases c1 with
  | nil =>
   refine awp_seq (sr rfl (mm tk (eErr .nil) rfl rfl (m_ (eB false) rfl (o_err_neq (x := .nil) tk rfl rfl rfl) (wpo_nil ?_))))
   refine awp_false rfl ?_
   refine awp_exit ?_
   have hb : some (Sum.inr (Sum.inl ())) = some y := hb
   have hz := hy _ (oi hb).symm
   refine ⟨⟨_, (oi hb).symm⟩, ?_, (wkf_nil _), hH⟩
   split at hz
   ·assumption
   ·cases hz
  | fault o a c u =>
   refine awp_seq (sr rfl (mm tk (eErr (.fault o a c u)) rfl rfl (m_ (eB true) rfl (o_err_neq (x := .fault o a c u) tk rfl rfl rfl) (wpo_nil ?_))))
   refine awp_true rfl ?_
   refine awp_skip (awp_block (sr rfl ?_))
   refine wpo_a (av := fun id => .ref id 0) rfl rfl rfl (h_alloc tk hH ty68 [.nilp] rfl) fun id τ ⟨hH, hn⟩ => ?_
   refine wpo_nil (awp_seq (sr rfl (mm tk (eErr (.fault o a c u)) rfl rfl (mc tk (.iface 70 (.ref id 0)) rfl rfl (fun _ => rfl) ?_))))
   refine wpo_cb (α := Unit) (z := some ()) (k := fun _ => some ()) (r := ()) rfl (fun _ _ => eB true) rfl rfl rfl (fun v hv => h_call1 hH [(0, (id, [(Err.fault o a c u).ptr]))] ⟨⟨_, rfl⟩, trivial⟩ rfl rfl (.cons wr (.cons wr .nil)) (as_ok (x := .fault o a c u) rfl (hH.at_ 0 rfl) (hH.gl.trans hg))) fun _ _ τ _ _ hH => ?_
   refine m_ (eB false) rfl (o_un tk rfl rfl) (wpo_nil ?_)
   refine awp_false rfl ?_
   refine awp_skip (awp_seq (sr rfl (wpo_rd (a := (Err.fault o a c u).ptr) rfl rfl rfl (h_ld tk hH 0 rfl rfl rfl) (mc tk ((Err.fault o a c u).ptr) rfl rfl (fun _ => rfl) (mc tk (.fptr [eS o, eI a, eI c, eErr u] 2) rfl rfl (fun _ => rfl) (m_ (eI c) rfl (o_ld tk rfl rfl) (m_ (eB (c != 0)) rfl (o_ar tk rfl rfl rfl) (wpo_nil ?_))))))))
   have hb : (if (c != 0) = true then some (.inr (.inr c)) else some (.inl u)) = some y := hb
   refine awp_if hb rfl (fun hb => ?_) (fun hb => ?_)
   ·refine sr rfl (wpo_rd (a := (Err.fault o a c u).ptr) rfl rfl rfl (h_ld tk hH 0 rfl rfl rfl) (mc tk ((Err.fault o a c u).ptr) rfl rfl (fun _ => rfl) (mc tk (.fptr [eS o, eI a, eI c, eErr u] 2) rfl rfl (fun _ => rfl) (m_ (eI c) rfl (o_ld tk rfl rfl) (ma tk (eI c) rfl rfl (wpo_nil (awp_ret ?_)))))))
    have hz := hy _ (oi hb).symm
    refine ⟨⟨_, (oi hb).symm⟩, ?_⟩
    have hc : codeOf x0 = c := by
     split at hz
     ·cases hz
     ·exact Sum.inr.inj hz.symm
    rw [hc]
    exact ⟨_, (eI c), rfl, wr, .of_eq rfl, (hH.noT.drop hn)⟩
   ·refine awp_skip (awp_region rfl (wpo_rd (a := (Err.fault o a c u).ptr) rfl rfl rfl (h_ld tk hH 0 rfl rfl rfl) (mc tk ((Err.fault o a c u).ptr) rfl rfl (fun _ => rfl) (mc tk (.fptr [eS o, eI a, eI c, eErr u] 3) rfl rfl (fun _ => rfl) (m_ (eErr u) rfl (o_ld tk rfl (by cases u <;> rfl)) (ma tk (eErr u) rfl rfl (wpo_nil ?_)))))))
    exact ⟨u, (oi hb).symm, (wc (wkf_nil _)), hH.drop hn⟩
end Go.Proofs.YtmgjdbbggajljaaDoor
