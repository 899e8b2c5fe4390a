/- Where any things stand, laid one behind the other, any bytes in pieces, and the things of any foot and pieces, are what the chapter says. (part 5 of 8) -/
import Derived.Test.YtkmlinaofbcbaaaDoorKRegionLays4
namespace Go.Proofs.YtkmlinaofbcbaaaDoor
open Go Go.Va
set_option linter.unusedVariables false
set_option linter.unusedSimpArgs false
set_option maxRecDepth 20000
theorem item_Read_ok {x0 : List (BitVec 8)} {r : (List api_Entry) × Err} (H : item_Read x0 = some r) (σ : St)  (hg : σ.gl = gls) : ACall Tryd.prog 96 [((eL 1 (@eU .u8 8)) x0)] σ (fun a τ => a = .tup [(eL 5 e_api_Entry) r.1, eErr r.2] ∧ τ = σ) := by
  unfold item_Read at H
  refine ACall.pure (acall_start tk Tryd.func96 (by decide) rfl (Nat.le_of_ble_eq_true rfl) ?_)
  have hH := Holds.init σ
  refine awp_seq ?_
  refine awp_region rfl ?_
  refine wpo_mv (a := AV.nils) rfl rfl rfl (o_as tk rfl (Wk.refl _)) ?_
  refine wpo_mv (a := (eErr Err.nil)) rfl rfl rfl (o_as tk rfl (Wk.refl _)) ?_
  refine wpo_nil ?_
  refine awp_seq ?_
  refine awp_region rfl ?_
  refine wpo_mv (a := ((eL 1 (@eU .u8 8)) x0)) rfl rfl rfl (o_mv tk rfl (Wk.refl _)) ?_
  refine wpo_cb H (fun _ id => .ref id 0) rfl rfl rfl (fun v2 hv => h_calln hH (c_octets_Reader v2) rfl rfl (.cons (.of_eq rfl) .nil) (octets_Read_ok hv _)) fun v2 id3 τ hv2 H1 ⟨hH, n4⟩ => ?_
  refine wpo_mv (a := (.ref id3 0)) rfl rfl rfl (o_as tk rfl (Wk.refl _)) ?_
  refine wpo_nil ?_
  refine awp_seq ?_
  refine awp_region rfl ?_
  refine wpo_mv (a := AV.nils) rfl rfl rfl (o_as tk rfl (Wk.refl _)) ?_
  refine wpo_nil ?_
  refine awp_seq ?_
  refine awp_block ?_
  refine AWP.tokN hH 5 5 rfl fun tk7 τ hH => ?_
  obtain ⟨o8, hs9, hj10⟩ := Option.bind_eq_some_iff.1 H1
  refine awp_cutx 0 (fun fr τ => ∃ s15 : (List api_Entry) × octets_Reader, o8 = .inl s15 ∧ ∃ tk_5, WkF fr (fm [(5, (eT tk_5 5 e_api_Entry s15.1))]) ∧ Holds σ [(id3, (c_octets_Reader s15.2))] [tk_5] τ) ?_ ?_
  · rintro fr τ ⟨s15, rfl, tk_5, hfr, hH⟩
    have H59 := hj10
    simp only [Sum.elim_inl] at H59
    refine AWP.fm [(5, (eT tk_5 5 e_api_Entry s15.1))] hfr ?_
    refine awp_seq ?_
    refine awp_region rfl ?_
    refine wpo_mv (a := (eT tk_5 5 e_api_Entry s15.1)) rfl rfl rfl (o_mv tk rfl (Wk.refl _)) ?_
    refine wpo_mv (a := (eT tk_5 5 e_api_Entry s15.1)) rfl rfl rfl (o_as tk rfl (Wk.refl _)) ?_
    refine wpo_mv (a := (eErr Err.nil)) rfl rfl rfl (o_as tk rfl (Wk.refl _)) ?_
    refine wpo_nil ?_
    refine awp_ret ?_
    obtain rfl := Option.some.inj H59
    exact ⟨_, (.tup [((eL 5 e_api_Entry) s15.1), (eErr Err.nil)]), rfl, (wk_tup (.cons wk_no (.cons (.of_eq rfl) .nil))), .of_eq (by simp only [cutAV, cutL, (enc_l td60 sz60 enc24.cut).cut _ _ _, encErr.cut _ _ _]), (hH.noT.drop n4)⟩
  · refine awp_loopO (body := fun s => item_Read_b0 s.1 s.2) hs9 (fun (s : (List api_Entry) × octets_Reader) fr τ => ∃ tk_5, WkF fr (fm [(4, (.ref id3 0)), (5, (eT tk_5 5 e_api_Entry s.1))]) ∧ Holds σ [(id3, (c_octets_Reader s.2))] [tk_5] τ) ⟨tk7, (wkf_cons (.of_eq rfl) (wkf_cons (.of_eq rfl) (wkf_nil _))), hH⟩ ?_
    rintro ⟨c5, c6⟩ fr τ y11 ⟨tk_5, hfr, hH⟩ hb13 hy14
    have H16 : item_Read_b0 c5 c6 = some y11 := hb13
    unfold item_Read_b0 at H16
    refine AWP.fm [(4, (.ref id3 0)), (5, (eT tk_5 5 e_api_Entry c5))] hfr ?_
    have hH : Holds σ [(id3, (c_octets_Reader c6))] [tk_5] τ := hH
    refine awp_seq ?_
    refine awp_seq ?_
    obtain ⟨s17, hs19, hj20⟩ := Option.bind_eq_some_iff.1 H16
    refine awp_cutn (fun fr τ => ∃ tk_5, WkF fr (fm [(4, (.ref id3 0)), (5, (eT tk_5 5 e_api_Entry c5)), (17, (eB s17))]) ∧ Holds σ [(id3, (c_octets_Reader c6))] [tk_5] τ) ?_ ?_
    · rintro fr τ ⟨tk_5, hfr, hH⟩
      have H30 := hj20
      refine AWP.fm [(4, (.ref id3 0)), (5, (eT tk_5 5 e_api_Entry c5)), (17, (eB s17))] hfr ?_
      refine awp_if H30 rfl (fun H31 => ?_) (fun H31 => ?_)
      · refine awp_skip ?_
        refine awp_block ?_
        refine awp_seq ?_
        refine awp_region rfl ?_
        refine wpo_mv (a := (.ref id3 0)) rfl rfl rfl (o_mv tk rfl (Wk.refl _)) ?_
        refine wpo_bdr H31 eI rfl rfl rfl (fun v33 hv => h_callr rfl rfl (.cons (.of_eq rfl) .nil) (octets_Reader_At_ok hv _ (hH.at_ 0 rfl))) fun v33 hv33 H32 => ?_
        refine wpo_mv (a := (eI v33)) rfl rfl rfl (o_as tk rfl (Wk.refl _)) ?_
        refine wpo_nil ?_
        refine awp_seq ?_
        refine awp_region rfl ?_
        refine wpo_mv (a := (.ref id3 0)) rfl rfl rfl (o_mv tk rfl (Wk.refl _)) ?_
        refine wpo_cb H32 (fun x _ => e_api_Entry x.1) rfl rfl rfl (fun v35 hv => h_call1 hH [(0, (id3, (c_octets_Reader v35.2)))] ⟨⟨_, rfl⟩, trivial⟩ rfl rfl (.cons (.of_eq rfl) .nil) (item_From_ok hv _ (hH.at_ 0 rfl) (hH.gl.trans hg))) fun v35 _ τ hv35 H34 hH => ?_
        refine wpo_a (av := fun id => .ref id 0) rfl rfl rfl (h_alloc tk hH ty24 [(eS z_api_Entry.Key), (eI z_api_Entry.Version), (eI z_api_Entry.AsOf), (eI z_api_Entry.Ends), AV.nils] rfl) fun id36 τ ⟨hH, n37⟩ => ?_
        refine wpo_z rfl rfl (h_st tk hH 0 rfl ty24 (by simp) rfl rfl (.of_eq rfl) (b := (e_api_Entry v35.1)) (enc24.flat _) rfl (Nat.le_of_ble_eq_true rfl) (c_api_Entry (v35.1 : api_Entry)) rfl) fun τ hH => ?_
        refine wpo_nil ?_
        refine awp_seq ?_
        refine awp_seq ?_
        refine awp_region rfl ?_
        refine wpo_mv (a := (.ref id3 0)) rfl rfl rfl (o_mv tk rfl (Wk.refl _)) ?_
        refine wpo_bdr H34 eI rfl rfl rfl (fun v40 hv => h_callr rfl rfl (.cons (.of_eq rfl) .nil) (octets_Reader_Code_ok hv _ (hH.at_ 1 rfl))) fun v40 hv40 H39 => ?_
        refine wpo_lt H39 eB rfl rfl rfl (o_ar tk rfl rfl rfl) fun v42 H41 => ?_
        refine wpo_nil ?_
        refine awp_if H41 rfl (fun H43 => ?_) (fun H43 => ?_)
        · refine awp_seq ?_
          refine awp_region rfl ?_
          refine wpo_mv (a := (eT tk_5 5 e_api_Entry c5)) rfl rfl rfl (o_mv tk rfl (Wk.refl _)) ?_
          refine wpo_lt H43 eI rfl rfl rfl (o_len tk td60 rfl) fun v45 H44 => ?_
          refine wpo_mv (a := (eI v33)) rfl rfl rfl (o_mv tk rfl (Wk.refl _)) ?_
          refine wpo_mv (a := (.ref id3 0)) rfl rfl rfl (o_mv tk rfl (Wk.refl _)) ?_
          refine wpo_bdr H44 eI rfl rfl rfl (fun v47 hv => h_callr rfl rfl (.cons (.of_eq rfl) .nil) (octets_Reader_Code_ok hv _ (hH.at_ 1 rfl))) fun v47 hv47 H46 => ?_
          refine wpo_bd H46 eErr rfl rfl rfl (fun v49 hv => OpP.of_call rfl rfl (.cons (.of_eq rfl) (.cons (.of_eq rfl) (.cons (.of_eq rfl) .nil))) (trouble_New_ok hv)) fun v49 hv49 H48 => ?_
          refine wpo_bd H48 eErr rfl rfl rfl (fun v51 hv => OpP.of_call rfl rfl (.cons (.of_eq rfl) (.cons (.of_eq rfl) (.cons (.of_eq rfl) .nil))) (trouble_Wrap_ok hv)) fun v51 hv51 H50 => ?_
          refine wpo_mv (a := AV.nils) rfl rfl rfl (o_as tk rfl (Wk.refl _)) ?_
          refine wpo_mv (a := (eErr v51)) rfl rfl rfl (o_as tk rfl (Wk.refl _)) ?_
          refine wpo_nil ?_
          refine awp_ret ?_
          have hz := hy14 _ (inj_inr H50)
          refine ⟨⟨_, inj_inr H50⟩, ?_⟩
          rw [← hz] at hj10
          have H52 := (show some _ = some _ from hj10)
          obtain rfl := Option.some.inj H52
          exact ⟨_, (.tup [((eL 5 e_api_Entry) []), (eErr v51)]), rfl, (wk_tup (.cons (wk_nils _) (.cons (.of_eq rfl) .nil))), .of_eq (by simp only [cutAV, cutL, (enc_l td60 sz60 enc24.cut).cut _ _ _, encErr.cut _ _ _]), ((hH.noT.drop n37).drop n4)⟩
        · refine awp_skip ?_
          refine awp_region rfl ?_
          refine wpo_mv (a := (eT tk_5 5 e_api_Entry c5)) rfl rfl rfl (o_mv tk rfl (Wk.refl _)) ?_
          refine wpo_rd (a := (e_api_Entry (v35.1 : api_Entry))) rfl rfl rfl (h_ld tk hH 0 rfl rfl rfl) ?_
          refine wpo_lt H43 (eF 5 e_api_Entry) rfl rfl rfl (o_c tk false rfl (fun _ => rfl)) fun v54 H53 => ?_
          obtain ⟨v56, hv57, H55⟩ := Option.bind_eq_some_iff.1 H53
          refine wpo_a (av := fun t => eT t 5 e_api_Entry v56) rfl rfl rfl (h_app tk hH 0 hv57 rfl td60 ty24 rfl (by decide) rfl (src_l td60 rfl)) fun tk58 τ hH => ?_
          refine wpo_mv (a := (eT tk58 5 e_api_Entry v56)) rfl rfl rfl (o_as tk rfl (Wk.refl _)) ?_
          refine wpo_nil ?_
          exact ⟨(v56, v35.2), inj_inl H55, tk58, (wkf_cons (.of_eq rfl) (wkf_cons (.of_eq rfl) (wkf_nil _))), (hH.drop n37)⟩
      · refine awp_exit ?_
        have hz := hy14 _ (inj_inr H31)
        exact ⟨⟨_, inj_inr H31⟩, (c5, c6), hz.symm, tk_5, (wkf_cons (.of_eq rfl) (wkf_nil _)), hH⟩
    · refine awp_region rfl ?_
      refine wpo_mv (a := (.ref id3 0)) rfl rfl rfl (o_mv tk rfl (Wk.refl _)) ?_
      refine wpo_bdr hs19 eI rfl rfl rfl (fun v22 hv => h_callr rfl rfl (.cons (.of_eq rfl) .nil) (octets_Reader_Code_ok hv _ (hH.at_ 0 rfl))) fun v22 hv22 H21 => ?_
      refine wpo_lt H21 eB rfl rfl rfl (o_ar tk rfl rfl rfl) fun v24 H23 => ?_
      refine wpo_mv (a := (eB v24)) rfl rfl rfl (o_mv tk rfl (Wk.refl _)) ?_
      refine if_split H23 (fun hb H25 => ?_) (fun hb H25 => ?_)
      · subst hb
        refine wpo_mv (a := (.ref id3 0)) rfl rfl rfl (o_mv tk rfl (Wk.refl _)) ?_
        refine wpo_bdr H25 eI rfl rfl rfl (fun v27 hv => h_callr rfl rfl (.cons (.of_eq rfl) .nil) (octets_Reader_Left_ok hv _ (hH.at_ 0 rfl))) fun v27 hv27 H26 => ?_
        refine wpo_lt H26 eB rfl rfl rfl (o_ar tk rfl rfl rfl) fun v29 H28 => ?_
        refine wpo_mv (a := (eB v29)) rfl rfl rfl (o_pick_t tk rfl rfl (Wk.refl _)) ?_
        refine wpo_nil ?_
        have e := Option.some.inj H28
        subst e
        exact ⟨tk_5, (wkf_cons (.of_eq rfl) (wkf_cons (.of_eq rfl) (wkf_cons (.of_eq rfl) (wkf_nil _)))), hH⟩
      · subst hb
        refine wpo_skip rfl rfl rfl ?_
        refine wpo_skip rfl rfl rfl ?_
        refine wpo_skip rfl rfl rfl ?_
        refine wpo_mv (a := (eB false)) rfl rfl rfl (o_pick_f tk rfl rfl (Wk.refl _)) ?_
        refine wpo_nil ?_
        have e := Option.some.inj H25
        subst e
        exact ⟨tk_5, (wkf_cons (.of_eq rfl) (wkf_cons (.of_eq rfl) (wkf_cons (.of_eq rfl) (wkf_nil _)))), hH⟩
end Go.Proofs.YtkmlinaofbcbaaaDoor
namespace Go.Proofs.YtkmlinaofbcbaaaDoor
open Go Go.Va
set_option linter.unusedVariables false
set_option linter.unusedSimpArgs false
set_option maxRecDepth 20000
theorem region_Whole_ok {x0 : api_Foot} {x1 : List (List (BitVec 8))} {r : (List api_Entry) × Err} (H : region_Whole x0 x1 = some r) (σ : St)  (hg : σ.gl = gls) : ACall Tryd.prog 33 [(e_api_Foot x0), ((eL 1 (eL 1 (@eU .u8 8))) x1)] σ (fun a τ => a = .tup [(eL 5 e_api_Entry) r.1, eErr r.2] ∧ τ = σ) := by
  unfold region_Whole at H
  refine ACall.pure (acall_start tk Tryd.func33 (by decide) rfl (Nat.le_of_ble_eq_true rfl) ?_)
  have hH := Holds.init σ
  refine awp_seq ?_
  refine awp_region rfl ?_
  refine wpo_mv (a := (.fptr (c_api_Foot x0) 0)) rfl rfl rfl (o_boxf tk rfl (.of_eq rfl) (b := (e_api_Foot x0)) (enc53.flat _)) ?_
  refine wpo_mv (a := AV.nils) rfl rfl rfl (o_as tk rfl (Wk.refl _)) ?_
  refine wpo_mv (a := (eErr Err.nil)) rfl rfl rfl (o_as tk rfl (Wk.refl _)) ?_
  refine wpo_nil ?_
  refine awp_seq ?_
  refine awp_region rfl ?_
  refine wpo_mv (a := AV.nils) rfl rfl rfl (o_as tk rfl (Wk.refl _)) ?_
  refine wpo_nil ?_
  refine awp_seq ?_
  refine awp_seq ?_
  refine awp_region rfl ?_
  refine wpo_mv (a := ((eL 1 (eL 1 (@eU .u8 8))) x1)) rfl rfl rfl (o_mv tk rfl (Wk.refl _)) ?_
  refine wpo_lt H eI rfl rfl rfl (o_len tk td62 rfl) fun v2 H1 => ?_
  refine wpo_mv (a := (eI (0 : Int))) rfl rfl rfl (o_mv tk rfl (Wk.refl _)) ?_
  refine wpo_nil ?_
  refine awp_block ?_
  refine AWP.tokN hH 6 1 rfl fun tk5 τ hH => ?_
  obtain ⟨s13, hs7, hj8⟩ := Option.bind_eq_some_iff.1 H1
  refine awp_cutx 0 (fun fr τ => ∃ tk_6, WkF fr (fm [(2, (.fptr (c_api_Foot x0) 0)), (6, (eT tk_6 1 (@eU .u8 8) s13))]) ∧ Holds σ [] [tk_6] τ) ?_ ?_
  · rintro fr τ ⟨tk_6, hfr, hH⟩
    have H26 := hj8
    refine AWP.fm [(2, (.fptr (c_api_Foot x0) 0)), (6, (eT tk_6 1 (@eU .u8 8) s13))] hfr ?_
    refine awp_seq ?_
    refine awp_seq ?_
    refine awp_region rfl ?_
    refine wpo_mv (a := (eT tk_6 1 (@eU .u8 8) s13)) rfl rfl rfl (o_mv tk rfl (Wk.refl _)) ?_
    refine wpo_lt H26 eI rfl rfl rfl (o_len tk td22 rfl) fun v28 H27 => ?_
    refine wpo_mv (a := (.fptr (c_api_Foot x0) 1)) rfl rfl rfl (o_c tk false rfl (fun _ => rfl)) ?_
    refine wpo_mv (a := (eI x0.Bytes)) rfl rfl rfl (o_ld tk rfl rfl) ?_
    refine wpo_lt H27 eB rfl rfl rfl (o_ar tk rfl rfl rfl) fun v30 H29 => ?_
    refine wpo_nil ?_
    refine awp_if H29 rfl (fun H31 => ?_) (fun H31 => ?_)
    · refine awp_seq ?_
      refine awp_region rfl ?_
      refine wpo_mv (a := (eT tk_6 1 (@eU .u8 8) s13)) rfl rfl rfl (o_mv tk rfl (Wk.refl _)) ?_
      refine wpo_lt H31 eI rfl rfl rfl (o_len tk td22 rfl) fun v33 H32 => ?_
      refine wpo_bd H32 eErr rfl rfl rfl (fun v35 hv => OpP.of_call rfl rfl (.cons (.of_eq rfl) (.cons (.of_eq rfl) (.cons (.of_eq rfl) .nil))) (trouble_New_ok hv)) fun v35 hv35 H34 => ?_
      refine wpo_mv (a := AV.nils) rfl rfl rfl (o_as tk rfl (Wk.refl _)) ?_
      refine wpo_mv (a := (eErr v35)) rfl rfl rfl (o_as tk rfl (Wk.refl _)) ?_
      refine wpo_nil ?_
      refine awp_ret ?_
      obtain rfl := Option.some.inj H34
      exact ⟨_, (.tup [((eL 5 e_api_Entry) []), (eErr v35)]), rfl, (wk_tup (.cons (wk_nils _) (.cons (.of_eq rfl) .nil))), .of_eq (by simp only [cutAV, cutL, (enc_l td60 sz60 enc24.cut).cut _ _ _, encErr.cut _ _ _]), hH.noT⟩
    · refine awp_skip ?_
      refine awp_seq ?_
      refine awp_region rfl ?_
      refine wpo_mv (a := (eT tk_6 1 (@eU .u8 8) s13)) rfl rfl rfl (o_mv tk rfl (Wk.refl _)) ?_
      refine wpo_bdr H31 (fun r => .tup [(eL 5 e_api_Entry) r.1, eErr r.2]) rfl rfl rfl (fun v37 hv => h_callr rfl rfl (.cons wk_no .nil) (item_Read_ok hv _ (hH.gl.trans hg))) fun v37 hv37 H36 => ?_
      refine wpo_mv (a := (.tup [((eL 5 e_api_Entry) v37.1), (eErr v37.2)])) rfl rfl rfl (o_mv tk rfl (Wk.refl _)) ?_
      refine wpo_mv (a := ((eL 5 e_api_Entry) v37.1)) rfl rfl rfl (o_ext tk rfl rfl) ?_
      refine wpo_mv (a := (eErr v37.2)) rfl rfl rfl (o_ext tk rfl rfl) ?_
      refine wpo_mv (a := ((eL 5 e_api_Entry) v37.1)) rfl rfl rfl (o_as tk rfl (Wk.refl _)) ?_
      refine wpo_mv (a := (eErr v37.2)) rfl rfl rfl (o_as tk rfl (Wk.refl _)) ?_
      refine wpo_nil ?_
      refine awp_seq ?_
      refine awp_seq ?_
      refine awp_region rfl ?_
      refine wpo_mv (a := (eErr v37.2)) rfl rfl rfl (o_mv tk rfl (Wk.refl _)) ?_
      refine wpo_lt H36 eB rfl rfl rfl (o_err_neq tk rfl rfl rfl) fun v39 H38 => ?_
      refine wpo_nil ?_
      refine awp_if H38 rfl (fun H40 => ?_) (fun H40 => ?_)
      · refine awp_seq ?_
        refine awp_region rfl ?_
        refine wpo_mv (a := (.fptr (c_api_Foot x0) 0)) rfl rfl rfl (o_c tk false rfl (fun _ => rfl)) ?_
        refine wpo_mv (a := (eI x0.Seq)) rfl rfl rfl (o_ld tk rfl rfl) ?_
        refine wpo_mv (a := (eErr v37.2)) rfl rfl rfl (o_mv tk rfl (Wk.refl _)) ?_
        refine wpo_bd H40 eErr rfl rfl rfl (fun v42 hv => OpP.of_call rfl rfl (.cons (.of_eq rfl) (.cons (.of_eq rfl) (.cons (.of_eq rfl) .nil))) (trouble_Wrap_ok hv)) fun v42 hv42 H41 => ?_
        refine wpo_mv (a := AV.nils) rfl rfl rfl (o_as tk rfl (Wk.refl _)) ?_
        refine wpo_mv (a := (eErr v42)) rfl rfl rfl (o_as tk rfl (Wk.refl _)) ?_
        refine wpo_nil ?_
        refine awp_ret ?_
        obtain rfl := Option.some.inj H41
        exact ⟨_, (.tup [((eL 5 e_api_Entry) []), (eErr v42)]), rfl, (wk_tup (.cons (wk_nils _) (.cons (.of_eq rfl) .nil))), .of_eq (by simp only [cutAV, cutL, (enc_l td60 sz60 enc24.cut).cut _ _ _, encErr.cut _ _ _]), hH.noT⟩
      · refine awp_skip ?_
        refine awp_seq ?_
        refine awp_seq ?_
        refine awp_region rfl ?_
        refine wpo_mv (a := ((eL 5 e_api_Entry) v37.1)) rfl rfl rfl (o_mv tk rfl (Wk.refl _)) ?_
        refine wpo_lt H40 eI rfl rfl rfl (o_len tk td60 rfl) fun v44 H43 => ?_
        refine wpo_mv (a := (.fptr (c_api_Foot x0) 2)) rfl rfl rfl (o_c tk false rfl (fun _ => rfl)) ?_
        refine wpo_mv (a := (eI x0.Count)) rfl rfl rfl (o_ld tk rfl rfl) ?_
        refine wpo_lt H43 eB rfl rfl rfl (o_ar tk rfl rfl rfl) fun v46 H45 => ?_
        refine wpo_nil ?_
        refine awp_if H45 rfl (fun H47 => ?_) (fun H47 => ?_)
        · refine awp_seq ?_
          refine awp_region rfl ?_
          refine wpo_mv (a := ((eL 5 e_api_Entry) v37.1)) rfl rfl rfl (o_mv tk rfl (Wk.refl _)) ?_
          refine wpo_lt H47 eI rfl rfl rfl (o_len tk td60 rfl) fun v49 H48 => ?_
          refine wpo_bd H48 eErr rfl rfl rfl (fun v51 hv => OpP.of_call rfl rfl (.cons (.of_eq rfl) (.cons (.of_eq rfl) (.cons (.of_eq rfl) .nil))) (trouble_New_ok hv)) fun v51 hv51 H50 => ?_
          refine wpo_mv (a := AV.nils) rfl rfl rfl (o_as tk rfl (Wk.refl _)) ?_
          refine wpo_mv (a := (eErr v51)) rfl rfl rfl (o_as tk rfl (Wk.refl _)) ?_
          refine wpo_nil ?_
          refine awp_ret ?_
          obtain rfl := Option.some.inj H50
          exact ⟨_, (.tup [((eL 5 e_api_Entry) []), (eErr v51)]), rfl, (wk_tup (.cons (wk_nils _) (.cons (.of_eq rfl) .nil))), .of_eq (by simp only [cutAV, cutL, (enc_l td60 sz60 enc24.cut).cut _ _ _, encErr.cut _ _ _]), hH.noT⟩
        · refine awp_skip ?_
          refine awp_seq ?_
          refine awp_region rfl ?_
          refine wpo_mv (a := ((eL 5 e_api_Entry) v37.1)) rfl rfl rfl (o_mv tk rfl (Wk.refl _)) ?_
          refine wpo_mv (a := ((eL 5 e_api_Entry) v37.1)) rfl rfl rfl (o_as tk rfl (Wk.refl _)) ?_
          refine wpo_mv (a := (eErr Err.nil)) rfl rfl rfl (o_as tk rfl (Wk.refl _)) ?_
          refine wpo_nil ?_
          refine awp_ret ?_
          obtain rfl := Option.some.inj H47
          exact ⟨_, (.tup [((eL 5 e_api_Entry) v37.1), (eErr Err.nil)]), rfl, (wk_tup (.cons (.of_eq rfl) (.cons (.of_eq rfl) .nil))), .of_eq (by simp only [cutAV, cutL, (enc_l td60 sz60 enc24.cut).cut _ _ _, encErr.cut _ _ _]), hH.noT⟩
  · refine awp_loopO (body := fun s => region_Whole_b0 x0 x1 v2 s.1 s.2) hs7 (fun (s : (List (BitVec 8)) × Int) fr τ => ∃ tk_6, WkF fr (fm [(2, (.fptr (c_api_Foot x0) 0)), (6, (eT tk_6 1 (@eU .u8 8) s.1)), (11, ((eL 1 (eL 1 (@eU .u8 8))) x1)), (12, (eI v2)), (13, (eI s.2))]) ∧ Holds σ [] [tk_6] τ) ⟨tk5, (wkf_cons (.of_eq rfl) (wkf_cons (.of_eq rfl) (wkf_cons (.of_eq rfl) (wkf_cons (.of_eq rfl) (wkf_cons (.of_eq rfl) (wkf_nil _)))))), hH⟩ ?_
    rintro ⟨c3, c4⟩ fr τ y9 ⟨tk_6, hfr, hH⟩ hb11 hy12
    have H14 : region_Whole_b0 x0 x1 v2 c3 c4 = some y9 := hb11
    unfold region_Whole_b0 at H14
    refine AWP.fm [(2, (.fptr (c_api_Foot x0) 0)), (6, (eT tk_6 1 (@eU .u8 8) c3)), (11, ((eL 1 (eL 1 (@eU .u8 8))) x1)), (12, (eI v2)), (13, (eI c4))] hfr ?_
    have hH : Holds σ [] [tk_6] τ := hH
    refine awp_seq ?_
    refine awp_region rfl ?_
    refine wpo_lt H14 eB rfl rfl rfl (o_ar tk rfl rfl rfl) fun v16 H15 => ?_
    refine wpo_nil ?_
    refine awp_seq ?_
    refine awp_if H15 rfl (fun H17 => ?_) (fun H17 => ?_)
    · refine awp_skip ?_
      refine awp_seq ?_
      refine awp_block ?_
      refine awp_seq ?_
      refine awp_region rfl ?_
      refine wpo_bd H17 (fun y => .fptr ((eL 1 (@eU .u8 8)) y).cells 0) rfl rfl rfl (fun v19 hv => o_ixa tk hv td62 (enc_l td22 sz22 (enc_u td5 sz5).cut) rfl rfl) fun v19 hv19 H18 => ?_
      refine wpo_mv (a := ((eL 1 (@eU .u8 8)) v19)) rfl rfl rfl (o_ld_e tk (enc_l td22 sz22 (enc_u td5 sz5).cut) rfl rfl) ?_
      refine wpo_mv (a := ((eL 1 (@eU .u8 8)) v19)) rfl rfl rfl (o_as tk rfl (Wk.refl _)) ?_
      refine wpo_nil ?_
      refine awp_region rfl ?_
      refine wpo_mv (a := (eT tk_6 1 (@eU .u8 8) c3)) rfl rfl rfl (o_mv tk rfl (Wk.refl _)) ?_
      refine wpo_mv (a := ((eL 1 (@eU .u8 8)) v19)) rfl rfl rfl (o_mv tk rfl (Wk.refl _)) ?_
      obtain ⟨v21, hv22, H20⟩ := Option.bind_eq_some_iff.1 H18
      refine wpo_a (av := fun t => eT t 1 (@eU .u8 8) v21) rfl rfl rfl (h_app tk hH 0 hv22 rfl td22 ty5 rfl (by decide) rfl (src_l td22 rfl)) fun tk23 τ hH => ?_
      refine wpo_mv (a := (eT tk23 1 (@eU .u8 8) v21)) rfl rfl rfl (o_as tk rfl (Wk.refl _)) ?_
      refine wpo_nil ?_
      refine awp_region rfl ?_
      refine wpo_lt H20 eI rfl rfl rfl (o_ar tk rfl rfl rfl) fun v25 H24 => ?_
      refine wpo_mv (a := (eI v25)) rfl rfl rfl (o_mv tk rfl (Wk.refl _)) ?_
      refine wpo_nil ?_
      exact ⟨(v21, v25), inj_inl H24, tk23, (wkf_cons (.of_eq rfl) (wkf_cons (.of_eq rfl) (wkf_cons (.of_eq rfl) (wkf_cons (.of_eq rfl) (wkf_cons (.of_eq rfl) (wkf_nil _)))))), hH⟩
    · refine awp_exit ?_
      have hz := hy12 _ (inj_inr H17)
      subst hz
      exact ⟨⟨_, inj_inr H17⟩, tk_6, (wkf_cons (.of_eq rfl) (wkf_cons (.of_eq rfl) (wkf_nil _))), hH⟩
end Go.Proofs.YtkmlinaofbcbaaaDoor
namespace Go.Proofs.YtkmlinaofbcbaaaDoor
open Go Go.Va
set_option linter.unusedVariables false
set_option linter.unusedSimpArgs false
set_option maxRecDepth 20000
theorem butteryref06_Same_ok {x0 : api_Entry} {x1 : api_Entry} {r : Bool} (H : butteryref06_Same x0 x1 = some r) (σ : St)  : ACall Tryd.prog 58 [(e_api_Entry x0), (e_api_Entry x1)] σ (fun a τ => a = eB r ∧ τ = σ) := by
  unfold butteryref06_Same at H
  refine ACall.pure (acall_start tk Tryd.func58 (by decide) rfl (Nat.le_of_ble_eq_true rfl) ?_)
  have hH := Holds.init σ
  refine awp_seq ?_
  refine awp_region rfl ?_
  refine wpo_mv (a := (.fptr (c_api_Entry x0) 0)) rfl rfl rfl (o_boxf tk rfl (.of_eq rfl) (b := (e_api_Entry x0)) (enc24.flat _)) ?_
  refine wpo_mv (a := (.fptr (c_api_Entry x1) 0)) rfl rfl rfl (o_boxf tk rfl (.of_eq rfl) (b := (e_api_Entry x1)) (enc24.flat _)) ?_
  refine wpo_mv (a := (eB false)) rfl rfl rfl (o_as tk rfl (Wk.refl _)) ?_
  refine wpo_nil ?_
  refine awp_seq ?_
  refine awp_region rfl ?_
  refine wpo_mv (a := (.fptr (c_api_Entry x0) 0)) rfl rfl rfl (o_c tk false rfl (fun _ => rfl)) ?_
  refine wpo_mv (a := (eS x0.Key)) rfl rfl rfl (o_ld tk rfl rfl) ?_
  refine wpo_mv (a := (.fptr (c_api_Entry x1) 0)) rfl rfl rfl (o_c tk false rfl (fun _ => rfl)) ?_
  refine wpo_mv (a := (eS x1.Key)) rfl rfl rfl (o_ld tk rfl rfl) ?_
  refine wpo_lt H eB rfl rfl rfl (o_eql_s tk rfl rfl) fun v2 H1 => ?_
  refine wpo_mv (a := (eB v2)) rfl rfl rfl (o_mv tk rfl (Wk.refl _)) ?_
  refine if_split H1 (fun hb H3 => ?_) (fun hb H3 => ?_)
  · subst hb
    refine wpo_mv (a := (.fptr (c_api_Entry x0) 1)) rfl rfl rfl (o_c tk false rfl (fun _ => rfl)) ?_
    refine wpo_mv (a := (eI x0.Version)) rfl rfl rfl (o_ld tk rfl rfl) ?_
    refine wpo_mv (a := (.fptr (c_api_Entry x1) 1)) rfl rfl rfl (o_c tk false rfl (fun _ => rfl)) ?_
    refine wpo_mv (a := (eI x1.Version)) rfl rfl rfl (o_ld tk rfl rfl) ?_
    refine wpo_lt H3 eB rfl rfl rfl (o_ar tk rfl rfl rfl) fun v5 H4 => ?_
    refine wpo_mv (a := (eB v5)) rfl rfl rfl (o_pick_t tk rfl rfl (Wk.refl _)) ?_
    refine wpo_mv (a := (eB v5)) rfl rfl rfl (o_mv tk rfl (Wk.refl _)) ?_
    refine if_split H4 (fun hb H6 => ?_) (fun hb H6 => ?_)
    · subst hb
      refine wpo_mv (a := (.fptr (c_api_Entry x0) 2)) rfl rfl rfl (o_c tk false rfl (fun _ => rfl)) ?_
      refine wpo_mv (a := (eI x0.AsOf)) rfl rfl rfl (o_ld tk rfl rfl) ?_
      refine wpo_mv (a := (.fptr (c_api_Entry x1) 2)) rfl rfl rfl (o_c tk false rfl (fun _ => rfl)) ?_
      refine wpo_mv (a := (eI x1.AsOf)) rfl rfl rfl (o_ld tk rfl rfl) ?_
      refine wpo_lt H6 eB rfl rfl rfl (o_ar tk rfl rfl rfl) fun v8 H7 => ?_
      refine wpo_mv (a := (eB v8)) rfl rfl rfl (o_pick_t tk rfl rfl (Wk.refl _)) ?_
      refine wpo_mv (a := (eB v8)) rfl rfl rfl (o_mv tk rfl (Wk.refl _)) ?_
      refine if_split H7 (fun hb H9 => ?_) (fun hb H9 => ?_)
      · subst hb
        refine wpo_mv (a := (.fptr (c_api_Entry x0) 3)) rfl rfl rfl (o_c tk false rfl (fun _ => rfl)) ?_
        refine wpo_mv (a := (eI x0.Ends)) rfl rfl rfl (o_ld tk rfl rfl) ?_
        refine wpo_mv (a := (.fptr (c_api_Entry x1) 3)) rfl rfl rfl (o_c tk false rfl (fun _ => rfl)) ?_
        refine wpo_mv (a := (eI x1.Ends)) rfl rfl rfl (o_ld tk rfl rfl) ?_
        refine wpo_lt H9 eB rfl rfl rfl (o_ar tk rfl rfl rfl) fun v11 H10 => ?_
        refine wpo_mv (a := (eB v11)) rfl rfl rfl (o_pick_t tk rfl rfl (Wk.refl _)) ?_
        refine wpo_mv (a := (eB v11)) rfl rfl rfl (o_mv tk rfl (Wk.refl _)) ?_
        refine if_split H10 (fun hb H12 => ?_) (fun hb H12 => ?_)
        · subst hb
          refine wpo_mv (a := (.fptr (c_api_Entry x0) 4)) rfl rfl rfl (o_c tk false rfl (fun _ => rfl)) ?_
          refine wpo_mv (a := ((eL 1 (@eU .u8 8)) x0.Value)) rfl rfl rfl (o_ld tk rfl rfl) ?_
          refine wpo_mv (a := (.fptr (c_api_Entry x1) 4)) rfl rfl rfl (o_c tk false rfl (fun _ => rfl)) ?_
          refine wpo_mv (a := ((eL 1 (@eU .u8 8)) x1.Value)) rfl rfl rfl (o_ld tk rfl rfl) ?_
          refine wpo_bd H12 eB rfl rfl rfl (fun v14 hv => OpP.of_call rfl rfl (.cons (.of_eq rfl) (.cons (.of_eq rfl) .nil)) (butteryref02_Same_ok hv)) fun v14 hv14 H13 => ?_
          refine wpo_mv (a := (eB v14)) rfl rfl rfl (o_pick_t tk rfl rfl (Wk.refl _)) ?_
          refine wpo_mv (a := (eB v14)) rfl rfl rfl (o_as tk rfl (Wk.refl _)) ?_
          refine wpo_nil ?_
          refine awp_ret ?_
          obtain rfl := Option.some.inj H13
          exact ⟨_, (eB v14), rfl, (.of_eq rfl), .of_eq ((enc_b td4 sz4).cut _ _ _), hH.noT⟩
        · subst hb
          refine wpo_skip rfl rfl rfl ?_
          refine wpo_skip rfl rfl rfl ?_
          refine wpo_skip rfl rfl rfl ?_
          refine wpo_skip rfl rfl rfl ?_
          refine wpo_skip rfl rfl rfl ?_
          refine wpo_mv (a := (eB false)) rfl rfl rfl (o_pick_f tk rfl rfl (Wk.refl _)) ?_
          refine wpo_mv (a := (eB false)) rfl rfl rfl (o_as tk rfl (Wk.refl _)) ?_
          refine wpo_nil ?_
          refine awp_ret ?_
          obtain rfl := Option.some.inj H12
          exact ⟨_, (eB false), rfl, (.of_eq rfl), .of_eq ((enc_b td4 sz4).cut _ _ _), hH.noT⟩
      · subst hb
        refine wpo_skip rfl rfl rfl ?_
        refine wpo_skip rfl rfl rfl ?_
        refine wpo_skip rfl rfl rfl ?_
        refine wpo_skip rfl rfl rfl ?_
        refine wpo_skip rfl rfl rfl ?_
        refine wpo_mv (a := (eB false)) rfl rfl rfl (o_pick_f tk rfl rfl (Wk.refl _)) ?_
        refine wpo_mv (a := (eB false)) rfl rfl rfl (o_mv tk rfl (Wk.refl _)) ?_
        refine wpo_skip rfl rfl rfl ?_
        refine wpo_skip rfl rfl rfl ?_
        refine wpo_skip rfl rfl rfl ?_
        refine wpo_skip rfl rfl rfl ?_
        refine wpo_skip rfl rfl rfl ?_
        refine wpo_mv (a := (eB false)) rfl rfl rfl (o_pick_f tk rfl rfl (Wk.refl _)) ?_
        refine wpo_mv (a := (eB false)) rfl rfl rfl (o_as tk rfl (Wk.refl _)) ?_
        refine wpo_nil ?_
        refine awp_ret ?_
        obtain rfl := Option.some.inj H9
        exact ⟨_, (eB false), rfl, (.of_eq rfl), .of_eq ((enc_b td4 sz4).cut _ _ _), hH.noT⟩
    · subst hb
      refine wpo_skip rfl rfl rfl ?_
      refine wpo_skip rfl rfl rfl ?_
      refine wpo_skip rfl rfl rfl ?_
      refine wpo_skip rfl rfl rfl ?_
      refine wpo_skip rfl rfl rfl ?_
      refine wpo_mv (a := (eB false)) rfl rfl rfl (o_pick_f tk rfl rfl (Wk.refl _)) ?_
      refine wpo_mv (a := (eB false)) rfl rfl rfl (o_mv tk rfl (Wk.refl _)) ?_
      refine wpo_skip rfl rfl rfl ?_
      refine wpo_skip rfl rfl rfl ?_
      refine wpo_skip rfl rfl rfl ?_
      refine wpo_skip rfl rfl rfl ?_
      refine wpo_skip rfl rfl rfl ?_
      refine wpo_mv (a := (eB false)) rfl rfl rfl (o_pick_f tk rfl rfl (Wk.refl _)) ?_
      refine wpo_mv (a := (eB false)) rfl rfl rfl (o_mv tk rfl (Wk.refl _)) ?_
      refine wpo_skip rfl rfl rfl ?_
      refine wpo_skip rfl rfl rfl ?_
      refine wpo_skip rfl rfl rfl ?_
      refine wpo_skip rfl rfl rfl ?_
      refine wpo_skip rfl rfl rfl ?_
      refine wpo_mv (a := (eB false)) rfl rfl rfl (o_pick_f tk rfl rfl (Wk.refl _)) ?_
      refine wpo_mv (a := (eB false)) rfl rfl rfl (o_as tk rfl (Wk.refl _)) ?_
      refine wpo_nil ?_
      refine awp_ret ?_
      obtain rfl := Option.some.inj H6
      exact ⟨_, (eB false), rfl, (.of_eq rfl), .of_eq ((enc_b td4 sz4).cut _ _ _), hH.noT⟩
  · subst hb
    refine wpo_skip rfl rfl rfl ?_
    refine wpo_skip rfl rfl rfl ?_
    refine wpo_skip rfl rfl rfl ?_
    refine wpo_skip rfl rfl rfl ?_
    refine wpo_skip rfl rfl rfl ?_
    refine wpo_mv (a := (eB false)) rfl rfl rfl (o_pick_f tk rfl rfl (Wk.refl _)) ?_
    refine wpo_mv (a := (eB false)) rfl rfl rfl (o_mv tk rfl (Wk.refl _)) ?_
    refine wpo_skip rfl rfl rfl ?_
    refine wpo_skip rfl rfl rfl ?_
    refine wpo_skip rfl rfl rfl ?_
    refine wpo_skip rfl rfl rfl ?_
    refine wpo_skip rfl rfl rfl ?_
    refine wpo_mv (a := (eB false)) rfl rfl rfl (o_pick_f tk rfl rfl (Wk.refl _)) ?_
    refine wpo_mv (a := (eB false)) rfl rfl rfl (o_mv tk rfl (Wk.refl _)) ?_
    refine wpo_skip rfl rfl rfl ?_
    refine wpo_skip rfl rfl rfl ?_
    refine wpo_skip rfl rfl rfl ?_
    refine wpo_skip rfl rfl rfl ?_
    refine wpo_skip rfl rfl rfl ?_
    refine wpo_mv (a := (eB false)) rfl rfl rfl (o_pick_f tk rfl rfl (Wk.refl _)) ?_
    refine wpo_mv (a := (eB false)) rfl rfl rfl (o_mv tk rfl (Wk.refl _)) ?_
    refine wpo_skip rfl rfl rfl ?_
    refine wpo_skip rfl rfl rfl ?_
    refine wpo_skip rfl rfl rfl ?_
    refine wpo_skip rfl rfl rfl ?_
    refine wpo_skip rfl rfl rfl ?_
    refine wpo_mv (a := (eB false)) rfl rfl rfl (o_pick_f tk rfl rfl (Wk.refl _)) ?_
    refine wpo_mv (a := (eB false)) rfl rfl rfl (o_as tk rfl (Wk.refl _)) ?_
    refine wpo_nil ?_
    refine awp_ret ?_
    obtain rfl := Option.some.inj H3
    exact ⟨_, (eB false), rfl, (.of_eq rfl), .of_eq ((enc_b td4 sz4).cut _ _ _), hH.noT⟩
end Go.Proofs.YtkmlinaofbcbaaaDoor
namespace Go.Proofs.YtkmlinaofbcbaaaDoor
open Go Go.Va
set_option linter.unusedVariables false
set_option linter.unusedSimpArgs false
set_option maxRecDepth 20000
theorem butteryref06_SameAll_ok {x0 : List api_Entry} {x1 : List api_Entry} {r : Bool} (H : butteryref06_SameAll x0 x1 = some r) (σ : St)  : ACall Tryd.prog 35 [((eL 5 e_api_Entry) x0), ((eL 5 e_api_Entry) x1)] σ (fun a τ => a = eB r ∧ τ = σ) := by
  unfold butteryref06_SameAll at H
  refine ACall.pure (acall_start tk Tryd.func35 (by decide) rfl (Nat.le_of_ble_eq_true rfl) ?_)
  have hH := Holds.init σ
  refine awp_seq ?_
  refine awp_region rfl ?_
  refine wpo_mv (a := (eB false)) rfl rfl rfl (o_as tk rfl (Wk.refl _)) ?_
  refine wpo_nil ?_
  refine awp_seq ?_
  refine awp_seq ?_
  refine awp_region rfl ?_
  refine wpo_mv (a := ((eL 5 e_api_Entry) x0)) rfl rfl rfl (o_mv tk rfl (Wk.refl _)) ?_
  refine wpo_lt H eI rfl rfl rfl (o_len tk td60 rfl) fun v2 H1 => ?_
  refine wpo_mv (a := ((eL 5 e_api_Entry) x1)) rfl rfl rfl (o_mv tk rfl (Wk.refl _)) ?_
  refine wpo_lt H1 eI rfl rfl rfl (o_len tk td60 rfl) fun v4 H3 => ?_
  refine wpo_lt H3 eB rfl rfl rfl (o_ar tk rfl rfl rfl) fun v6 H5 => ?_
  refine wpo_nil ?_
  refine awp_if H5 rfl (fun H7 => ?_) (fun H7 => ?_)
  · refine awp_seq ?_
    refine awp_region rfl ?_
    refine wpo_mv (a := (eB false)) rfl rfl rfl (o_as tk rfl (Wk.refl _)) ?_
    refine wpo_nil ?_
    refine awp_ret ?_
    obtain rfl := Option.some.inj H7
    exact ⟨_, (eB false), rfl, (.of_eq rfl), .of_eq ((enc_b td4 sz4).cut _ _ _), hH.noT⟩
  · refine awp_skip ?_
    refine awp_seq ?_
    refine awp_seq ?_
    refine awp_region rfl ?_
    refine wpo_mv (a := (eI (0 : Int))) rfl rfl rfl (o_as tk rfl (Wk.refl _)) ?_
    refine wpo_nil ?_
    refine awp_block ?_
    obtain ⟨o9, hs10, hj11⟩ := Option.bind_eq_some_iff.1 H7
    refine awp_cutx 0 (fun fr τ => ∃ s16 : Unit, o9 = .inl s16 ∧ WkF fr (fm []) ∧ Holds σ [] [] τ) ?_ ?_
    · rintro fr τ ⟨s16, rfl, hfr, hH⟩
      have H35 := hj11
      simp only [Sum.elim_inl] at H35
      refine AWP.fm [] hfr ?_
      refine awp_seq ?_
      refine awp_region rfl ?_
      refine wpo_mv (a := (eB true)) rfl rfl rfl (o_as tk rfl (Wk.refl _)) ?_
      refine wpo_nil ?_
      refine awp_ret ?_
      obtain rfl := Option.some.inj H35
      exact ⟨_, (eB true), rfl, (.of_eq rfl), .of_eq ((enc_b td4 sz4).cut _ _ _), hH.noT⟩
    · refine awp_loopO (body := fun s => butteryref06_SameAll_b0 x0 x1 s) hs10 (fun (s : Int) fr τ => WkF fr (fm [(0, ((eL 5 e_api_Entry) x0)), (1, ((eL 5 e_api_Entry) x1)), (5, (eI s))]) ∧ Holds σ [] [] τ) ⟨(wkf_cons (.of_eq rfl) (wkf_cons (.of_eq rfl) (wkf_cons (.of_eq rfl) (wkf_nil _)))), hH⟩ ?_
      rintro c8 fr τ y12 ⟨hfr, hH⟩ hb14 hy15
      have H17 : butteryref06_SameAll_b0 x0 x1 c8 = some y12 := hb14
      unfold butteryref06_SameAll_b0 at H17
      refine AWP.fm [(0, ((eL 5 e_api_Entry) x0)), (1, ((eL 5 e_api_Entry) x1)), (5, (eI c8))] hfr ?_
      have hH : Holds σ [] [] τ := hH
      refine awp_seq ?_
      refine awp_seq ?_
      refine awp_region rfl ?_
      refine wpo_mv (a := (eI c8)) rfl rfl rfl (o_mv tk rfl (Wk.refl _)) ?_
      refine wpo_mv (a := ((eL 5 e_api_Entry) x0)) rfl rfl rfl (o_mv tk rfl (Wk.refl _)) ?_
      refine wpo_lt H17 eI rfl rfl rfl (o_len tk td60 rfl) fun v19 H18 => ?_
      refine wpo_lt H18 eB rfl rfl rfl (o_ar tk rfl rfl rfl) fun v21 H20 => ?_
      refine wpo_nil ?_
      refine awp_if H20 rfl (fun H22 => ?_) (fun H22 => ?_)
      · refine awp_skip ?_
        refine awp_seq ?_
        refine awp_block ?_
        refine awp_seq ?_
        refine awp_drawS mixed [] rfl (by decide +kernel) rfl rfl ?_
        refine wpdS_mv (a := ((eL 5 e_api_Entry) x0)) rfl rfl rfl (o_mv tk rfl (Wk.refl _)) ?_
        refine wpdS_mv (a := (eI c8)) rfl rfl rfl (o_mv tk rfl (Wk.refl _)) ?_
        refine wpdS_bd H22 (fun y => .fptr (e_api_Entry y).cells 0) rfl rfl rfl (fun v24 hv => o_ixa tk hv td60 enc24 rfl rfl) fun v24 hv24 H23 => ?_
        refine wpdS_mv (a := (e_api_Entry v24)) rfl rfl rfl (o_ld_e tk enc24 rfl rfl) ?_
        refine wpdS_mv (a := ((eL 5 e_api_Entry) x1)) rfl rfl rfl (o_mv tk rfl (Wk.refl _)) ?_
        refine wpdS_mv (a := (eI c8)) rfl rfl rfl (o_mv tk rfl (Wk.refl _)) ?_
        refine wpdS_bd H23 (fun y => .fptr (e_api_Entry y).cells 0) rfl rfl rfl (fun v26 hv => o_ixa tk hv td60 enc24 rfl rfl) fun v26 hv26 H25 => ?_
        refine wpdS_mv (a := (e_api_Entry v26)) rfl rfl rfl (o_ld_e tk enc24 rfl rfl) ?_
        refine wpdS_bd H25 eB rfl rfl rfl (fun v28 hv => OpP.of_call rfl rfl (.cons (.of_eq rfl) (.cons (.of_eq rfl) .nil)) (butteryref06_Same_ok hv)) fun v28 hv28 H27 => ?_
        refine wpdS_lt H27 eB rfl rfl rfl (o_un tk rfl rfl) fun v30 H29 => ?_
        refine wpdS_nil ?_
        refine awp_if H29 rfl (fun H31 => ?_) (fun H31 => ?_)
        · refine awp_seq ?_
          refine awp_region rfl ?_
          refine wpo_mv (a := (eB false)) rfl rfl rfl (o_as tk rfl (Wk.refl _)) ?_
          refine wpo_nil ?_
          refine awp_ret ?_
          have hz := hy15 _ (inj_inr H31)
          refine ⟨⟨_, inj_inr H31⟩, ?_⟩
          rw [← hz] at hj11
          have H32 := (show some _ = some _ from hj11)
          obtain rfl := Option.some.inj H32
          exact ⟨_, (eB false), rfl, (.of_eq rfl), .of_eq ((enc_b td4 sz4).cut _ _ _), hH.noT⟩
        · refine awp_skip ?_
          refine awp_region rfl ?_
          refine wpo_mv (a := (eI c8)) rfl rfl rfl (o_mv tk rfl (Wk.refl _)) ?_
          refine wpo_lt H31 eI rfl rfl rfl (o_ar tk rfl rfl rfl) fun v34 H33 => ?_
          refine wpo_mv (a := (eI v34)) rfl rfl rfl (o_as tk rfl (Wk.refl _)) ?_
          refine wpo_nil ?_
          exact ⟨v34, inj_inl H33, (wkf_cons (.of_eq rfl) (wkf_cons (.of_eq rfl) (wkf_cons (.of_eq rfl) (wkf_nil _)))), hH⟩
      · refine awp_exit ?_
        have hz := hy15 _ (inj_inr H22)
        exact ⟨⟨_, inj_inr H22⟩, (), hz.symm, (wkf_nil _), hH⟩
end Go.Proofs.YtkmlinaofbcbaaaDoor
namespace Go.Proofs.YtkmlinaofbcbaaaDoor
open Go Go.Va
set_option linter.unusedVariables false
set_option linter.unusedSimpArgs false
set_option maxRecDepth 20000
theorem octets_Len_n_ok : ∀ (k : Nat) {x0 : Int} {r : Int} (H : octets_Len_n k x0 = some r) (σ : St) , ACall Tryd.prog 128 [(eI x0)] σ (fun a τ => a = eI r ∧ τ = σ) := by
  intro k
  induction k with
  | zero => intro x0 r H; cases H
  | succ k ih =>
    intro x0 r H σ
    replace H : octets_Len_F (octets_Len_n k) x0 = some r := H
    unfold octets_Len_F at H
    refine ACall.pure (acall_start tk Tryd.func128 (by decide) rfl (Nat.le_of_ble_eq_true rfl) ?_)
    have hH := Holds.init σ
    refine awp_seq ?_
    refine awp_region rfl ?_
    refine wpo_mv (a := (eI (0 : Int))) rfl rfl rfl (o_as tk rfl (Wk.refl _)) ?_
    refine wpo_nil ?_
    refine awp_seq ?_
    refine awp_region rfl ?_
    refine wpo_mv (a := (eI (1 : Int))) rfl rfl rfl (o_as tk rfl (Wk.refl _)) ?_
    refine wpo_nil ?_
    refine awp_seq ?_
    refine awp_block ?_
    refine awp_seq ?_
    refine awp_block ?_
    refine awp_seq ?_
    refine awp_block ?_
    refine awp_seq ?_
    refine awp_block ?_
    refine awp_seq ?_
    refine awp_block ?_
    refine awp_seq ?_
    refine awp_block ?_
    refine awp_seq ?_
    refine awp_seq ?_
    refine awp_seq ?_
    refine awp_region rfl ?_
    refine wpo_mv (a := (eI x0)) rfl rfl rfl (o_mv tk rfl (Wk.refl _)) ?_
    refine wpo_lt H eB rfl rfl rfl (o_ar tk rfl rfl rfl) fun v2 H1 => ?_
    refine wpo_mv (a := (eB v2)) rfl rfl rfl (o_as tk rfl (Wk.refl _)) ?_
    refine wpo_nil ?_
    refine awp_if H1 rfl (fun H3 => ?_) (fun H3 => ?_)
    · refine awp_exit ?_
      refine awp_seq ?_
      refine awp_seq ?_
      refine awp_region rfl ?_
      refine wpo_mv (a := (eI x0)) rfl rfl rfl (o_mv tk rfl (Wk.refl _)) ?_
      refine wpo_lt H3 eI rfl rfl rfl (o_shr tk (y := (35 : Int)) rfl rfl rfl) fun v5 H4 => ?_
      refine wpo_bd H4 eI rfl rfl rfl (fun v7 hv => OpP.of_call rfl rfl (.cons (.of_eq rfl) .nil) (ih hv)) fun v7 hv7 H6 => ?_
      refine wpo_lt H6 eI rfl rfl rfl (o_ar tk rfl rfl rfl) fun v9 H8 => ?_
      refine wpo_mv (a := (eI v9)) rfl rfl rfl (o_as tk rfl (Wk.refl _)) ?_
      refine wpo_nil ?_
      refine awp_ret ?_
      obtain rfl := Option.some.inj H8
      exact ⟨_, (eI v9), rfl, (.of_eq rfl), .of_eq ((enc_i64 td3 sz3).cut _ _ _), hH.noT⟩
    · refine awp_skip ?_
      refine awp_seq ?_
      refine awp_seq ?_
      refine awp_region rfl ?_
      refine wpo_mv (a := (eI x0)) rfl rfl rfl (o_mv tk rfl (Wk.refl _)) ?_
      refine wpo_lt H3 eB rfl rfl rfl (o_ar tk rfl rfl rfl) fun v11 H10 => ?_
      refine wpo_mv (a := (eB v11)) rfl rfl rfl (o_as tk rfl (Wk.refl _)) ?_
      refine wpo_nil ?_
      refine awp_if H10 rfl (fun H12 => ?_) (fun H12 => ?_)
      · refine awp_exit ?_
        refine awp_region rfl ?_
        refine wpo_mv (a := (eI (1 : Int))) rfl rfl rfl (o_mv tk rfl (Wk.refl _)) ?_
        refine wpo_lt H12 eI rfl rfl rfl (o_ar tk rfl rfl rfl) fun v14 H13 => ?_
        refine wpo_mv (a := (eI v14)) rfl rfl rfl (o_as tk rfl (Wk.refl _)) ?_
        refine wpo_nil ?_
        refine awp_region rfl ?_
        refine wpo_mv (a := (eI v14)) rfl rfl rfl (o_mv tk rfl (Wk.refl _)) ?_
        refine wpo_lt H13 eI rfl rfl rfl (o_ar tk rfl rfl rfl) fun v16 H15 => ?_
        refine wpo_mv (a := (eI v16)) rfl rfl rfl (o_as tk rfl (Wk.refl _)) ?_
        refine wpo_nil ?_
        refine awp_region rfl ?_
        refine wpo_mv (a := (eI v16)) rfl rfl rfl (o_mv tk rfl (Wk.refl _)) ?_
        refine wpo_lt H15 eI rfl rfl rfl (o_ar tk rfl rfl rfl) fun v18 H17 => ?_
        refine wpo_mv (a := (eI v18)) rfl rfl rfl (o_as tk rfl (Wk.refl _)) ?_
        refine wpo_nil ?_
        refine awp_seq ?_
        refine awp_region rfl ?_
        refine wpo_mv (a := (eI v18)) rfl rfl rfl (o_mv tk rfl (Wk.refl _)) ?_
        refine wpo_lt H17 eI rfl rfl rfl (o_ar tk rfl rfl rfl) fun v20 H19 => ?_
        refine wpo_mv (a := (eI v20)) rfl rfl rfl (o_as tk rfl (Wk.refl _)) ?_
        refine wpo_nil ?_
        refine awp_exit ?_
        refine awp_seq ?_
        refine awp_region rfl ?_
        refine wpo_mv (a := (eI v20)) rfl rfl rfl (o_mv tk rfl (Wk.refl _)) ?_
        refine wpo_mv (a := (eI v20)) rfl rfl rfl (o_as tk rfl (Wk.refl _)) ?_
        refine wpo_nil ?_
        refine awp_ret ?_
        obtain rfl := Option.some.inj H19
        exact ⟨_, (eI v20), rfl, (.of_eq rfl), .of_eq ((enc_i64 td3 sz3).cut _ _ _), hH.noT⟩
      · refine awp_skip ?_
        refine awp_seq ?_
        refine awp_seq ?_
        refine awp_region rfl ?_
        refine wpo_mv (a := (eI x0)) rfl rfl rfl (o_mv tk rfl (Wk.refl _)) ?_
        refine wpo_lt H12 eB rfl rfl rfl (o_ar tk rfl rfl rfl) fun v22 H21 => ?_
        refine wpo_mv (a := (eB v22)) rfl rfl rfl (o_as tk rfl (Wk.refl _)) ?_
        refine wpo_nil ?_
        refine awp_if H21 rfl (fun H23 => ?_) (fun H23 => ?_)
        · refine awp_exit ?_
          refine awp_region rfl ?_
          refine wpo_mv (a := (eI (1 : Int))) rfl rfl rfl (o_mv tk rfl (Wk.refl _)) ?_
          refine wpo_lt H23 eI rfl rfl rfl (o_ar tk rfl rfl rfl) fun v25 H24 => ?_
          refine wpo_mv (a := (eI v25)) rfl rfl rfl (o_as tk rfl (Wk.refl _)) ?_
          refine wpo_nil ?_
          refine awp_region rfl ?_
          refine wpo_mv (a := (eI v25)) rfl rfl rfl (o_mv tk rfl (Wk.refl _)) ?_
          refine wpo_lt H24 eI rfl rfl rfl (o_ar tk rfl rfl rfl) fun v27 H26 => ?_
          refine wpo_mv (a := (eI v27)) rfl rfl rfl (o_as tk rfl (Wk.refl _)) ?_
          refine wpo_nil ?_
          refine awp_seq ?_
          refine awp_region rfl ?_
          refine wpo_mv (a := (eI v27)) rfl rfl rfl (o_mv tk rfl (Wk.refl _)) ?_
          refine wpo_lt H26 eI rfl rfl rfl (o_ar tk rfl rfl rfl) fun v29 H28 => ?_
          refine wpo_mv (a := (eI v29)) rfl rfl rfl (o_as tk rfl (Wk.refl _)) ?_
          refine wpo_nil ?_
          refine awp_exit ?_
          refine awp_seq ?_
          refine awp_region rfl ?_
          refine wpo_mv (a := (eI v29)) rfl rfl rfl (o_mv tk rfl (Wk.refl _)) ?_
          refine wpo_mv (a := (eI v29)) rfl rfl rfl (o_as tk rfl (Wk.refl _)) ?_
          refine wpo_nil ?_
          refine awp_ret ?_
          obtain rfl := Option.some.inj H28
          exact ⟨_, (eI v29), rfl, (.of_eq rfl), .of_eq ((enc_i64 td3 sz3).cut _ _ _), hH.noT⟩
        · refine awp_skip ?_
          refine awp_seq ?_
          refine awp_seq ?_
          refine awp_region rfl ?_
          refine wpo_mv (a := (eI x0)) rfl rfl rfl (o_mv tk rfl (Wk.refl _)) ?_
          refine wpo_lt H23 eB rfl rfl rfl (o_ar tk rfl rfl rfl) fun v31 H30 => ?_
          refine wpo_mv (a := (eB v31)) rfl rfl rfl (o_as tk rfl (Wk.refl _)) ?_
          refine wpo_nil ?_
          refine awp_if H30 rfl (fun H32 => ?_) (fun H32 => ?_)
          · refine awp_exit ?_
            refine awp_region rfl ?_
            refine wpo_mv (a := (eI (1 : Int))) rfl rfl rfl (o_mv tk rfl (Wk.refl _)) ?_
            refine wpo_lt H32 eI rfl rfl rfl (o_ar tk rfl rfl rfl) fun v34 H33 => ?_
            refine wpo_mv (a := (eI v34)) rfl rfl rfl (o_as tk rfl (Wk.refl _)) ?_
            refine wpo_nil ?_
            refine awp_seq ?_
            refine awp_region rfl ?_
            refine wpo_mv (a := (eI v34)) rfl rfl rfl (o_mv tk rfl (Wk.refl _)) ?_
            refine wpo_lt H33 eI rfl rfl rfl (o_ar tk rfl rfl rfl) fun v36 H35 => ?_
            refine wpo_mv (a := (eI v36)) rfl rfl rfl (o_as tk rfl (Wk.refl _)) ?_
            refine wpo_nil ?_
            refine awp_exit ?_
            refine awp_seq ?_
            refine awp_region rfl ?_
            refine wpo_mv (a := (eI v36)) rfl rfl rfl (o_mv tk rfl (Wk.refl _)) ?_
            refine wpo_mv (a := (eI v36)) rfl rfl rfl (o_as tk rfl (Wk.refl _)) ?_
            refine wpo_nil ?_
            refine awp_ret ?_
            obtain rfl := Option.some.inj H35
            exact ⟨_, (eI v36), rfl, (.of_eq rfl), .of_eq ((enc_i64 td3 sz3).cut _ _ _), hH.noT⟩
          · refine awp_skip ?_
            refine awp_seq ?_
            refine awp_region rfl ?_
            refine wpo_mv (a := (eI x0)) rfl rfl rfl (o_mv tk rfl (Wk.refl _)) ?_
            refine wpo_lt H32 eB rfl rfl rfl (o_ar tk rfl rfl rfl) fun v38 H37 => ?_
            refine wpo_mv (a := (eB v38)) rfl rfl rfl (o_as tk rfl (Wk.refl _)) ?_
            refine wpo_nil ?_
            refine awp_if H37 rfl (fun H39 => ?_) (fun H39 => ?_)
            · refine awp_exit ?_
              refine awp_seq ?_
              refine awp_region rfl ?_
              refine wpo_mv (a := (eI (1 : Int))) rfl rfl rfl (o_mv tk rfl (Wk.refl _)) ?_
              refine wpo_lt H39 eI rfl rfl rfl (o_ar tk rfl rfl rfl) fun v41 H40 => ?_
              refine wpo_mv (a := (eI v41)) rfl rfl rfl (o_as tk rfl (Wk.refl _)) ?_
              refine wpo_nil ?_
              refine awp_exit ?_
              refine awp_seq ?_
              refine awp_region rfl ?_
              refine wpo_mv (a := (eI v41)) rfl rfl rfl (o_mv tk rfl (Wk.refl _)) ?_
              refine wpo_mv (a := (eI v41)) rfl rfl rfl (o_as tk rfl (Wk.refl _)) ?_
              refine wpo_nil ?_
              refine awp_ret ?_
              obtain rfl := Option.some.inj H40
              exact ⟨_, (eI v41), rfl, (.of_eq rfl), .of_eq ((enc_i64 td3 sz3).cut _ _ _), hH.noT⟩
            · refine awp_skip ?_
              refine awp_exit ?_
              refine awp_seq ?_
              refine awp_region rfl ?_
              refine wpo_mv (a := (eI (1 : Int))) rfl rfl rfl (o_mv tk rfl (Wk.refl _)) ?_
              refine wpo_mv (a := (eI (1 : Int))) rfl rfl rfl (o_as tk rfl (Wk.refl _)) ?_
              refine wpo_nil ?_
              refine awp_ret ?_
              obtain rfl := Option.some.inj H39
              exact ⟨_, (eI (1 : Int)), rfl, (.of_eq rfl), .of_eq ((enc_i64 td3 sz3).cut _ _ _), hH.noT⟩
theorem octets_Len_ok {x0 : Int} {r : Int} (H : octets_Len x0 = some r) (σ : St)  : ACall Tryd.prog 128 [(eI x0)] σ (fun a τ => a = eI r ∧ τ = σ) := octets_Len_n_ok _ H σ
end Go.Proofs.YtkmlinaofbcbaaaDoor
namespace Go.Proofs.YtkmlinaofbcbaaaDoor
open Go Go.Va
set_option linter.unusedVariables false
set_option linter.unusedSimpArgs false
set_option maxRecDepth 20000
theorem item_Size_ok {x0 : api_Entry} {r : Int} (H : item_Size x0 = some r) (σ : St)  : ACall Tryd.prog 100 [(e_api_Entry x0)] σ (fun a τ => a = eI r ∧ τ = σ) := by
  unfold item_Size at H
  refine ACall.pure (acall_start tk Tryd.func100 (by decide) rfl (Nat.le_of_ble_eq_true rfl) ?_)
  have hH := Holds.init σ
  refine awp_seq ?_
  refine awp_region rfl ?_
  refine wpo_mv (a := (.fptr (c_api_Entry x0) 0)) rfl rfl rfl (o_boxf tk rfl (.of_eq rfl) (b := (e_api_Entry x0)) (enc24.flat _)) ?_
  refine wpo_mv (a := (eI (0 : Int))) rfl rfl rfl (o_as tk rfl (Wk.refl _)) ?_
  refine wpo_nil ?_
  refine awp_seq ?_
  refine awp_drawS mixed [] rfl (by decide +kernel) rfl rfl ?_
  refine wpdS_mv (a := (.fptr (c_api_Entry x0) 0)) rfl rfl rfl (o_c tk false rfl (fun _ => rfl)) ?_
  refine wpdS_mv (a := (eS x0.Key)) rfl rfl rfl (o_ld tk rfl rfl) ?_
  refine wpdS_lt H eI rfl rfl rfl (o_len_s tk td9 rfl) fun v2 H1 => ?_
  refine wpdS_bd H1 eI rfl rfl rfl (fun v4 hv => OpP.of_call rfl rfl (.cons (.of_eq rfl) .nil) (octets_Len_ok hv)) fun v4 hv4 H3 => ?_
  refine wpdS_mv (a := (.fptr (c_api_Entry x0) 0)) rfl rfl rfl (o_c tk false rfl (fun _ => rfl)) ?_
  refine wpdS_mv (a := (eS x0.Key)) rfl rfl rfl (o_ld tk rfl rfl) ?_
  refine wpdS_lt H3 eI rfl rfl rfl (o_len_s tk td9 rfl) fun v6 H5 => ?_
  refine wpdS_lt H5 eI rfl rfl rfl (o_ar tk rfl rfl rfl) fun v8 H7 => ?_
  refine wpdS_mv (a := (.fptr (c_api_Entry x0) 4)) rfl rfl rfl (o_c tk false rfl (fun _ => rfl)) ?_
  refine wpdS_mv (a := ((eL 1 (@eU .u8 8)) x0.Value)) rfl rfl rfl (o_ld tk rfl rfl) ?_
  refine wpdS_lt H7 eI rfl rfl rfl (o_len tk td22 rfl) fun v10 H9 => ?_
  refine wpdS_bd H9 eI rfl rfl rfl (fun v12 hv => OpP.of_call rfl rfl (.cons (.of_eq rfl) .nil) (octets_Len_ok hv)) fun v12 hv12 H11 => ?_
  refine wpdS_lt H11 eI rfl rfl rfl (o_ar tk rfl rfl rfl) fun v14 H13 => ?_
  refine wpdS_mv (a := (.fptr (c_api_Entry x0) 4)) rfl rfl rfl (o_c tk false rfl (fun _ => rfl)) ?_
  refine wpdS_mv (a := ((eL 1 (@eU .u8 8)) x0.Value)) rfl rfl rfl (o_ld tk rfl rfl) ?_
  refine wpdS_lt H13 eI rfl rfl rfl (o_len tk td22 rfl) fun v16 H15 => ?_
  refine wpdS_lt H15 eI rfl rfl rfl (o_ar tk rfl rfl rfl) fun v18 H17 => ?_
  refine wpdS_mv (a := (eI v18)) rfl rfl rfl (o_as tk rfl (Wk.refl _)) ?_
  refine wpdS_nil ?_
  refine awp_seq ?_
  refine awp_drawS mixed [] rfl (by decide +kernel) rfl rfl ?_
  refine wpdS_mv (a := (eI v18)) rfl rfl rfl (o_mv tk rfl (Wk.refl _)) ?_
  refine wpdS_mv (a := (.fptr (c_api_Entry x0) 1)) rfl rfl rfl (o_c tk false rfl (fun _ => rfl)) ?_
  refine wpdS_mv (a := (eI x0.Version)) rfl rfl rfl (o_ld tk rfl rfl) ?_
  refine wpdS_bd H17 eI rfl rfl rfl (fun v20 hv => OpP.of_call rfl rfl (.cons (.of_eq rfl) .nil) (octets_Len_ok hv)) fun v20 hv20 H19 => ?_
  refine wpdS_lt H19 eI rfl rfl rfl (o_ar tk rfl rfl rfl) fun v22 H21 => ?_
  refine wpdS_mv (a := (.fptr (c_api_Entry x0) 2)) rfl rfl rfl (o_c tk false rfl (fun _ => rfl)) ?_
  refine wpdS_mv (a := (eI x0.AsOf)) rfl rfl rfl (o_ld tk rfl rfl) ?_
  refine wpdS_bd H21 eI rfl rfl rfl (fun v24 hv => OpP.of_call rfl rfl (.cons (.of_eq rfl) .nil) (octets_Len_ok hv)) fun v24 hv24 H23 => ?_
  refine wpdS_lt H23 eI rfl rfl rfl (o_ar tk rfl rfl rfl) fun v26 H25 => ?_
  refine wpdS_mv (a := (.fptr (c_api_Entry x0) 3)) rfl rfl rfl (o_c tk false rfl (fun _ => rfl)) ?_
  refine wpdS_mv (a := (eI x0.Ends)) rfl rfl rfl (o_ld tk rfl rfl) ?_
  refine wpdS_bd H25 eI rfl rfl rfl (fun v28 hv => OpP.of_call rfl rfl (.cons (.of_eq rfl) .nil) (octets_Len_ok hv)) fun v28 hv28 H27 => ?_
  refine wpdS_lt H27 eI rfl rfl rfl (o_ar tk rfl rfl rfl) fun v30 H29 => ?_
  refine wpdS_mv (a := (eI v30)) rfl rfl rfl (o_as tk rfl (Wk.refl _)) ?_
  refine wpdS_nil ?_
  refine awp_ret ?_
  obtain rfl := Option.some.inj H29
  exact ⟨_, (eI v30), rfl, (.of_eq rfl), .of_eq ((enc_i64 td3 sz3).cut _ _ _), hH.noT⟩
end Go.Proofs.YtkmlinaofbcbaaaDoor
namespace Go.Proofs.YtkmlinaofbcbaaaDoor
open Go Go.Va
set_option linter.unusedVariables false
set_option linter.unusedSimpArgs false
set_option maxRecDepth 20000
theorem bloom_Mix_ok {x0 : BitVec 64} {r : (BitVec 64)} (H : bloom_Mix x0 = some r) (σ : St)  : ACall Tryd.prog 107 [((@eU .u64 64) x0)] σ (fun a τ => a = (@eU .u64 64) r ∧ τ = σ) := by
  unfold bloom_Mix at H
  refine ACall.pure (acall_start tk Tryd.func107 (by decide) rfl (Nat.le_of_ble_eq_true rfl) ?_)
  have hH := Holds.init σ
  refine awp_seq ?_
  refine awp_region rfl ?_
  refine wpo_mv (a := ((@eU .u64 64) 0#64)) rfl rfl rfl (o_as tk rfl (Wk.refl _)) ?_
  refine wpo_nil ?_
  refine awp_seq ?_
  refine awp_region rfl ?_
  refine wpo_mv (a := ((@eU .u64 64) x0)) rfl rfl rfl (o_mv tk rfl (Wk.refl _)) ?_
  refine wpo_mv (a := ((@eU .u64 64) x0)) rfl rfl rfl (o_mv tk rfl (Wk.refl _)) ?_
  refine wpo_lt H (@eU .u64 64) rfl rfl rfl (o_shr_u tk rfl (y := (33 : Int)) rfl rfl rfl) fun v2 H1 => ?_
  refine wpo_lt H1 (@eU .u64 64) rfl rfl rfl (o_xor_u tk rfl rfl rfl) fun v4 H3 => ?_
  refine wpo_mv (a := ((@eU .u64 64) v4)) rfl rfl rfl (o_as tk rfl (Wk.refl _)) ?_
  refine wpo_nil ?_
  refine awp_seq ?_
  refine awp_region rfl ?_
  refine wpo_mv (a := ((@eU .u64 64) v4)) rfl rfl rfl (o_mv tk rfl (Wk.refl _)) ?_
  refine wpo_lt H3 (@eU .u64 64) rfl rfl rfl (o_mul_u tk rfl rfl rfl) fun v6 H5 => ?_
  refine wpo_mv (a := ((@eU .u64 64) v6)) rfl rfl rfl (o_as tk rfl (Wk.refl _)) ?_
  refine wpo_nil ?_
  refine awp_seq ?_
  refine awp_region rfl ?_
  refine wpo_mv (a := ((@eU .u64 64) v6)) rfl rfl rfl (o_mv tk rfl (Wk.refl _)) ?_
  refine wpo_mv (a := ((@eU .u64 64) v6)) rfl rfl rfl (o_mv tk rfl (Wk.refl _)) ?_
  refine wpo_lt H5 (@eU .u64 64) rfl rfl rfl (o_shr_u tk rfl (y := (33 : Int)) rfl rfl rfl) fun v8 H7 => ?_
  refine wpo_lt H7 (@eU .u64 64) rfl rfl rfl (o_xor_u tk rfl rfl rfl) fun v10 H9 => ?_
  refine wpo_mv (a := ((@eU .u64 64) v10)) rfl rfl rfl (o_as tk rfl (Wk.refl _)) ?_
  refine wpo_nil ?_
  refine awp_seq ?_
  refine awp_region rfl ?_
  refine wpo_mv (a := ((@eU .u64 64) v10)) rfl rfl rfl (o_mv tk rfl (Wk.refl _)) ?_
  refine wpo_lt H9 (@eU .u64 64) rfl rfl rfl (o_mul_u tk rfl rfl rfl) fun v12 H11 => ?_
  refine wpo_mv (a := ((@eU .u64 64) v12)) rfl rfl rfl (o_as tk rfl (Wk.refl _)) ?_
  refine wpo_nil ?_
  refine awp_seq ?_
  refine awp_region rfl ?_
  refine wpo_mv (a := ((@eU .u64 64) v12)) rfl rfl rfl (o_mv tk rfl (Wk.refl _)) ?_
  refine wpo_mv (a := ((@eU .u64 64) v12)) rfl rfl rfl (o_mv tk rfl (Wk.refl _)) ?_
  refine wpo_lt H11 (@eU .u64 64) rfl rfl rfl (o_shr_u tk rfl (y := (33 : Int)) rfl rfl rfl) fun v14 H13 => ?_
  refine wpo_lt H13 (@eU .u64 64) rfl rfl rfl (o_xor_u tk rfl rfl rfl) fun v16 H15 => ?_
  refine wpo_mv (a := ((@eU .u64 64) v16)) rfl rfl rfl (o_as tk rfl (Wk.refl _)) ?_
  refine wpo_nil ?_
  refine awp_ret ?_
  obtain rfl := Option.some.inj H15
  exact ⟨_, ((@eU .u64 64) v16), rfl, (.of_eq rfl), .of_eq ((enc_u td72 sz72).cut _ _ _), hH.noT⟩
end Go.Proofs.YtkmlinaofbcbaaaDoor
namespace Go.Proofs.YtkmlinaofbcbaaaDoor
open Go Go.Va
set_option linter.unusedVariables false
set_option linter.unusedSimpArgs false
set_option maxRecDepth 20000
theorem bloom_Hash_ok {x0 : List (BitVec 8)} {r : (BitVec 64)} (H : bloom_Hash x0 = some r) (σ : St)  : ACall Tryd.prog 47 [(eS x0)] σ (fun a τ => a = (@eU .u64 64) r ∧ τ = σ) := by
  unfold bloom_Hash at H
  refine ACall.pure (acall_start tk Tryd.func47 (by decide) rfl (Nat.le_of_ble_eq_true rfl) ?_)
  have hH := Holds.init σ
  refine awp_seq ?_
  refine awp_region rfl ?_
  refine wpo_mv (a := ((@eU .u64 64) 0#64)) rfl rfl rfl (o_as tk rfl (Wk.refl _)) ?_
  refine wpo_nil ?_
  refine awp_seq ?_
  refine awp_region rfl ?_
  refine wpo_mv (a := ((@eU .u64 64) 14695981039346656037#64)) rfl rfl rfl (o_as tk rfl (Wk.refl _)) ?_
  refine wpo_nil ?_
  refine awp_seq ?_
  refine awp_seq ?_
  refine awp_region rfl ?_
  refine wpo_mv (a := (eS x0)) rfl rfl rfl (o_mv tk rfl (Wk.refl _)) ?_
  refine wpo_lt H eI rfl rfl rfl (o_len_s tk td9 rfl) fun v2 H1 => ?_
  refine wpo_mv (a := (eI (0 : Int))) rfl rfl rfl (o_mv tk rfl (Wk.refl _)) ?_
  refine wpo_nil ?_
  refine awp_block ?_
  obtain ⟨s12, hs6, hj7⟩ := Option.bind_eq_some_iff.1 H1
  refine awp_cutx 0 (fun fr τ => WkF fr (fm [(3, ((@eU .u64 64) s12))]) ∧ Holds σ [] [] τ) ?_ ?_
  · rintro fr τ ⟨hfr, hH⟩
    have H27 := hj7
    refine AWP.fm [(3, ((@eU .u64 64) s12))] hfr ?_
    refine awp_seq ?_
    refine awp_region rfl ?_
    refine wpo_mv (a := ((@eU .u64 64) s12)) rfl rfl rfl (o_mv tk rfl (Wk.refl _)) ?_
    refine wpo_bd H27 (@eU .u64 64) rfl rfl rfl (fun v29 hv => OpP.of_call rfl rfl (.cons (.of_eq rfl) .nil) (bloom_Mix_ok hv)) fun v29 hv29 H28 => ?_
    refine wpo_mv (a := ((@eU .u64 64) v29)) rfl rfl rfl (o_as tk rfl (Wk.refl _)) ?_
    refine wpo_nil ?_
    refine awp_ret ?_
    obtain rfl := Option.some.inj H28
    exact ⟨_, ((@eU .u64 64) v29), rfl, (.of_eq rfl), .of_eq ((enc_u td72 sz72).cut _ _ _), hH.noT⟩
  · refine awp_loopO (body := fun s => bloom_Hash_b0 x0 v2 s.1 s.2) hs6 (fun (s : (BitVec 64) × Int) fr τ => WkF fr (fm [(0, (eS x0)), (3, ((@eU .u64 64) s.1)), (6, (eI v2)), (7, (eI s.2))]) ∧ Holds σ [] [] τ) ⟨(wkf_cons (.of_eq rfl) (wkf_cons (.of_eq rfl) (wkf_cons (.of_eq rfl) (wkf_cons (.of_eq rfl) (wkf_nil _))))), hH⟩ ?_
    rintro ⟨c3, c4⟩ fr τ y8 ⟨hfr, hH⟩ hb10 hy11
    have H13 : bloom_Hash_b0 x0 v2 c3 c4 = some y8 := hb10
    unfold bloom_Hash_b0 at H13
    refine AWP.fm [(0, (eS x0)), (3, ((@eU .u64 64) c3)), (6, (eI v2)), (7, (eI c4))] hfr ?_
    have hH : Holds σ [] [] τ := hH
    refine awp_seq ?_
    refine awp_region rfl ?_
    refine wpo_lt H13 eB rfl rfl rfl (o_ar tk rfl rfl rfl) fun v15 H14 => ?_
    refine wpo_nil ?_
    refine awp_seq ?_
    refine awp_if H14 rfl (fun H16 => ?_) (fun H16 => ?_)
    · refine awp_skip ?_
      refine awp_seq ?_
      refine awp_block ?_
      refine awp_seq ?_
      refine awp_region rfl ?_
      refine wpo_mv (a := (eI c4)) rfl rfl rfl (o_mv tk rfl (Wk.refl _)) ?_
      refine wpo_mv (a := (eI c4)) rfl rfl rfl (o_as tk rfl (Wk.refl _)) ?_
      refine wpo_nil ?_
      refine awp_region rfl ?_
      refine wpo_mv (a := ((@eU .u64 64) c3)) rfl rfl rfl (o_mv tk rfl (Wk.refl _)) ?_
      refine wpo_mv (a := (eS x0)) rfl rfl rfl (o_mv tk rfl (Wk.refl _)) ?_
      refine wpo_mv (a := (eI c4)) rfl rfl rfl (o_mv tk rfl (Wk.refl _)) ?_
      refine wpo_bd H16 (@eU .u8 8) rfl rfl rfl (fun v18 hv => o_six tk hv td9 rfl rfl) fun v18 hv18 H17 => ?_
      refine wpo_lt H17 (@eU .u64 64) rfl rfl rfl (o_cv_uu tk td5 td72 rfl rfl) fun v20 H19 => ?_
      refine wpo_lt H19 (@eU .u64 64) rfl rfl rfl (o_xor_u tk rfl rfl rfl) fun v22 H21 => ?_
      refine wpo_lt H21 (@eU .u64 64) rfl rfl rfl (o_mul_u tk rfl rfl rfl) fun v24 H23 => ?_
      refine wpo_mv (a := ((@eU .u64 64) v24)) rfl rfl rfl (o_as tk rfl (Wk.refl _)) ?_
      refine wpo_nil ?_
      refine awp_region rfl ?_
      refine wpo_lt H23 eI rfl rfl rfl (o_ar tk rfl rfl rfl) fun v26 H25 => ?_
      refine wpo_mv (a := (eI v26)) rfl rfl rfl (o_mv tk rfl (Wk.refl _)) ?_
      refine wpo_nil ?_
      exact ⟨(v24, v26), inj_inl H25, (wkf_cons (.of_eq rfl) (wkf_cons (.of_eq rfl) (wkf_cons (.of_eq rfl) (wkf_cons (.of_eq rfl) (wkf_nil _))))), hH⟩
    · refine awp_exit ?_
      have hz := hy11 _ (inj_inr H16)
      subst hz
      exact ⟨⟨_, inj_inr H16⟩, (wkf_cons (.of_eq rfl) (wkf_nil _)), hH⟩
end Go.Proofs.YtkmlinaofbcbaaaDoor
namespace Go.Proofs.YtkmlinaofbcbaaaDoor
open Go Go.Va
set_option linter.unusedVariables false
set_option linter.unusedSimpArgs false
set_option maxRecDepth 20000
theorem region_Marks_app {x0 : List api_Entry} {r : (List api_Mark)} (H : region_Marks x0 = some r) (σ : St)  : ACall Tryd.prog 37 [((eL 5 e_api_Entry) x0)] σ (fun a τ => a = .sl (.own σ.opn.length) 3 (r.map e_api_Mark) ∧ τ = σ.more) := by
  unfold region_Marks at H
  refine ACall.app (fun ρ κ => cutL_enc enc74.cut ρ κ r) (acall_start tk Tryd.func37 (by decide) rfl (Nat.le_of_ble_eq_true rfl) ?_)
  have hH := Holds.init σ
  refine awp_seq ?_
  refine awp_region rfl ?_
  refine wpo_mv (a := AV.nils) rfl rfl rfl (o_as tk rfl (Wk.refl _)) ?_
  refine wpo_nil ?_
  refine awp_seq ?_
  refine awp_region rfl ?_
  refine wpo_mv (a := AV.nils) rfl rfl rfl (o_as tk rfl (Wk.refl _)) ?_
  refine wpo_nil ?_
  refine awp_seq ?_
  refine awp_region rfl ?_
  refine wpo_mv (a := (eI (0 : Int))) rfl rfl rfl (o_as tk rfl (Wk.refl _)) ?_
  refine wpo_nil ?_
  refine awp_seq ?_
  refine awp_seq ?_
  refine awp_region rfl ?_
  refine wpo_mv (a := ((eL 5 e_api_Entry) x0)) rfl rfl rfl (o_mv tk rfl (Wk.refl _)) ?_
  refine wpo_lt H eI rfl rfl rfl (o_len tk td60 rfl) fun v2 H1 => ?_
  refine wpo_mv (a := (eI (0 : Int))) rfl rfl rfl (o_mv tk rfl (Wk.refl _)) ?_
  refine wpo_nil ?_
  refine awp_block ?_
  refine AWP.tokN hH 3 3 rfl fun tk6 τ hH => ?_
  obtain ⟨s14, hs8, hj9⟩ := Option.bind_eq_some_iff.1 H1
  refine awp_cutx 0 (fun fr τ => ∃ tk_3, WkF fr (fm [(3, (eT tk_3 3 e_api_Mark s14))]) ∧ Holds σ [] [tk_3] τ) ?_ ?_
  · rintro fr τ ⟨tk_3, hfr, hH⟩
    have H40 := hj9
    refine AWP.fm [(3, (eT tk_3 3 e_api_Mark s14))] hfr ?_
    refine awp_seq ?_
    refine awp_region rfl ?_
    refine wpo_mv (a := (eT tk_3 3 e_api_Mark s14)) rfl rfl rfl (o_mv tk rfl (Wk.refl _)) ?_
    refine wpo_mv (a := (eT tk_3 3 e_api_Mark s14)) rfl rfl rfl (o_as tk rfl (Wk.refl _)) ?_
    refine wpo_nil ?_
    refine awp_ret ?_
    obtain rfl := Option.some.inj H40
    exact ⟨_, (eT tk_3 3 e_api_Mark s14), rfl, .of_eq rfl, tk_3, rfl, hH⟩
  · refine awp_loopO (body := fun s => region_Marks_b0 x0 v2 s.1 s.2.1 s.2.2) hs8 (fun (s : (List api_Mark) × Int × Int) fr τ => ∃ tk_3, WkF fr (fm [(3, (eT tk_3 3 e_api_Mark s.1)), (4, (eI s.2.1)), (8, ((eL 5 e_api_Entry) x0)), (9, (eI v2)), (10, (eI s.2.2))]) ∧ Holds σ [] [tk_3] τ) ⟨tk6, (wkf_cons (.of_eq rfl) (wkf_cons (.of_eq rfl) (wkf_cons (.of_eq rfl) (wkf_cons (.of_eq rfl) (wkf_cons (.of_eq rfl) (wkf_nil _)))))), hH⟩ ?_
    rintro ⟨c3, c4, c5⟩ fr τ y10 ⟨tk_3, hfr, hH⟩ hb12 hy13
    have H15 : region_Marks_b0 x0 v2 c3 c4 c5 = some y10 := hb12
    unfold region_Marks_b0 at H15
    refine AWP.fm [(3, (eT tk_3 3 e_api_Mark c3)), (4, (eI c4)), (8, ((eL 5 e_api_Entry) x0)), (9, (eI v2)), (10, (eI c5))] hfr ?_
    have hH : Holds σ [] [tk_3] τ := hH
    refine awp_seq ?_
    refine awp_region rfl ?_
    refine wpo_lt H15 eB rfl rfl rfl (o_ar tk rfl rfl rfl) fun v17 H16 => ?_
    refine wpo_nil ?_
    refine awp_seq ?_
    refine awp_if H16 rfl (fun H18 => ?_) (fun H18 => ?_)
    · refine awp_skip ?_
      refine awp_seq ?_
      refine awp_block ?_
      refine awp_seq ?_
      refine awp_region rfl ?_
      refine wpo_bd H18 (fun y => .fptr (e_api_Entry y).cells 0) rfl rfl rfl (fun v20 hv => o_ixa tk hv td60 enc24 rfl rfl) fun v20 hv20 H19 => ?_
      refine wpo_mv (a := (e_api_Entry v20)) rfl rfl rfl (o_ld_e tk enc24 rfl rfl) ?_
      refine wpo_a (av := fun id => .ref id 0) rfl rfl rfl (h_alloc tk hH ty24 [(eS z_api_Entry.Key), (eI z_api_Entry.Version), (eI z_api_Entry.AsOf), (eI z_api_Entry.Ends), AV.nils] rfl) fun id21 τ ⟨hH, n22⟩ => ?_
      refine wpo_z rfl rfl (h_st tk hH 0 rfl ty24 (by simp) rfl rfl (.of_eq rfl) (b := (e_api_Entry v20)) (enc24.flat _) rfl (Nat.le_of_ble_eq_true rfl) (c_api_Entry (v20 : api_Entry)) rfl) fun τ hH => ?_
      refine wpo_nil ?_
      refine awp_seq ?_
      refine awp_region rfl ?_
      refine wpo_rd (a := (e_api_Entry (v20 : api_Entry))) rfl rfl rfl (h_ld tk hH 0 rfl rfl rfl) ?_
      refine wpo_bd H19 eI rfl rfl rfl (fun v25 hv => OpP.of_call rfl rfl (.cons (.of_eq rfl) .nil) (item_Size_ok hv)) fun v25 hv25 H24 => ?_
      refine wpo_mv (a := (eI v25)) rfl rfl rfl (o_as tk rfl (Wk.refl _)) ?_
      refine wpo_nil ?_
      refine awp_seq ?_
      refine awp_region rfl ?_
      refine wpo_mv (a := (eT tk_3 3 e_api_Mark c3)) rfl rfl rfl (o_mv tk rfl (Wk.refl _)) ?_
      refine wpo_mv (a := (.ref id21 0)) rfl rfl rfl (o_c tk false rfl (fun _ => rfl)) ?_
      refine wpo_rd (a := (eS (v20 : api_Entry).Key)) rfl rfl rfl (h_ld tk hH 0 rfl rfl rfl) ?_
      refine wpo_bd H24 (@eU .u64 64) rfl rfl rfl (fun v27 hv => OpP.of_call rfl rfl (.cons (.of_eq rfl) .nil) (bloom_Hash_ok hv)) fun v27 hv27 H26 => ?_
      refine wpo_mv (a := (eI c4)) rfl rfl rfl (o_mv tk rfl (Wk.refl _)) ?_
      refine wpo_mv (a := (eI v25)) rfl rfl rfl (o_mv tk rfl (Wk.refl _)) ?_
      refine wpo_lt H26 e_api_Mark rfl rfl rfl (o_c tk false rfl (fun _ => rfl)) fun v29 H28 => ?_
      refine wpo_lt H28 (eF 3 e_api_Mark) rfl rfl rfl (o_c tk false rfl (fun _ => rfl)) fun v31 H30 => ?_
      obtain ⟨v33, hv34, H32⟩ := Option.bind_eq_some_iff.1 H30
      refine wpo_a (av := fun t => eT t 3 e_api_Mark v33) rfl rfl rfl (h_app tk hH 0 hv34 rfl td70 ty74 rfl (by decide) rfl (src_l td70 rfl)) fun tk35 τ hH => ?_
      refine wpo_mv (a := (eT tk35 3 e_api_Mark v33)) rfl rfl rfl (o_as tk rfl (Wk.refl _)) ?_
      refine wpo_nil ?_
      refine awp_region rfl ?_
      refine wpo_mv (a := (eI c4)) rfl rfl rfl (o_mv tk rfl (Wk.refl _)) ?_
      refine wpo_mv (a := (eI v25)) rfl rfl rfl (o_mv tk rfl (Wk.refl _)) ?_
      refine wpo_lt H32 eI rfl rfl rfl (o_ar tk rfl rfl rfl) fun v37 H36 => ?_
      refine wpo_mv (a := (eI v37)) rfl rfl rfl (o_as tk rfl (Wk.refl _)) ?_
      refine wpo_nil ?_
      refine awp_region rfl ?_
      refine wpo_lt H36 eI rfl rfl rfl (o_ar tk rfl rfl rfl) fun v39 H38 => ?_
      refine wpo_mv (a := (eI v39)) rfl rfl rfl (o_mv tk rfl (Wk.refl _)) ?_
      refine wpo_nil ?_
      exact ⟨(v33, v37, v39), inj_inl H38, tk35, (wkf_cons (.of_eq rfl) (wkf_cons (.of_eq rfl) (wkf_cons (.of_eq rfl) (wkf_cons (.of_eq rfl) (wkf_cons (.of_eq rfl) (wkf_nil _)))))), (hH.drop n22)⟩
    · refine awp_exit ?_
      have hz := hy13 _ (inj_inr H18)
      subst hz
      exact ⟨⟨_, inj_inr H18⟩, tk_3, (wkf_cons (.of_eq rfl) (wkf_nil _)), hH⟩
theorem region_Marks_ok {x0 : List api_Entry} {r : (List api_Mark)} (H : region_Marks x0 = some r) (σ : St) : ACall Tryd.prog 37 [((eL 5 e_api_Entry) x0)] σ (fun a τ => a = (eL 3 e_api_Mark) r ∧ τ = σ) := (region_Marks_app H σ).unapp (fun ρ κ => cutL_enc enc74.cut ρ κ r)
end Go.Proofs.YtkmlinaofbcbaaaDoor
namespace Go.Proofs.YtkmlinaofbcbaaaDoor
open Go Go.Va
set_option linter.unusedVariables false
set_option linter.unusedSimpArgs false
set_option maxRecDepth 20000
theorem octets_Bytes_app {x0 : List (BitVec 8)} {x1 : List (BitVec 8)} {r : (List (BitVec 8))} (H : octets_Bytes x0 x1 = some r) (σ : St)  : ACall Tryd.prog 62 [((eL 1 (@eU .u8 8)) x0), ((eL 1 (@eU .u8 8)) x1)] σ (fun a τ => a = .sl (.own σ.opn.length) 1 (r.map (@eU .u8 8)) ∧ τ = σ.more) := by
  unfold octets_Bytes at H
  refine ACall.app (fun ρ κ => cutL_enc (enc_u td5 sz5).cut ρ κ r) (acall_start tk Tryd.func62 (by decide) rfl (Nat.le_of_ble_eq_true rfl) ?_)
  have hH := Holds.init σ
  refine awp_seq ?_
  refine awp_region rfl ?_
  refine wpo_mv (a := AV.nils) rfl rfl rfl (o_as tk rfl (Wk.refl _)) ?_
  refine wpo_nil ?_
  refine awp_seq ?_
  refine awp_region rfl ?_
  refine wpo_mv (a := ((eL 1 (@eU .u8 8)) x0)) rfl rfl rfl (o_mv tk rfl (Wk.refl _)) ?_
  refine wpo_mv (a := ((eL 1 (@eU .u8 8)) x1)) rfl rfl rfl (o_mv tk rfl (Wk.refl _)) ?_
  refine wpo_lt H eI rfl rfl rfl (o_len tk td22 rfl) fun v2 H1 => ?_
  refine wpo_lt H1 (eF 1 eI) rfl rfl rfl (o_c tk false rfl (fun _ => rfl)) fun v4 H3 => ?_
  refine wpo_cb H3 (fun x t => eT t 1 (@eU .u8 8) x) rfl rfl rfl (fun v6 hv => h_calla hH rfl rfl (.cons (.of_eq rfl) (.cons wk_no .nil)) (octets_Put_app hv _)) fun v6 tk7 τ hv6 H5 hH => ?_
  refine wpo_mv (a := ((eL 1 (@eU .u8 8)) x1)) rfl rfl rfl (o_mv tk rfl (Wk.refl _)) ?_
  obtain ⟨v9, hv10, H8⟩ := Option.bind_eq_some_iff.1 H5
  refine wpo_a (av := fun t => eT t 1 (@eU .u8 8) v9) rfl rfl rfl (h_app tk hH 0 hv10 rfl td22 ty5 rfl (by decide) rfl (src_l td22 rfl)) fun tk11 τ hH => ?_
  refine wpo_mv (a := (eT tk11 1 (@eU .u8 8) v9)) rfl rfl rfl (o_as tk rfl (Wk.refl _)) ?_
  refine wpo_nil ?_
  refine awp_ret ?_
  obtain rfl := Option.some.inj H8
  exact ⟨_, (eT tk11 1 (@eU .u8 8) v9), rfl, .of_eq rfl, tk11, rfl, hH⟩
theorem octets_Bytes_ok {x0 : List (BitVec 8)} {x1 : List (BitVec 8)} {r : (List (BitVec 8))} (H : octets_Bytes x0 x1 = some r) (σ : St) : ACall Tryd.prog 62 [((eL 1 (@eU .u8 8)) x0), ((eL 1 (@eU .u8 8)) x1)] σ (fun a τ => a = (eL 1 (@eU .u8 8)) r ∧ τ = σ) := (octets_Bytes_app H σ).unapp (fun ρ κ => cutL_enc (enc_u td5 sz5).cut ρ κ r)
end Go.Proofs.YtkmlinaofbcbaaaDoor
namespace Go.Proofs.YtkmlinaofbcbaaaDoor
open Go Go.Va
set_option linter.unusedVariables false
set_option linter.unusedSimpArgs false
set_option maxRecDepth 20000
theorem item_Put_app {x0 : List (BitVec 8)} {x1 : api_Entry} {r : (List (BitVec 8))} (H : item_Put x0 x1 = some r) (σ : St)  : ACall Tryd.prog 103 [((eL 1 (@eU .u8 8)) x0), (e_api_Entry x1)] σ (fun a τ => a = .sl (.own σ.opn.length) 1 (r.map (@eU .u8 8)) ∧ τ = σ.more) := by
  unfold item_Put at H
  refine ACall.app (fun ρ κ => cutL_enc (enc_u td5 sz5).cut ρ κ r) (acall_start tk Tryd.func103 (by decide) rfl (Nat.le_of_ble_eq_true rfl) ?_)
  have hH := Holds.init σ
  refine awp_seq ?_
  refine awp_region rfl ?_
  refine wpo_mv (a := (.fptr (c_api_Entry x1) 0)) rfl rfl rfl (o_boxf tk rfl (.of_eq rfl) (b := (e_api_Entry x1)) (enc24.flat _)) ?_
  refine wpo_mv (a := AV.nils) rfl rfl rfl (o_as tk rfl (Wk.refl _)) ?_
  refine wpo_nil ?_
  refine awp_seq ?_
  refine awp_region rfl ?_
  refine wpo_mv (a := ((eL 1 (@eU .u8 8)) x0)) rfl rfl rfl (o_mv tk rfl (Wk.refl _)) ?_
  refine wpo_mv (a := (.fptr (c_api_Entry x1) 0)) rfl rfl rfl (o_c tk false rfl (fun _ => rfl)) ?_
  refine wpo_mv (a := (eS x1.Key)) rfl rfl rfl (o_ld tk rfl rfl) ?_
  refine wpo_bd H (eL 1 (@eU .u8 8)) rfl rfl rfl (fun v2 hv => o_s2b tk hv td9 td22 td5 rfl) fun v2 hv2 H1 => ?_
  refine wpo_bd H1 (eL 1 (@eU .u8 8)) rfl rfl rfl (fun v4 hv => OpP.of_call rfl rfl (.cons (.of_eq rfl) (.cons (.of_eq rfl) .nil)) (octets_Bytes_ok hv)) fun v4 hv4 H3 => ?_
  refine wpo_mv (a := ((eL 1 (@eU .u8 8)) v4)) rfl rfl rfl (o_as tk rfl (Wk.refl _)) ?_
  refine wpo_nil ?_
  refine awp_seq ?_
  refine awp_drawS mixed [11] rfl (by decide +kernel) rfl rfl ?_
  refine wpdS_mv (a := ((eL 1 (@eU .u8 8)) v4)) rfl rfl rfl (o_mv tk rfl (Wk.refl _)) ?_
  refine wpdS_mv (a := (.fptr (c_api_Entry x1) 1)) rfl rfl rfl (o_c tk false rfl (fun _ => rfl)) ?_
  refine wpdS_mv (a := (eI x1.Version)) rfl rfl rfl (o_ld tk rfl rfl) ?_
  refine wpdS_mv (a := (.fptr (c_api_Entry x1) 2)) rfl rfl rfl (o_c tk false rfl (fun _ => rfl)) ?_
  refine wpdS_mv (a := (eI x1.AsOf)) rfl rfl rfl (o_ld tk rfl rfl) ?_
  refine wpdS_mv (a := (.fptr (c_api_Entry x1) 3)) rfl rfl rfl (o_c tk false rfl (fun _ => rfl)) ?_
  refine wpdS_mv (a := (eI x1.Ends)) rfl rfl rfl (o_ld tk rfl rfl) ?_
  refine wpdS_lt H3 (eF 1 eI) rfl rfl rfl (o_c tk false rfl (fun _ => rfl)) fun v6 H5 => ?_
  refine wpdS_bd H5 (eL 1 (@eU .u8 8)) rfl rfl rfl (fun v8 hv => OpP.of_call rfl rfl (.cons (.of_eq rfl) (.cons wk_no .nil)) (octets_Put_ok hv)) fun v8 hv8 H7 => ?_
  refine wpdS_mv (a := (.fptr (c_api_Entry x1) 4)) rfl rfl rfl (o_c tk false rfl (fun _ => rfl)) ?_
  refine wpdS_mv (a := ((eL 1 (@eU .u8 8)) x1.Value)) rfl rfl rfl (o_ld tk rfl rfl) ?_
  refine wpdS_cb H7 (fun x t => eT t 1 (@eU .u8 8) x) rfl rfl rfl (fun v10 hv => h_calla hH rfl rfl (.cons (.of_eq rfl) (.cons (.of_eq rfl) .nil)) (octets_Bytes_app hv _)) fun v10 tk11 τ hv10 H9 hH => ?_
  refine wpdS_mv (a := (eT tk11 1 (@eU .u8 8) v10)) rfl rfl rfl (o_as tk rfl (Wk.refl _)) ?_
  refine wpdS_nil ?_
  refine awp_ret ?_
  obtain rfl := Option.some.inj H9
  exact ⟨_, (eT tk11 1 (@eU .u8 8) v10), rfl, .of_eq rfl, tk11, rfl, hH⟩
theorem item_Put_ok {x0 : List (BitVec 8)} {x1 : api_Entry} {r : (List (BitVec 8))} (H : item_Put x0 x1 = some r) (σ : St) : ACall Tryd.prog 103 [((eL 1 (@eU .u8 8)) x0), (e_api_Entry x1)] σ (fun a τ => a = (eL 1 (@eU .u8 8)) r ∧ τ = σ) := (item_Put_app H σ).unapp (fun ρ κ => cutL_enc (enc_u td5 sz5).cut ρ κ r)
end Go.Proofs.YtkmlinaofbcbaaaDoor
namespace Go.Proofs.YtkmlinaofbcbaaaDoor
open Go Go.Va
set_option linter.unusedVariables false
set_option linter.unusedSimpArgs false
set_option maxRecDepth 20000
theorem item_All_app {x0 : List api_Entry} {r : (List (BitVec 8))} (H : item_All x0 = some r) (σ : St)  : ACall Tryd.prog 43 [((eL 5 e_api_Entry) x0)] σ (fun a τ => a = .sl (.own σ.opn.length) 1 (r.map (@eU .u8 8)) ∧ τ = σ.more) := by
  unfold item_All at H
  refine ACall.app (fun ρ κ => cutL_enc (enc_u td5 sz5).cut ρ κ r) (acall_start tk Tryd.func43 (by decide) rfl (Nat.le_of_ble_eq_true rfl) ?_)
  have hH := Holds.init σ
  refine awp_seq ?_
  refine awp_region rfl ?_
  refine wpo_mv (a := AV.nils) rfl rfl rfl (o_as tk rfl (Wk.refl _)) ?_
  refine wpo_nil ?_
  refine awp_seq ?_
  refine awp_region rfl ?_
  refine wpo_mv (a := AV.nils) rfl rfl rfl (o_as tk rfl (Wk.refl _)) ?_
  refine wpo_nil ?_
  refine awp_seq ?_
  refine awp_seq ?_
  refine awp_region rfl ?_
  refine wpo_mv (a := ((eL 5 e_api_Entry) x0)) rfl rfl rfl (o_mv tk rfl (Wk.refl _)) ?_
  refine wpo_lt H eI rfl rfl rfl (o_len tk td60 rfl) fun v2 H1 => ?_
  refine wpo_mv (a := (eI (0 : Int))) rfl rfl rfl (o_mv tk rfl (Wk.refl _)) ?_
  refine wpo_nil ?_
  refine awp_block ?_
  refine AWP.tokN hH 3 1 rfl fun tk5 τ hH => ?_
  obtain ⟨s13, hs7, hj8⟩ := Option.bind_eq_some_iff.1 H1
  refine awp_cutx 0 (fun fr τ => ∃ tk_3, WkF fr (fm [(3, (eT tk_3 1 (@eU .u8 8) s13))]) ∧ Holds σ [] [tk_3] τ) ?_ ?_
  · rintro fr τ ⟨tk_3, hfr, hH⟩
    have H28 := hj8
    refine AWP.fm [(3, (eT tk_3 1 (@eU .u8 8) s13))] hfr ?_
    refine awp_seq ?_
    refine awp_region rfl ?_
    refine wpo_mv (a := (eT tk_3 1 (@eU .u8 8) s13)) rfl rfl rfl (o_mv tk rfl (Wk.refl _)) ?_
    refine wpo_mv (a := (eT tk_3 1 (@eU .u8 8) s13)) rfl rfl rfl (o_as tk rfl (Wk.refl _)) ?_
    refine wpo_nil ?_
    refine awp_ret ?_
    obtain rfl := Option.some.inj H28
    exact ⟨_, (eT tk_3 1 (@eU .u8 8) s13), rfl, .of_eq rfl, tk_3, rfl, hH⟩
  · refine awp_loopO (body := fun s => item_All_b0 x0 v2 s.1 s.2) hs7 (fun (s : (List (BitVec 8)) × Int) fr τ => ∃ tk_3, WkF fr (fm [(3, (eT tk_3 1 (@eU .u8 8) s.1)), (6, ((eL 5 e_api_Entry) x0)), (7, (eI v2)), (8, (eI s.2))]) ∧ Holds σ [] [tk_3] τ) ⟨tk5, (wkf_cons (.of_eq rfl) (wkf_cons (.of_eq rfl) (wkf_cons (.of_eq rfl) (wkf_cons (.of_eq rfl) (wkf_nil _))))), hH⟩ ?_
    rintro ⟨c3, c4⟩ fr τ y9 ⟨tk_3, hfr, hH⟩ hb11 hy12
    have H14 : item_All_b0 x0 v2 c3 c4 = some y9 := hb11
    unfold item_All_b0 at H14
    refine AWP.fm [(3, (eT tk_3 1 (@eU .u8 8) c3)), (6, ((eL 5 e_api_Entry) x0)), (7, (eI v2)), (8, (eI c4))] hfr ?_
    have hH : Holds σ [] [tk_3] τ := hH
    refine awp_seq ?_
    refine awp_region rfl ?_
    refine wpo_lt H14 eB rfl rfl rfl (o_ar tk rfl rfl rfl) fun v16 H15 => ?_
    refine wpo_nil ?_
    refine awp_seq ?_
    refine awp_if H15 rfl (fun H17 => ?_) (fun H17 => ?_)
    · refine awp_skip ?_
      refine awp_seq ?_
      refine awp_block ?_
      refine awp_seq ?_
      refine awp_region rfl ?_
      refine wpo_bd H17 (fun y => .fptr (e_api_Entry y).cells 0) rfl rfl rfl (fun v19 hv => o_ixa tk hv td60 enc24 rfl rfl) fun v19 hv19 H18 => ?_
      refine wpo_mv (a := (e_api_Entry v19)) rfl rfl rfl (o_ld_e tk enc24 rfl rfl) ?_
      refine wpo_a (av := fun id => .ref id 0) rfl rfl rfl (h_alloc tk hH ty24 [(eS z_api_Entry.Key), (eI z_api_Entry.Version), (eI z_api_Entry.AsOf), (eI z_api_Entry.Ends), AV.nils] rfl) fun id20 τ ⟨hH, n21⟩ => ?_
      refine wpo_z rfl rfl (h_st tk hH 0 rfl ty24 (by simp) rfl rfl (.of_eq rfl) (b := (e_api_Entry v19)) (enc24.flat _) rfl (Nat.le_of_ble_eq_true rfl) (c_api_Entry (v19 : api_Entry)) rfl) fun τ hH => ?_
      refine wpo_nil ?_
      refine awp_region rfl ?_
      refine wpo_mv (a := (eT tk_3 1 (@eU .u8 8) c3)) rfl rfl rfl (o_mv tk rfl (Wk.refl _)) ?_
      refine wpo_rd (a := (e_api_Entry (v19 : api_Entry))) rfl rfl rfl (h_ld tk hH 0 rfl rfl rfl) ?_
      refine wpo_cb H18 (fun x t => eT t 1 (@eU .u8 8) x) rfl rfl rfl (fun v24 hv => h_calla hH rfl rfl (.cons wk_no (.cons (.of_eq rfl) .nil)) (item_Put_app hv _)) fun v24 tk25 τ hv24 H23 hH => ?_
      refine wpo_mv (a := (eT tk25 1 (@eU .u8 8) v24)) rfl rfl rfl (o_as tk rfl (Wk.refl _)) ?_
      refine wpo_nil ?_
      refine awp_region rfl ?_
      refine wpo_lt H23 eI rfl rfl rfl (o_ar tk rfl rfl rfl) fun v27 H26 => ?_
      refine wpo_mv (a := (eI v27)) rfl rfl rfl (o_mv tk rfl (Wk.refl _)) ?_
      refine wpo_nil ?_
      exact ⟨(v24, v27), inj_inl H26, tk25, (wkf_cons (.of_eq rfl) (wkf_cons (.of_eq rfl) (wkf_cons (.of_eq rfl) (wkf_cons (.of_eq rfl) (wkf_nil _))))), ((hH.drop n21).sub (.cons_cons _ (.cons _ .slnil)))⟩
    · refine awp_exit ?_
      have hz := hy12 _ (inj_inr H17)
      subst hz
      exact ⟨⟨_, inj_inr H17⟩, tk_3, (wkf_cons (.of_eq rfl) (wkf_nil _)), hH⟩
theorem item_All_ok {x0 : List api_Entry} {r : (List (BitVec 8))} (H : item_All x0 = some r) (σ : St) : ACall Tryd.prog 43 [((eL 5 e_api_Entry) x0)] σ (fun a τ => a = (eL 1 (@eU .u8 8)) r ∧ τ = σ) := (item_All_app H σ).unapp (fun ρ κ => cutL_enc (enc_u td5 sz5).cut ρ κ r)
end Go.Proofs.YtkmlinaofbcbaaaDoor
namespace Go.Proofs.YtkmlinaofbcbaaaDoor
open Go Go.Va
set_option linter.unusedVariables false
set_option linter.unusedSimpArgs false
set_option maxRecDepth 20000
theorem item_Same_ok {x0 : api_Entry} {x1 : api_Entry} {r : Bool} (H : item_Same x0 x1 = some r) (σ : St)  : ACall Tryd.prog 75 [(e_api_Entry x0), (e_api_Entry x1)] σ (fun a τ => a = eB r ∧ τ = σ) := by
  unfold item_Same at H
  refine ACall.pure (acall_start tk Tryd.func75 (by decide) rfl (Nat.le_of_ble_eq_true rfl) ?_)
  have hH := Holds.init σ
  refine awp_seq ?_
  refine awp_region rfl ?_
  refine wpo_mv (a := (.fptr (c_api_Entry x0) 0)) rfl rfl rfl (o_boxf tk rfl (.of_eq rfl) (b := (e_api_Entry x0)) (enc24.flat _)) ?_
  refine wpo_mv (a := (.fptr (c_api_Entry x1) 0)) rfl rfl rfl (o_boxf tk rfl (.of_eq rfl) (b := (e_api_Entry x1)) (enc24.flat _)) ?_
  refine wpo_mv (a := (eB false)) rfl rfl rfl (o_as tk rfl (Wk.refl _)) ?_
  refine wpo_nil ?_
  refine awp_seq ?_
  refine awp_region rfl ?_
  refine wpo_mv (a := (.fptr (c_api_Entry x0) 0)) rfl rfl rfl (o_c tk false rfl (fun _ => rfl)) ?_
  refine wpo_mv (a := (eS x0.Key)) rfl rfl rfl (o_ld tk rfl rfl) ?_
  refine wpo_mv (a := (.fptr (c_api_Entry x1) 0)) rfl rfl rfl (o_c tk false rfl (fun _ => rfl)) ?_
  refine wpo_mv (a := (eS x1.Key)) rfl rfl rfl (o_ld tk rfl rfl) ?_
  refine wpo_lt H eB rfl rfl rfl (o_eql_s tk rfl rfl) fun v2 H1 => ?_
  refine wpo_mv (a := (eB v2)) rfl rfl rfl (o_mv tk rfl (Wk.refl _)) ?_
  refine if_split H1 (fun hb H3 => ?_) (fun hb H3 => ?_)
  · subst hb
    refine wpo_mv (a := (.fptr (c_api_Entry x0) 1)) rfl rfl rfl (o_c tk false rfl (fun _ => rfl)) ?_
    refine wpo_mv (a := (eI x0.Version)) rfl rfl rfl (o_ld tk rfl rfl) ?_
    refine wpo_mv (a := (.fptr (c_api_Entry x1) 1)) rfl rfl rfl (o_c tk false rfl (fun _ => rfl)) ?_
    refine wpo_mv (a := (eI x1.Version)) rfl rfl rfl (o_ld tk rfl rfl) ?_
    refine wpo_lt H3 eB rfl rfl rfl (o_ar tk rfl rfl rfl) fun v5 H4 => ?_
    refine wpo_mv (a := (eB v5)) rfl rfl rfl (o_pick_t tk rfl rfl (Wk.refl _)) ?_
    refine wpo_mv (a := (eB v5)) rfl rfl rfl (o_mv tk rfl (Wk.refl _)) ?_
    refine if_split H4 (fun hb H6 => ?_) (fun hb H6 => ?_)
    · subst hb
      refine wpo_mv (a := (.fptr (c_api_Entry x0) 2)) rfl rfl rfl (o_c tk false rfl (fun _ => rfl)) ?_
      refine wpo_mv (a := (eI x0.AsOf)) rfl rfl rfl (o_ld tk rfl rfl) ?_
      refine wpo_mv (a := (.fptr (c_api_Entry x1) 2)) rfl rfl rfl (o_c tk false rfl (fun _ => rfl)) ?_
      refine wpo_mv (a := (eI x1.AsOf)) rfl rfl rfl (o_ld tk rfl rfl) ?_
      refine wpo_lt H6 eB rfl rfl rfl (o_ar tk rfl rfl rfl) fun v8 H7 => ?_
      refine wpo_mv (a := (eB v8)) rfl rfl rfl (o_pick_t tk rfl rfl (Wk.refl _)) ?_
      refine wpo_mv (a := (eB v8)) rfl rfl rfl (o_mv tk rfl (Wk.refl _)) ?_
      refine if_split H7 (fun hb H9 => ?_) (fun hb H9 => ?_)
      · subst hb
        refine wpo_mv (a := (.fptr (c_api_Entry x0) 3)) rfl rfl rfl (o_c tk false rfl (fun _ => rfl)) ?_
        refine wpo_mv (a := (eI x0.Ends)) rfl rfl rfl (o_ld tk rfl rfl) ?_
        refine wpo_mv (a := (.fptr (c_api_Entry x1) 3)) rfl rfl rfl (o_c tk false rfl (fun _ => rfl)) ?_
        refine wpo_mv (a := (eI x1.Ends)) rfl rfl rfl (o_ld tk rfl rfl) ?_
        refine wpo_lt H9 eB rfl rfl rfl (o_ar tk rfl rfl rfl) fun v11 H10 => ?_
        refine wpo_mv (a := (eB v11)) rfl rfl rfl (o_pick_t tk rfl rfl (Wk.refl _)) ?_
        refine wpo_mv (a := (eB v11)) rfl rfl rfl (o_mv tk rfl (Wk.refl _)) ?_
        refine if_split H10 (fun hb H12 => ?_) (fun hb H12 => ?_)
        · subst hb
          refine wpo_mv (a := (.fptr (c_api_Entry x0) 4)) rfl rfl rfl (o_c tk false rfl (fun _ => rfl)) ?_
          refine wpo_mv (a := ((eL 1 (@eU .u8 8)) x0.Value)) rfl rfl rfl (o_ld tk rfl rfl) ?_
          refine wpo_mv (a := (eS x0.Value)) rfl rfl rfl (o_b2s tk td22 td9 td5 rfl) ?_
          refine wpo_mv (a := (.fptr (c_api_Entry x1) 4)) rfl rfl rfl (o_c tk false rfl (fun _ => rfl)) ?_
          refine wpo_mv (a := ((eL 1 (@eU .u8 8)) x1.Value)) rfl rfl rfl (o_ld tk rfl rfl) ?_
          refine wpo_mv (a := (eS x1.Value)) rfl rfl rfl (o_b2s tk td22 td9 td5 rfl) ?_
          refine wpo_lt H12 eB rfl rfl rfl (o_eql_s tk rfl rfl) fun v14 H13 => ?_
          refine wpo_mv (a := (eB v14)) rfl rfl rfl (o_pick_t tk rfl rfl (Wk.refl _)) ?_
          refine wpo_mv (a := (eB v14)) rfl rfl rfl (o_as tk rfl (Wk.refl _)) ?_
          refine wpo_nil ?_
          refine awp_ret ?_
          obtain rfl := Option.some.inj H13
          exact ⟨_, (eB v14), rfl, (.of_eq rfl), .of_eq ((enc_b td4 sz4).cut _ _ _), hH.noT⟩
        · subst hb
          refine wpo_skip rfl rfl rfl ?_
          refine wpo_skip rfl rfl rfl ?_
          refine wpo_skip rfl rfl rfl ?_
          refine wpo_skip rfl rfl rfl ?_
          refine wpo_skip rfl rfl rfl ?_
          refine wpo_skip rfl rfl rfl ?_
          refine wpo_skip rfl rfl rfl ?_
          refine wpo_mv (a := (eB false)) rfl rfl rfl (o_pick_f tk rfl rfl (Wk.refl _)) ?_
          refine wpo_mv (a := (eB false)) rfl rfl rfl (o_as tk rfl (Wk.refl _)) ?_
          refine wpo_nil ?_
          refine awp_ret ?_
          obtain rfl := Option.some.inj H12
          exact ⟨_, (eB false), rfl, (.of_eq rfl), .of_eq ((enc_b td4 sz4).cut _ _ _), hH.noT⟩
      · subst hb
        refine wpo_skip rfl rfl rfl ?_
        refine wpo_skip rfl rfl rfl ?_
        refine wpo_skip rfl rfl rfl ?_
        refine wpo_skip rfl rfl rfl ?_
        refine wpo_skip rfl rfl rfl ?_
        refine wpo_mv (a := (eB false)) rfl rfl rfl (o_pick_f tk rfl rfl (Wk.refl _)) ?_
        refine wpo_mv (a := (eB false)) rfl rfl rfl (o_mv tk rfl (Wk.refl _)) ?_
        refine wpo_skip rfl rfl rfl ?_
        refine wpo_skip rfl rfl rfl ?_
        refine wpo_skip rfl rfl rfl ?_
        refine wpo_skip rfl rfl rfl ?_
        refine wpo_skip rfl rfl rfl ?_
        refine wpo_skip rfl rfl rfl ?_
        refine wpo_skip rfl rfl rfl ?_
        refine wpo_mv (a := (eB false)) rfl rfl rfl (o_pick_f tk rfl rfl (Wk.refl _)) ?_
        refine wpo_mv (a := (eB false)) rfl rfl rfl (o_as tk rfl (Wk.refl _)) ?_
        refine wpo_nil ?_
        refine awp_ret ?_
        obtain rfl := Option.some.inj H9
        exact ⟨_, (eB false), rfl, (.of_eq rfl), .of_eq ((enc_b td4 sz4).cut _ _ _), hH.noT⟩
    · subst hb
      refine wpo_skip rfl rfl rfl ?_
      refine wpo_skip rfl rfl rfl ?_
      refine wpo_skip rfl rfl rfl ?_
      refine wpo_skip rfl rfl rfl ?_
      refine wpo_skip rfl rfl rfl ?_
      refine wpo_mv (a := (eB false)) rfl rfl rfl (o_pick_f tk rfl rfl (Wk.refl _)) ?_
      refine wpo_mv (a := (eB false)) rfl rfl rfl (o_mv tk rfl (Wk.refl _)) ?_
      refine wpo_skip rfl rfl rfl ?_
      refine wpo_skip rfl rfl rfl ?_
      refine wpo_skip rfl rfl rfl ?_
      refine wpo_skip rfl rfl rfl ?_
      refine wpo_skip rfl rfl rfl ?_
      refine wpo_mv (a := (eB false)) rfl rfl rfl (o_pick_f tk rfl rfl (Wk.refl _)) ?_
      refine wpo_mv (a := (eB false)) rfl rfl rfl (o_mv tk rfl (Wk.refl _)) ?_
      refine wpo_skip rfl rfl rfl ?_
      refine wpo_skip rfl rfl rfl ?_
      refine wpo_skip rfl rfl rfl ?_
      refine wpo_skip rfl rfl rfl ?_
      refine wpo_skip rfl rfl rfl ?_
      refine wpo_skip rfl rfl rfl ?_
      refine wpo_skip rfl rfl rfl ?_
      refine wpo_mv (a := (eB false)) rfl rfl rfl (o_pick_f tk rfl rfl (Wk.refl _)) ?_
      refine wpo_mv (a := (eB false)) rfl rfl rfl (o_as tk rfl (Wk.refl _)) ?_
      refine wpo_nil ?_
      refine awp_ret ?_
      obtain rfl := Option.some.inj H6
      exact ⟨_, (eB false), rfl, (.of_eq rfl), .of_eq ((enc_b td4 sz4).cut _ _ _), hH.noT⟩
  · subst hb
    refine wpo_skip rfl rfl rfl ?_
    refine wpo_skip rfl rfl rfl ?_
    refine wpo_skip rfl rfl rfl ?_
    refine wpo_skip rfl rfl rfl ?_
    refine wpo_skip rfl rfl rfl ?_
    refine wpo_mv (a := (eB false)) rfl rfl rfl (o_pick_f tk rfl rfl (Wk.refl _)) ?_
    refine wpo_mv (a := (eB false)) rfl rfl rfl (o_mv tk rfl (Wk.refl _)) ?_
    refine wpo_skip rfl rfl rfl ?_
    refine wpo_skip rfl rfl rfl ?_
    refine wpo_skip rfl rfl rfl ?_
    refine wpo_skip rfl rfl rfl ?_
    refine wpo_skip rfl rfl rfl ?_
    refine wpo_mv (a := (eB false)) rfl rfl rfl (o_pick_f tk rfl rfl (Wk.refl _)) ?_
    refine wpo_mv (a := (eB false)) rfl rfl rfl (o_mv tk rfl (Wk.refl _)) ?_
    refine wpo_skip rfl rfl rfl ?_
    refine wpo_skip rfl rfl rfl ?_
    refine wpo_skip rfl rfl rfl ?_
    refine wpo_skip rfl rfl rfl ?_
    refine wpo_skip rfl rfl rfl ?_
    refine wpo_mv (a := (eB false)) rfl rfl rfl (o_pick_f tk rfl rfl (Wk.refl _)) ?_
    refine wpo_mv (a := (eB false)) rfl rfl rfl (o_mv tk rfl (Wk.refl _)) ?_
    refine wpo_skip rfl rfl rfl ?_
    refine wpo_skip rfl rfl rfl ?_
    refine wpo_skip rfl rfl rfl ?_
    refine wpo_skip rfl rfl rfl ?_
    refine wpo_skip rfl rfl rfl ?_
    refine wpo_skip rfl rfl rfl ?_
    refine wpo_skip rfl rfl rfl ?_
    refine wpo_mv (a := (eB false)) rfl rfl rfl (o_pick_f tk rfl rfl (Wk.refl _)) ?_
    refine wpo_mv (a := (eB false)) rfl rfl rfl (o_as tk rfl (Wk.refl _)) ?_
    refine wpo_nil ?_
    refine awp_ret ?_
    obtain rfl := Option.some.inj H3
    exact ⟨_, (eB false), rfl, (.of_eq rfl), .of_eq ((enc_b td4 sz4).cut _ _ _), hH.noT⟩
end Go.Proofs.YtkmlinaofbcbaaaDoor
namespace Go.Proofs.YtkmlinaofbcbaaaDoor
open Go Go.Va
set_option linter.unusedVariables false
set_option linter.unusedSimpArgs false
set_option maxRecDepth 20000
theorem region_Take_ok {x0 : List (List (BitVec 8))} {x1 : Int} {x2 : api_Mark} {r : api_Entry × Err} (H : region_Take x0 x1 x2 = some r) (σ : St)  (hg : σ.gl = gls) : ACall Tryd.prog 90 [((eL 1 (eL 1 (@eU .u8 8))) x0), (eI x1), (e_api_Mark x2)] σ (fun a τ => a = .tup [e_api_Entry r.1, eErr r.2] ∧ τ = σ) := by
  unfold region_Take at H
  refine ACall.pure (acall_start tk Tryd.func90 (by decide) rfl (Nat.le_of_ble_eq_true rfl) ?_)
  have hH := Holds.init σ
  refine awp_seq ?_
  refine awp_region rfl ?_
  refine wpo_mv (a := (.fptr (c_api_Mark x2) 0)) rfl rfl rfl (o_boxf tk rfl (.of_eq rfl) (b := (e_api_Mark x2)) (enc74.flat _)) ?_
  refine wpo_a (av := fun id => .ref id 0) rfl rfl rfl (h_alloc tk hH ty24 [(eS z_api_Entry.Key), (eI z_api_Entry.Version), (eI z_api_Entry.AsOf), (eI z_api_Entry.Ends), AV.nils] rfl) fun id1 τ ⟨hH, n2⟩ => ?_
  refine wpo_mv (a := (eErr Err.nil)) rfl rfl rfl (o_as tk rfl (Wk.refl _)) ?_
  refine wpo_nil ?_
  refine awp_seq ?_
  refine awp_region rfl ?_
  refine wpo_mv (a := AV.nils) rfl rfl rfl (o_as tk rfl (Wk.refl _)) ?_
  refine wpo_nil ?_
  refine awp_seq ?_
  refine awp_seq ?_
  refine awp_region rfl ?_
  refine wpo_mv (a := ((eL 1 (eL 1 (@eU .u8 8))) x0)) rfl rfl rfl (o_mv tk rfl (Wk.refl _)) ?_
  refine wpo_lt H eI rfl rfl rfl (o_len tk td62 rfl) fun v4 H3 => ?_
  refine wpo_mv (a := (eI (0 : Int))) rfl rfl rfl (o_mv tk rfl (Wk.refl _)) ?_
  refine wpo_nil ?_
  refine awp_block ?_
  refine AWP.tokN hH 8 1 rfl fun tk7 τ hH => ?_
  obtain ⟨s15, hs9, hj10⟩ := Option.bind_eq_some_iff.1 H3
  refine awp_cutx 0 (fun fr τ => ∃ tk_8, WkF fr (fm [(1, (eI x1)), (5, (.fptr (c_api_Mark x2) 0)), (6, (.ref id1 0)), (8, (eT tk_8 1 (@eU .u8 8) s15))]) ∧ Holds σ [(id1, [(eS z_api_Entry.Key), (eI z_api_Entry.Version), (eI z_api_Entry.AsOf), (eI z_api_Entry.Ends), AV.nils])] [tk_8] τ) ?_ ?_
  · rintro fr τ ⟨tk_8, hfr, hH⟩
    have H28 := hj10
    refine AWP.fm [(1, (eI x1)), (5, (.fptr (c_api_Mark x2) 0)), (6, (.ref id1 0)), (8, (eT tk_8 1 (@eU .u8 8) s15))] hfr ?_
    refine awp_seq ?_
    refine awp_region rfl ?_
    refine wpo_mv (a := (.fptr (c_api_Mark x2) 1)) rfl rfl rfl (o_c tk false rfl (fun _ => rfl)) ?_
    refine wpo_mv (a := (eI x2.Off)) rfl rfl rfl (o_ld tk rfl rfl) ?_
    refine wpo_mv (a := (eI x1)) rfl rfl rfl (o_mv tk rfl (Wk.refl _)) ?_
    refine wpo_lt H28 eI rfl rfl rfl (o_ar tk rfl rfl rfl) fun v30 H29 => ?_
    refine wpo_lt H29 eI rfl rfl rfl (o_ar tk rfl rfl rfl) fun v32 H31 => ?_
    refine wpo_mv (a := (eI v32)) rfl rfl rfl (o_as tk rfl (Wk.refl _)) ?_
    refine wpo_nil ?_
    refine awp_seq ?_
    refine awp_seq ?_
    obtain ⟨s33, hs35, hj36⟩ := Option.bind_eq_some_iff.1 H31
    refine awp_cutn (fun fr τ => ∃ tk_8, WkF fr (fm [(5, (.fptr (c_api_Mark x2) 0)), (6, (.ref id1 0)), (8, (eT tk_8 1 (@eU .u8 8) s15)), (11, (eI v32)), (50, (eB s33))]) ∧ Holds σ [(id1, [(eS z_api_Entry.Key), (eI z_api_Entry.Version), (eI z_api_Entry.AsOf), (eI z_api_Entry.Ends), AV.nils])] [tk_8] τ) ?_ ?_
    · rintro fr τ ⟨tk_8, hfr, hH⟩
      have H54 := hj36
      refine AWP.fm [(5, (.fptr (c_api_Mark x2) 0)), (6, (.ref id1 0)), (8, (eT tk_8 1 (@eU .u8 8) s15)), (11, (eI v32)), (50, (eB s33))] hfr ?_
      refine awp_if H54 rfl (fun H55 => ?_) (fun H55 => ?_)
      · refine awp_seq ?_
        refine awp_region rfl ?_
        refine wpo_mv (a := (.agg [(eS (⟨([] : List (BitVec 8)), (0 : Int), (0 : Int), (0 : Int), ([] : List (BitVec 8))⟩ : api_Entry).Key), (eI (⟨([] : List (BitVec 8)), (0 : Int), (0 : Int), (0 : Int), ([] : List (BitVec 8))⟩ : api_Entry).Version), (eI (⟨([] : List (BitVec 8)), (0 : Int), (0 : Int), (0 : Int), ([] : List (BitVec 8))⟩ : api_Entry).AsOf), (eI (⟨([] : List (BitVec 8)), (0 : Int), (0 : Int), (0 : Int), ([] : List (BitVec 8))⟩ : api_Entry).Ends), AV.nils])) rfl rfl rfl (o_c tk false rfl (fun _ => rfl)) ?_
        refine wpo_mv (a := (.fptr (c_api_Mark x2) 1)) rfl rfl rfl (o_c tk false rfl (fun _ => rfl)) ?_
        refine wpo_mv (a := (eI x2.Off)) rfl rfl rfl (o_ld tk rfl rfl) ?_
        refine wpo_bd H55 eErr rfl rfl rfl (fun v57 hv => OpP.of_call rfl rfl (.cons (.of_eq rfl) (.cons (.of_eq rfl) (.cons (.of_eq rfl) .nil))) (trouble_New_ok hv)) fun v57 hv57 H56 => ?_
        refine wpo_z rfl rfl (h_st tk hH 0 rfl ty24 (by simp) rfl rfl (.of_eq rfl) (b := (.agg [(eS (⟨([] : List (BitVec 8)), (0 : Int), (0 : Int), (0 : Int), ([] : List (BitVec 8))⟩ : api_Entry).Key), (eI (⟨([] : List (BitVec 8)), (0 : Int), (0 : Int), (0 : Int), ([] : List (BitVec 8))⟩ : api_Entry).Version), (eI (⟨([] : List (BitVec 8)), (0 : Int), (0 : Int), (0 : Int), ([] : List (BitVec 8))⟩ : api_Entry).AsOf), (eI (⟨([] : List (BitVec 8)), (0 : Int), (0 : Int), (0 : Int), ([] : List (BitVec 8))⟩ : api_Entry).Ends), AV.nils])) rfl rfl (Nat.le_of_ble_eq_true rfl) [(eS ((⟨([] : List (BitVec 8)), (0 : Int), (0 : Int), (0 : Int), ([] : List (BitVec 8))⟩ : api_Entry) : api_Entry).Key), (eI ((⟨([] : List (BitVec 8)), (0 : Int), (0 : Int), (0 : Int), ([] : List (BitVec 8))⟩ : api_Entry) : api_Entry).Version), (eI ((⟨([] : List (BitVec 8)), (0 : Int), (0 : Int), (0 : Int), ([] : List (BitVec 8))⟩ : api_Entry) : api_Entry).AsOf), (eI ((⟨([] : List (BitVec 8)), (0 : Int), (0 : Int), (0 : Int), ([] : List (BitVec 8))⟩ : api_Entry) : api_Entry).Ends), AV.nils] rfl) fun τ hH => ?_
        refine wpo_mv (a := (eErr v57)) rfl rfl rfl (o_as tk rfl (Wk.refl _)) ?_
        refine wpo_nil ?_
        refine awp_ret ?_
        obtain rfl := Option.some.inj H56
        exact ⟨_, (.tup [(e_api_Entry ((⟨([] : List (BitVec 8)), (0 : Int), (0 : Int), (0 : Int), ([] : List (BitVec 8))⟩ : api_Entry) : api_Entry)), (eErr v57)]), (ares_2 (ares_cell hH 0 rfl rfl rfl) rfl), (wk_tup (.cons (wk_agg (.cons (.of_eq rfl) (.cons (.of_eq rfl) (.cons (.of_eq rfl) (.cons (.of_eq rfl) (.cons (wk_nils _) .nil)))))) (.cons (.of_eq rfl) .nil))), .of_eq (by simp only [cutAV, cutL, enc24.cut _ _ _, encErr.cut _ _ _]), (hH.noT.drop n2)⟩
      · refine awp_skip ?_
        refine awp_seq ?_
        refine awp_region rfl ?_
        refine wpo_mv (a := (eT tk_8 1 (@eU .u8 8) s15)) rfl rfl rfl (o_mv tk rfl (Wk.refl _)) ?_
        refine wpo_mv (a := (eI v32)) rfl rfl rfl (o_mv tk rfl (Wk.refl _)) ?_
        refine wpo_mv (a := (eI v32)) rfl rfl rfl (o_mv tk rfl (Wk.refl _)) ?_
        refine wpo_mv (a := (.fptr (c_api_Mark x2) 2)) rfl rfl rfl (o_c tk false rfl (fun _ => rfl)) ?_
        refine wpo_mv (a := (eI x2.Size)) rfl rfl rfl (o_ld tk rfl rfl) ?_
        refine wpo_lt H55 eI rfl rfl rfl (o_ar tk rfl rfl rfl) fun v60 H59 => ?_
        refine wpo_bd H59 (eL 1 (@eU .u8 8)) rfl rfl rfl (fun v62 hv => o_cut tk hv td22 (enc_u td5 sz5) rfl rfl rfl) fun v62 hv62 H61 => ?_
        refine wpo_bdr H61 (fun r => .tup [(eL 5 e_api_Entry) r.1, eErr r.2]) rfl rfl rfl (fun v64 hv => h_callr rfl rfl (.cons (.of_eq rfl) .nil) (item_Read_ok hv _ (hH.gl.trans hg))) fun v64 hv64 H63 => ?_
        refine wpo_mv (a := (.tup [((eL 5 e_api_Entry) v64.1), (eErr v64.2)])) rfl rfl rfl (o_mv tk rfl (Wk.refl _)) ?_
        refine wpo_mv (a := ((eL 5 e_api_Entry) v64.1)) rfl rfl rfl (o_ext tk rfl rfl) ?_
        refine wpo_mv (a := (eErr v64.2)) rfl rfl rfl (o_ext tk rfl rfl) ?_
        refine wpo_mv (a := ((eL 5 e_api_Entry) v64.1)) rfl rfl rfl (o_as tk rfl (Wk.refl _)) ?_
        refine wpo_mv (a := (eErr v64.2)) rfl rfl rfl (o_as tk rfl (Wk.refl _)) ?_
        refine wpo_nil ?_
        refine awp_seq ?_
        refine awp_seq ?_
        refine awp_region rfl ?_
        refine wpo_mv (a := (eErr v64.2)) rfl rfl rfl (o_mv tk rfl (Wk.refl _)) ?_
        refine wpo_lt H63 eB rfl rfl rfl (o_err_neq tk rfl rfl rfl) fun v66 H65 => ?_
        refine wpo_nil ?_
        refine awp_if H65 rfl (fun H67 => ?_) (fun H67 => ?_)
        · refine awp_seq ?_
          refine awp_region rfl ?_
          refine wpo_mv (a := (.agg [(eS (⟨([] : List (BitVec 8)), (0 : Int), (0 : Int), (0 : Int), ([] : List (BitVec 8))⟩ : api_Entry).Key), (eI (⟨([] : List (BitVec 8)), (0 : Int), (0 : Int), (0 : Int), ([] : List (BitVec 8))⟩ : api_Entry).Version), (eI (⟨([] : List (BitVec 8)), (0 : Int), (0 : Int), (0 : Int), ([] : List (BitVec 8))⟩ : api_Entry).AsOf), (eI (⟨([] : List (BitVec 8)), (0 : Int), (0 : Int), (0 : Int), ([] : List (BitVec 8))⟩ : api_Entry).Ends), AV.nils])) rfl rfl rfl (o_c tk false rfl (fun _ => rfl)) ?_
          refine wpo_mv (a := (.fptr (c_api_Mark x2) 1)) rfl rfl rfl (o_c tk false rfl (fun _ => rfl)) ?_
          refine wpo_mv (a := (eI x2.Off)) rfl rfl rfl (o_ld tk rfl rfl) ?_
          refine wpo_mv (a := (eErr v64.2)) rfl rfl rfl (o_mv tk rfl (Wk.refl _)) ?_
          refine wpo_bd H67 eErr rfl rfl rfl (fun v69 hv => OpP.of_call rfl rfl (.cons (.of_eq rfl) (.cons (.of_eq rfl) (.cons (.of_eq rfl) .nil))) (trouble_Wrap_ok hv)) fun v69 hv69 H68 => ?_
          refine wpo_z rfl rfl (h_st tk hH 0 rfl ty24 (by simp) rfl rfl (.of_eq rfl) (b := (.agg [(eS (⟨([] : List (BitVec 8)), (0 : Int), (0 : Int), (0 : Int), ([] : List (BitVec 8))⟩ : api_Entry).Key), (eI (⟨([] : List (BitVec 8)), (0 : Int), (0 : Int), (0 : Int), ([] : List (BitVec 8))⟩ : api_Entry).Version), (eI (⟨([] : List (BitVec 8)), (0 : Int), (0 : Int), (0 : Int), ([] : List (BitVec 8))⟩ : api_Entry).AsOf), (eI (⟨([] : List (BitVec 8)), (0 : Int), (0 : Int), (0 : Int), ([] : List (BitVec 8))⟩ : api_Entry).Ends), AV.nils])) rfl rfl (Nat.le_of_ble_eq_true rfl) [(eS ((⟨([] : List (BitVec 8)), (0 : Int), (0 : Int), (0 : Int), ([] : List (BitVec 8))⟩ : api_Entry) : api_Entry).Key), (eI ((⟨([] : List (BitVec 8)), (0 : Int), (0 : Int), (0 : Int), ([] : List (BitVec 8))⟩ : api_Entry) : api_Entry).Version), (eI ((⟨([] : List (BitVec 8)), (0 : Int), (0 : Int), (0 : Int), ([] : List (BitVec 8))⟩ : api_Entry) : api_Entry).AsOf), (eI ((⟨([] : List (BitVec 8)), (0 : Int), (0 : Int), (0 : Int), ([] : List (BitVec 8))⟩ : api_Entry) : api_Entry).Ends), AV.nils] rfl) fun τ hH => ?_
          refine wpo_mv (a := (eErr v69)) rfl rfl rfl (o_as tk rfl (Wk.refl _)) ?_
          refine wpo_nil ?_
          refine awp_ret ?_
          obtain rfl := Option.some.inj H68
          exact ⟨_, (.tup [(e_api_Entry ((⟨([] : List (BitVec 8)), (0 : Int), (0 : Int), (0 : Int), ([] : List (BitVec 8))⟩ : api_Entry) : api_Entry)), (eErr v69)]), (ares_2 (ares_cell hH 0 rfl rfl rfl) rfl), (wk_tup (.cons (wk_agg (.cons (.of_eq rfl) (.cons (.of_eq rfl) (.cons (.of_eq rfl) (.cons (.of_eq rfl) (.cons (wk_nils _) .nil)))))) (.cons (.of_eq rfl) .nil))), .of_eq (by simp only [cutAV, cutL, enc24.cut _ _ _, encErr.cut _ _ _]), (hH.noT.drop n2)⟩
        · refine awp_skip ?_
          refine awp_seq ?_
          refine awp_seq ?_
          refine awp_region rfl ?_
          refine wpo_mv (a := ((eL 5 e_api_Entry) v64.1)) rfl rfl rfl (o_mv tk rfl (Wk.refl _)) ?_
          refine wpo_lt H67 eI rfl rfl rfl (o_len tk td60 rfl) fun v72 H71 => ?_
          refine wpo_lt H71 eB rfl rfl rfl (o_ar tk rfl rfl rfl) fun v74 H73 => ?_
          refine wpo_nil ?_
          refine awp_if H73 rfl (fun H75 => ?_) (fun H75 => ?_)
          · refine awp_seq ?_
            refine awp_region rfl ?_
            refine wpo_mv (a := (.agg [(eS (⟨([] : List (BitVec 8)), (0 : Int), (0 : Int), (0 : Int), ([] : List (BitVec 8))⟩ : api_Entry).Key), (eI (⟨([] : List (BitVec 8)), (0 : Int), (0 : Int), (0 : Int), ([] : List (BitVec 8))⟩ : api_Entry).Version), (eI (⟨([] : List (BitVec 8)), (0 : Int), (0 : Int), (0 : Int), ([] : List (BitVec 8))⟩ : api_Entry).AsOf), (eI (⟨([] : List (BitVec 8)), (0 : Int), (0 : Int), (0 : Int), ([] : List (BitVec 8))⟩ : api_Entry).Ends), AV.nils])) rfl rfl rfl (o_c tk false rfl (fun _ => rfl)) ?_
            refine wpo_mv (a := (.fptr (c_api_Mark x2) 1)) rfl rfl rfl (o_c tk false rfl (fun _ => rfl)) ?_
            refine wpo_mv (a := (eI x2.Off)) rfl rfl rfl (o_ld tk rfl rfl) ?_
            refine wpo_bd H75 eErr rfl rfl rfl (fun v77 hv => OpP.of_call rfl rfl (.cons (.of_eq rfl) (.cons (.of_eq rfl) (.cons (.of_eq rfl) .nil))) (trouble_New_ok hv)) fun v77 hv77 H76 => ?_
            refine wpo_z rfl rfl (h_st tk hH 0 rfl ty24 (by simp) rfl rfl (.of_eq rfl) (b := (.agg [(eS (⟨([] : List (BitVec 8)), (0 : Int), (0 : Int), (0 : Int), ([] : List (BitVec 8))⟩ : api_Entry).Key), (eI (⟨([] : List (BitVec 8)), (0 : Int), (0 : Int), (0 : Int), ([] : List (BitVec 8))⟩ : api_Entry).Version), (eI (⟨([] : List (BitVec 8)), (0 : Int), (0 : Int), (0 : Int), ([] : List (BitVec 8))⟩ : api_Entry).AsOf), (eI (⟨([] : List (BitVec 8)), (0 : Int), (0 : Int), (0 : Int), ([] : List (BitVec 8))⟩ : api_Entry).Ends), AV.nils])) rfl rfl (Nat.le_of_ble_eq_true rfl) [(eS ((⟨([] : List (BitVec 8)), (0 : Int), (0 : Int), (0 : Int), ([] : List (BitVec 8))⟩ : api_Entry) : api_Entry).Key), (eI ((⟨([] : List (BitVec 8)), (0 : Int), (0 : Int), (0 : Int), ([] : List (BitVec 8))⟩ : api_Entry) : api_Entry).Version), (eI ((⟨([] : List (BitVec 8)), (0 : Int), (0 : Int), (0 : Int), ([] : List (BitVec 8))⟩ : api_Entry) : api_Entry).AsOf), (eI ((⟨([] : List (BitVec 8)), (0 : Int), (0 : Int), (0 : Int), ([] : List (BitVec 8))⟩ : api_Entry) : api_Entry).Ends), AV.nils] rfl) fun τ hH => ?_
            refine wpo_mv (a := (eErr v77)) rfl rfl rfl (o_as tk rfl (Wk.refl _)) ?_
            refine wpo_nil ?_
            refine awp_ret ?_
            obtain rfl := Option.some.inj H76
            exact ⟨_, (.tup [(e_api_Entry ((⟨([] : List (BitVec 8)), (0 : Int), (0 : Int), (0 : Int), ([] : List (BitVec 8))⟩ : api_Entry) : api_Entry)), (eErr v77)]), (ares_2 (ares_cell hH 0 rfl rfl rfl) rfl), (wk_tup (.cons (wk_agg (.cons (.of_eq rfl) (.cons (.of_eq rfl) (.cons (.of_eq rfl) (.cons (.of_eq rfl) (.cons (wk_nils _) .nil)))))) (.cons (.of_eq rfl) .nil))), .of_eq (by simp only [cutAV, cutL, enc24.cut _ _ _, encErr.cut _ _ _]), (hH.noT.drop n2)⟩
          · refine awp_skip ?_
            refine awp_seq ?_
            refine awp_region rfl ?_
            refine wpo_mv (a := ((eL 5 e_api_Entry) v64.1)) rfl rfl rfl (o_mv tk rfl (Wk.refl _)) ?_
            refine wpo_bd H75 (fun y => .fptr (e_api_Entry y).cells 0) rfl rfl rfl (fun v80 hv => o_ixa tk hv td60 enc24 rfl rfl) fun v80 hv80 H79 => ?_
            refine wpo_mv (a := (e_api_Entry v80)) rfl rfl rfl (o_ld_e tk enc24 rfl rfl) ?_
            refine wpo_z rfl rfl (h_st tk hH 0 rfl ty24 (by simp) rfl rfl (.of_eq rfl) (b := (e_api_Entry v80)) (enc24.flat _) rfl (Nat.le_of_ble_eq_true rfl) (c_api_Entry (v80 : api_Entry)) rfl) fun τ hH => ?_
            refine wpo_mv (a := (eErr Err.nil)) rfl rfl rfl (o_as tk rfl (Wk.refl _)) ?_
            refine wpo_nil ?_
            refine awp_ret ?_
            obtain rfl := Option.some.inj H79
            exact ⟨_, (.tup [(e_api_Entry (v80 : api_Entry)), (eErr Err.nil)]), (ares_2 (ares_cell hH 0 rfl rfl rfl) rfl), (wk_tup (.cons (.of_eq rfl) (.cons (.of_eq rfl) .nil))), .of_eq (by simp only [cutAV, cutL, enc24.cut _ _ _, encErr.cut _ _ _]), (hH.noT.drop n2)⟩
    · refine awp_region rfl ?_
      refine wpo_mv (a := (eI v32)) rfl rfl rfl (o_mv tk rfl (Wk.refl _)) ?_
      refine wpo_lt hs35 eB rfl rfl rfl (o_ar tk rfl rfl rfl) fun v38 H37 => ?_
      refine wpo_mv (a := (eB v38)) rfl rfl rfl (o_mv tk rfl (Wk.refl _)) ?_
      refine if_split H37 (fun hb H39 => ?_) (fun hb H39 => ?_)
      · subst hb
        refine wpo_skip rfl rfl rfl ?_
        refine wpo_skip rfl rfl rfl ?_
        refine wpo_skip rfl rfl rfl ?_
        refine wpo_mv (a := (eB true)) rfl rfl rfl (o_pick_t tk rfl rfl (Wk.refl _)) ?_
        refine wpo_mv (a := (eB true)) rfl rfl rfl (o_mv tk rfl (Wk.refl _)) ?_
        refine wpo_skip rfl rfl rfl ?_
        refine wpo_skip rfl rfl rfl ?_
        refine wpo_skip rfl rfl rfl ?_
        refine wpo_skip rfl rfl rfl ?_
        refine wpo_mv (a := (eB true)) rfl rfl rfl (o_pick_t tk rfl rfl (Wk.refl _)) ?_
        refine wpo_mv (a := (eB true)) rfl rfl rfl (o_mv tk rfl (Wk.refl _)) ?_
        refine wpo_skip rfl rfl rfl ?_
        refine wpo_skip rfl rfl rfl ?_
        refine wpo_skip rfl rfl rfl ?_
        refine wpo_skip rfl rfl rfl ?_
        refine wpo_skip rfl rfl rfl ?_
        refine wpo_skip rfl rfl rfl ?_
        refine wpo_skip rfl rfl rfl ?_
        refine wpo_mv (a := (eB true)) rfl rfl rfl (o_pick_t tk rfl rfl (Wk.refl _)) ?_
        refine wpo_nil ?_
        have e := Option.some.inj H39
        subst e
        exact ⟨tk_8, (wkf_cons (.of_eq rfl) (wkf_cons (.of_eq rfl) (wkf_cons (.of_eq rfl) (wkf_cons (.of_eq rfl) (wkf_cons (.of_eq rfl) (wkf_nil _)))))), hH⟩
      · subst hb
        refine wpo_mv (a := (.fptr (c_api_Mark x2) 2)) rfl rfl rfl (o_c tk false rfl (fun _ => rfl)) ?_
        refine wpo_mv (a := (eI x2.Size)) rfl rfl rfl (o_ld tk rfl rfl) ?_
        refine wpo_lt H39 eB rfl rfl rfl (o_ar tk rfl rfl rfl) fun v41 H40 => ?_
        refine wpo_mv (a := (eB v41)) rfl rfl rfl (o_pick_f tk rfl rfl (Wk.refl _)) ?_
        refine wpo_mv (a := (eB v41)) rfl rfl rfl (o_mv tk rfl (Wk.refl _)) ?_
        refine if_split H40 (fun hb H42 => ?_) (fun hb H42 => ?_)
        · subst hb
          refine wpo_skip rfl rfl rfl ?_
          refine wpo_skip rfl rfl rfl ?_
          refine wpo_skip rfl rfl rfl ?_
          refine wpo_skip rfl rfl rfl ?_
          refine wpo_mv (a := (eB true)) rfl rfl rfl (o_pick_t tk rfl rfl (Wk.refl _)) ?_
          refine wpo_mv (a := (eB true)) rfl rfl rfl (o_mv tk rfl (Wk.refl _)) ?_
          refine wpo_skip rfl rfl rfl ?_
          refine wpo_skip rfl rfl rfl ?_
          refine wpo_skip rfl rfl rfl ?_
          refine wpo_skip rfl rfl rfl ?_
          refine wpo_skip rfl rfl rfl ?_
          refine wpo_skip rfl rfl rfl ?_
          refine wpo_skip rfl rfl rfl ?_
          refine wpo_mv (a := (eB true)) rfl rfl rfl (o_pick_t tk rfl rfl (Wk.refl _)) ?_
          refine wpo_nil ?_
          have e := Option.some.inj H42
          subst e
          exact ⟨tk_8, (wkf_cons (.of_eq rfl) (wkf_cons (.of_eq rfl) (wkf_cons (.of_eq rfl) (wkf_cons (.of_eq rfl) (wkf_cons (.of_eq rfl) (wkf_nil _)))))), hH⟩
        · subst hb
          refine wpo_mv (a := (eI v32)) rfl rfl rfl (o_mv tk rfl (Wk.refl _)) ?_
          refine wpo_mv (a := (eT tk_8 1 (@eU .u8 8) s15)) rfl rfl rfl (o_mv tk rfl (Wk.refl _)) ?_
          refine wpo_lt H42 eI rfl rfl rfl (o_len tk td22 rfl) fun v44 H43 => ?_
          refine wpo_lt H43 eB rfl rfl rfl (o_ar tk rfl rfl rfl) fun v46 H45 => ?_
          refine wpo_mv (a := (eB v46)) rfl rfl rfl (o_pick_f tk rfl rfl (Wk.refl _)) ?_
          refine wpo_mv (a := (eB v46)) rfl rfl rfl (o_mv tk rfl (Wk.refl _)) ?_
          refine if_split H45 (fun hb H47 => ?_) (fun hb H47 => ?_)
          · subst hb
            refine wpo_skip rfl rfl rfl ?_
            refine wpo_skip rfl rfl rfl ?_
            refine wpo_skip rfl rfl rfl ?_
            refine wpo_skip rfl rfl rfl ?_
            refine wpo_skip rfl rfl rfl ?_
            refine wpo_skip rfl rfl rfl ?_
            refine wpo_skip rfl rfl rfl ?_
            refine wpo_mv (a := (eB true)) rfl rfl rfl (o_pick_t tk rfl rfl (Wk.refl _)) ?_
            refine wpo_nil ?_
            have e := Option.some.inj H47
            subst e
            exact ⟨tk_8, (wkf_cons (.of_eq rfl) (wkf_cons (.of_eq rfl) (wkf_cons (.of_eq rfl) (wkf_cons (.of_eq rfl) (wkf_cons (.of_eq rfl) (wkf_nil _)))))), hH⟩
          · subst hb
            refine wpo_mv (a := (.fptr (c_api_Mark x2) 2)) rfl rfl rfl (o_c tk false rfl (fun _ => rfl)) ?_
            refine wpo_mv (a := (eI x2.Size)) rfl rfl rfl (o_ld tk rfl rfl) ?_
            refine wpo_mv (a := (eT tk_8 1 (@eU .u8 8) s15)) rfl rfl rfl (o_mv tk rfl (Wk.refl _)) ?_
            refine wpo_lt H47 eI rfl rfl rfl (o_len tk td22 rfl) fun v49 H48 => ?_
            refine wpo_mv (a := (eI v32)) rfl rfl rfl (o_mv tk rfl (Wk.refl _)) ?_
            refine wpo_lt H48 eI rfl rfl rfl (o_ar tk rfl rfl rfl) fun v51 H50 => ?_
            refine wpo_lt H50 eB rfl rfl rfl (o_ar tk rfl rfl rfl) fun v53 H52 => ?_
            refine wpo_mv (a := (eB v53)) rfl rfl rfl (o_pick_f tk rfl rfl (Wk.refl _)) ?_
            refine wpo_nil ?_
            have e := Option.some.inj H52
            subst e
            exact ⟨tk_8, (wkf_cons (.of_eq rfl) (wkf_cons (.of_eq rfl) (wkf_cons (.of_eq rfl) (wkf_cons (.of_eq rfl) (wkf_cons (.of_eq rfl) (wkf_nil _)))))), hH⟩
  · refine awp_loopO (body := fun s => region_Take_b0 x0 x1 x2 v4 s.1 s.2) hs9 (fun (s : (List (BitVec 8)) × Int) fr τ => ∃ tk_8, WkF fr (fm [(1, (eI x1)), (5, (.fptr (c_api_Mark x2) 0)), (6, (.ref id1 0)), (8, (eT tk_8 1 (@eU .u8 8) s.1)), (14, ((eL 1 (eL 1 (@eU .u8 8))) x0)), (15, (eI v4)), (16, (eI s.2))]) ∧ Holds σ [(id1, [(eS z_api_Entry.Key), (eI z_api_Entry.Version), (eI z_api_Entry.AsOf), (eI z_api_Entry.Ends), AV.nils])] [tk_8] τ) ⟨tk7, (wkf_cons (.of_eq rfl) (wkf_cons (.of_eq rfl) (wkf_cons (.of_eq rfl) (wkf_cons (.of_eq rfl) (wkf_cons (.of_eq rfl) (wkf_cons (.of_eq rfl) (wkf_cons (.of_eq rfl) (wkf_nil _)))))))), hH⟩ ?_
    rintro ⟨c5, c6⟩ fr τ y11 ⟨tk_8, hfr, hH⟩ hb13 hy14
    have H16 : region_Take_b0 x0 x1 x2 v4 c5 c6 = some y11 := hb13
    unfold region_Take_b0 at H16
    refine AWP.fm [(1, (eI x1)), (5, (.fptr (c_api_Mark x2) 0)), (6, (.ref id1 0)), (8, (eT tk_8 1 (@eU .u8 8) c5)), (14, ((eL 1 (eL 1 (@eU .u8 8))) x0)), (15, (eI v4)), (16, (eI c6))] hfr ?_
    have hH : Holds σ [(id1, [(eS z_api_Entry.Key), (eI z_api_Entry.Version), (eI z_api_Entry.AsOf), (eI z_api_Entry.Ends), AV.nils])] [tk_8] τ := hH
    refine awp_seq ?_
    refine awp_region rfl ?_
    refine wpo_lt H16 eB rfl rfl rfl (o_ar tk rfl rfl rfl) fun v18 H17 => ?_
    refine wpo_nil ?_
    refine awp_seq ?_
    refine awp_if H17 rfl (fun H19 => ?_) (fun H19 => ?_)
    · refine awp_skip ?_
      refine awp_seq ?_
      refine awp_block ?_
      refine awp_seq ?_
      refine awp_region rfl ?_
      refine wpo_bd H19 (fun y => .fptr ((eL 1 (@eU .u8 8)) y).cells 0) rfl rfl rfl (fun v21 hv => o_ixa tk hv td62 (enc_l td22 sz22 (enc_u td5 sz5).cut) rfl rfl) fun v21 hv21 H20 => ?_
      refine wpo_mv (a := ((eL 1 (@eU .u8 8)) v21)) rfl rfl rfl (o_ld_e tk (enc_l td22 sz22 (enc_u td5 sz5).cut) rfl rfl) ?_
      refine wpo_mv (a := ((eL 1 (@eU .u8 8)) v21)) rfl rfl rfl (o_as tk rfl (Wk.refl _)) ?_
      refine wpo_nil ?_
      refine awp_region rfl ?_
      refine wpo_mv (a := (eT tk_8 1 (@eU .u8 8) c5)) rfl rfl rfl (o_mv tk rfl (Wk.refl _)) ?_
      refine wpo_mv (a := ((eL 1 (@eU .u8 8)) v21)) rfl rfl rfl (o_mv tk rfl (Wk.refl _)) ?_
      obtain ⟨v23, hv24, H22⟩ := Option.bind_eq_some_iff.1 H20
      refine wpo_a (av := fun t => eT t 1 (@eU .u8 8) v23) rfl rfl rfl (h_app tk hH 0 hv24 rfl td22 ty5 rfl (by decide) rfl (src_l td22 rfl)) fun tk25 τ hH => ?_
      refine wpo_mv (a := (eT tk25 1 (@eU .u8 8) v23)) rfl rfl rfl (o_as tk rfl (Wk.refl _)) ?_
      refine wpo_nil ?_
      refine awp_region rfl ?_
      refine wpo_lt H22 eI rfl rfl rfl (o_ar tk rfl rfl rfl) fun v27 H26 => ?_
      refine wpo_mv (a := (eI v27)) rfl rfl rfl (o_mv tk rfl (Wk.refl _)) ?_
      refine wpo_nil ?_
      exact ⟨(v23, v27), inj_inl H26, tk25, (wkf_cons (.of_eq rfl) (wkf_cons (.of_eq rfl) (wkf_cons (.of_eq rfl) (wkf_cons (.of_eq rfl) (wkf_cons (.of_eq rfl) (wkf_cons (.of_eq rfl) (wkf_cons (.of_eq rfl) (wkf_nil _)))))))), hH⟩
    · refine awp_exit ?_
      have hz := hy14 _ (inj_inr H19)
      subst hz
      exact ⟨⟨_, inj_inr H19⟩, tk_8, (wkf_cons (.of_eq rfl) (wkf_cons (.of_eq rfl) (wkf_cons (.of_eq rfl) (wkf_cons (.of_eq rfl) (wkf_nil _))))), hH⟩
end Go.Proofs.YtkmlinaofbcbaaaDoor
namespace Go.Proofs.YtkmlinaofbcbaaaDoor
open Go Go.Va
set_option linter.unusedVariables false
set_option linter.unusedSimpArgs false
set_option maxRecDepth 20000
theorem region_Span_ok {x0 : api_Mark} {r : Int × Int} (H : region_Span x0 = some r) (σ : St)  : ACall Tryd.prog 91 [(e_api_Mark x0)] σ (fun a τ => a = .tup [eI r.1, eI r.2] ∧ τ = σ) := by
  unfold region_Span at H
  refine ACall.pure (acall_start tk Tryd.func91 (by decide) rfl (Nat.le_of_ble_eq_true rfl) ?_)
  have hH := Holds.init σ
  refine awp_seq ?_
  refine awp_region rfl ?_
  refine wpo_mv (a := (.fptr (c_api_Mark x0) 0)) rfl rfl rfl (o_boxf tk rfl (.of_eq rfl) (b := (e_api_Mark x0)) (enc74.flat _)) ?_
  refine wpo_mv (a := (eI (0 : Int))) rfl rfl rfl (o_as tk rfl (Wk.refl _)) ?_
  refine wpo_mv (a := (eI (0 : Int))) rfl rfl rfl (o_as tk rfl (Wk.refl _)) ?_
  refine wpo_nil ?_
  refine awp_seq ?_
  refine awp_seq ?_
  refine awp_region rfl ?_
  refine wpo_mv (a := (.fptr (c_api_Mark x0) 2)) rfl rfl rfl (o_c tk false rfl (fun _ => rfl)) ?_
  refine wpo_mv (a := (eI x0.Size)) rfl rfl rfl (o_ld tk rfl rfl) ?_
  refine wpo_lt H eB rfl rfl rfl (o_ar tk rfl rfl rfl) fun v2 H1 => ?_
  refine wpo_nil ?_
  refine awp_if H1 rfl (fun H3 => ?_) (fun H3 => ?_)
  · refine awp_seq ?_
    refine awp_drawS mixed [] rfl (by decide +kernel) rfl rfl ?_
    refine wpdS_mv (a := (.fptr (c_api_Mark x0) 1)) rfl rfl rfl (o_c tk false rfl (fun _ => rfl)) ?_
    refine wpdS_mv (a := (eI x0.Off)) rfl rfl rfl (o_ld tk rfl rfl) ?_
    refine wpdS_lt H3 eI rfl rfl rfl (o_quo tk (z := (233 : Int)) rfl rfl rfl) fun v5 H4 => ?_
    refine wpdS_mv (a := (.fptr (c_api_Mark x0) 1)) rfl rfl rfl (o_c tk false rfl (fun _ => rfl)) ?_
    refine wpdS_mv (a := (eI x0.Off)) rfl rfl rfl (o_ld tk rfl rfl) ?_
    refine wpdS_lt H4 eI rfl rfl rfl (o_quo tk (z := (233 : Int)) rfl rfl rfl) fun v7 H6 => ?_
    refine wpdS_lt H6 eI rfl rfl rfl (o_ar tk rfl rfl rfl) fun v9 H8 => ?_
    refine wpdS_mv (a := (eI v5)) rfl rfl rfl (o_as tk rfl (Wk.refl _)) ?_
    refine wpdS_mv (a := (eI v9)) rfl rfl rfl (o_as tk rfl (Wk.refl _)) ?_
    refine wpdS_nil ?_
    refine awp_ret ?_
    obtain rfl := Option.some.inj H8
    exact ⟨_, (.tup [(eI v5), (eI v9)]), rfl, (wk_tup (.cons (.of_eq rfl) (.cons (.of_eq rfl) .nil))), .of_eq (by simp only [cutAV, cutL, (enc_i64 td3 sz3).cut _ _ _, (enc_i64 td3 sz3).cut _ _ _]), hH.noT⟩
  · refine awp_skip ?_
    refine awp_seq ?_
    refine awp_drawS mixed [] rfl (by decide +kernel) rfl rfl ?_
    refine wpdS_mv (a := (.fptr (c_api_Mark x0) 1)) rfl rfl rfl (o_c tk false rfl (fun _ => rfl)) ?_
    refine wpdS_mv (a := (eI x0.Off)) rfl rfl rfl (o_ld tk rfl rfl) ?_
    refine wpdS_lt H3 eI rfl rfl rfl (o_quo tk (z := (233 : Int)) rfl rfl rfl) fun v11 H10 => ?_
    refine wpdS_mv (a := (.fptr (c_api_Mark x0) 1)) rfl rfl rfl (o_c tk false rfl (fun _ => rfl)) ?_
    refine wpdS_mv (a := (eI x0.Off)) rfl rfl rfl (o_ld tk rfl rfl) ?_
    refine wpdS_mv (a := (.fptr (c_api_Mark x0) 2)) rfl rfl rfl (o_c tk false rfl (fun _ => rfl)) ?_
    refine wpdS_mv (a := (eI x0.Size)) rfl rfl rfl (o_ld tk rfl rfl) ?_
    refine wpdS_lt H10 eI rfl rfl rfl (o_ar tk rfl rfl rfl) fun v13 H12 => ?_
    refine wpdS_lt H12 eI rfl rfl rfl (o_ar tk rfl rfl rfl) fun v15 H14 => ?_
    refine wpdS_lt H14 eI rfl rfl rfl (o_quo tk (z := (233 : Int)) rfl rfl rfl) fun v17 H16 => ?_
    refine wpdS_mv (a := (eI v11)) rfl rfl rfl (o_as tk rfl (Wk.refl _)) ?_
    refine wpdS_mv (a := (eI v17)) rfl rfl rfl (o_as tk rfl (Wk.refl _)) ?_
    refine wpdS_nil ?_
    refine awp_ret ?_
    obtain rfl := Option.some.inj H16
    exact ⟨_, (.tup [(eI v11), (eI v17)]), rfl, (wk_tup (.cons (.of_eq rfl) (.cons (.of_eq rfl) .nil))), .of_eq (by simp only [cutAV, cutL, (enc_i64 td3 sz3).cut _ _ _, (enc_i64 td3 sz3).cut _ _ _]), hH.noT⟩
end Go.Proofs.YtkmlinaofbcbaaaDoor
namespace Go.Proofs.YtkmlinaofbcbaaaDoor
open Go Go.Va
set_option linter.unusedVariables false
set_option linter.unusedSimpArgs false
set_option maxRecDepth 20000
theorem region_Cap_ok {x0 : Int} {r : Int} (H : region_Cap x0 = some r) (σ : St)  : ACall Tryd.prog 92 [(eI x0)] σ (fun a τ => a = eI r ∧ τ = σ) := by
  unfold region_Cap at H
  refine ACall.pure (acall_start tk Tryd.func92 (by decide) rfl (Nat.le_of_ble_eq_true rfl) ?_)
  have hH := Holds.init σ
  refine awp_seq ?_
  refine awp_region rfl ?_
  refine wpo_mv (a := (eI (0 : Int))) rfl rfl rfl (o_as tk rfl (Wk.refl _)) ?_
  refine wpo_nil ?_
  refine awp_seq ?_
  refine awp_region rfl ?_
  refine wpo_mv (a := (eI x0)) rfl rfl rfl (o_mv tk rfl (Wk.refl _)) ?_
  refine wpo_lt H eI rfl rfl rfl (o_ar tk rfl rfl rfl) fun v2 H1 => ?_
  refine wpo_lt H1 eI rfl rfl rfl (o_max tk rfl rfl) fun v4 H3 => ?_
  refine wpo_lt H3 eI rfl rfl rfl (o_ar tk rfl rfl rfl) fun v6 H5 => ?_
  refine wpo_mv (a := (eI v6)) rfl rfl rfl (o_as tk rfl (Wk.refl _)) ?_
  refine wpo_nil ?_
  refine awp_ret ?_
  obtain rfl := Option.some.inj H5
  exact ⟨_, (eI v6), rfl, (.of_eq rfl), .of_eq ((enc_i64 td3 sz3).cut _ _ _), hH.noT⟩
end Go.Proofs.YtkmlinaofbcbaaaDoor
namespace Go.Proofs.YtkmlinaofbcbaaaDoor
open Go Go.Va
set_option linter.unusedVariables false
set_option linter.unusedSimpArgs false
set_option maxRecDepth 20000
theorem butterylaw14_works_ok  {r : Bool} (H : butterylaw14_works = some r) (σ : St)  (hg : σ.gl = gls) : ACall Tryd.prog 25 [] σ (fun a τ => a = eB r ∧ τ = σ) := by
  unfold butterylaw14_works at H
  refine ACall.pure (acall_start tk Tryd.func25 (by decide) rfl (Nat.le_of_ble_eq_true rfl) ?_)
  have hH := Holds.init σ
  refine awp_seq ?_
  refine awp_region rfl ?_
  refine wpo_mv (a := (eB false)) rfl rfl rfl (o_as tk rfl (Wk.refl _)) ?_
  refine wpo_nil ?_
  refine awp_seq ?_
  refine awp_region rfl ?_
  refine wpo_mv (a := (eF 1 eI ([(0 : Int)] : List Int))) rfl rfl rfl (o_c tk false rfl (fun _ => rfl)) ?_
  refine wpo_lt H e_api_Foot rfl rfl rfl (OpP.wk (wkf_up (t := 16) (a := ((eL 1 eI) ([(0 : Int)] : List Int))) wk_no) (o_c tk false rfl (fun _ => rfl))) fun v2 H1 => ?_
  refine wpo_a (av := fun id => .ref id 0) rfl rfl rfl (h_alloc tk hH ty53 [(eI z_api_Foot.Seq), (eI z_api_Foot.Bytes), (eI z_api_Foot.Count), AV.nils] rfl) fun id3 τ ⟨hH, n4⟩ => ?_
  refine wpo_z rfl rfl (h_st tk hH 0 rfl ty53 (by simp) rfl rfl (.of_eq rfl) (b := (e_api_Foot v2)) (enc53.flat _) rfl (Nat.le_of_ble_eq_true rfl) (c_api_Foot (v2 : api_Foot)) rfl) fun τ hH => ?_
  refine wpo_nil ?_
  refine awp_seq ?_
  refine awp_region rfl ?_
  refine wpo_rd (a := (e_api_Foot (v2 : api_Foot))) rfl rfl rfl (h_ld tk hH 0 rfl rfl rfl) ?_
  refine wpo_bd H1 (fun r => .tup [(eL 1 (@eU .u8 8)) r.1, eErr r.2]) rfl rfl rfl (fun v7 hv => OpP.of_call rfl rfl (.cons (.of_eq rfl) .nil) (region_Put_ok hv)) fun v7 hv7 H6 => ?_
  refine wpo_mv (a := (.tup [((eL 1 (@eU .u8 8)) v7.1), (eErr v7.2)])) rfl rfl rfl (o_mv tk rfl (Wk.refl _)) ?_
  refine wpo_mv (a := ((eL 1 (@eU .u8 8)) v7.1)) rfl rfl rfl (o_ext tk rfl rfl) ?_
  refine wpo_mv (a := (eErr v7.2)) rfl rfl rfl (o_ext tk rfl rfl) ?_
  refine wpo_mv (a := ((eL 1 (@eU .u8 8)) v7.1)) rfl rfl rfl (o_as tk rfl (Wk.refl _)) ?_
  refine wpo_mv (a := (eErr v7.2)) rfl rfl rfl (o_as tk rfl (Wk.refl _)) ?_
  refine wpo_nil ?_
  refine awp_seq ?_
  refine awp_region rfl ?_
  refine wpo_mv (a := ((eL 1 (@eU .u8 8)) v7.1)) rfl rfl rfl (o_mv tk rfl (Wk.refl _)) ?_
  refine wpo_bd H6 (fun r => .tup [e_api_Foot r.1, eErr r.2]) rfl rfl rfl (fun v9 hv => OpP.of_call rfl rfl (.cons (.of_eq rfl) .nil) (region_Get_ok hv)) fun v9 hv9 H8 => ?_
  refine wpo_mv (a := (.tup [(e_api_Foot v9.1), (eErr v9.2)])) rfl rfl rfl (o_mv tk rfl (Wk.refl _)) ?_
  refine wpo_mv (a := (e_api_Foot v9.1)) rfl rfl rfl (o_ext tk rfl rfl) ?_
  refine wpo_mv (a := (eErr v9.2)) rfl rfl rfl (o_ext tk rfl rfl) ?_
  refine wpo_a (av := fun id => .ref id 0) rfl rfl rfl (h_alloc tk hH ty53 [(eI z_api_Foot.Seq), (eI z_api_Foot.Bytes), (eI z_api_Foot.Count), AV.nils] rfl) fun id10 τ ⟨hH, n11⟩ => ?_
  refine wpo_z rfl rfl (h_st tk hH 0 rfl ty53 (by simp) rfl rfl (.of_eq rfl) (b := (e_api_Foot v9.1)) (enc53.flat _) rfl (Nat.le_of_ble_eq_true rfl) (c_api_Foot (v9.1 : api_Foot)) rfl) fun τ hH => ?_
  refine wpo_mv (a := (eErr v9.2)) rfl rfl rfl (o_as tk rfl (Wk.refl _)) ?_
  refine wpo_nil ?_
  refine awp_seq ?_
  refine awp_region rfl ?_
  refine wpo_mv (a := (eF 1 eI ([(1 : Int)] : List Int))) rfl rfl rfl (o_c tk false rfl (fun _ => rfl)) ?_
  refine wpo_lt H8 e_api_Foot rfl rfl rfl (OpP.wk (wkf_up (t := 29) (a := ((eL 1 eI) ([(1 : Int)] : List Int))) wk_no) (o_c tk false rfl (fun _ => rfl))) fun v14 H13 => ?_
  refine wpo_bd H13 (fun r => .tup [(eL 1 (@eU .u8 8)) r.1, eErr r.2]) rfl rfl rfl (fun v16 hv => OpP.of_call rfl rfl (.cons (.of_eq rfl) .nil) (region_Put_ok hv)) fun v16 hv16 H15 => ?_
  refine wpo_mv (a := (.tup [((eL 1 (@eU .u8 8)) v16.1), (eErr v16.2)])) rfl rfl rfl (o_mv tk rfl (Wk.refl _)) ?_
  refine wpo_mv (a := ((eL 1 (@eU .u8 8)) v16.1)) rfl rfl rfl (o_ext tk rfl rfl) ?_
  refine wpo_mv (a := (eErr v16.2)) rfl rfl rfl (o_ext tk rfl rfl) ?_
  refine wpo_mv (a := ((eL 1 (@eU .u8 8)) v16.1)) rfl rfl rfl (o_as tk rfl (Wk.refl _)) ?_
  refine wpo_mv (a := (eErr v16.2)) rfl rfl rfl (o_as tk rfl (Wk.refl _)) ?_
  refine wpo_nil ?_
  refine awp_seq ?_
  refine awp_region rfl ?_
  refine wpo_mv (a := (eF 1 (@eU .u8 8) ([97#8, 98#8] : List (BitVec 8)))) rfl rfl rfl (o_c tk false rfl (fun _ => rfl)) ?_
  refine wpo_mv (a := (eF 1 (@eU .u8 8) ([97#8, 98#8] : List (BitVec 8)))) rfl rfl rfl (o_bconst tk td22 td5 rfl) ?_
  refine wpo_lt H15 e_api_Entry rfl rfl rfl (OpP.wk (wkf_up (t := 35) (a := ((eL 1 (@eU .u8 8)) ([97#8, 98#8] : List (BitVec 8)))) wk_no) (o_c tk false rfl (fun _ => rfl))) fun v18 H17 => ?_
  refine wpo_lt H17 (eF 5 e_api_Entry) rfl rfl rfl (o_c tk false rfl (fun _ => rfl)) fun v20 H19 => ?_
  refine wpo_mv (a := (eF 5 e_api_Entry v20)) rfl rfl rfl (o_as tk rfl (Wk.refl _)) ?_
  refine wpo_nil ?_
  refine awp_seq ?_
  refine awp_drawS mixed [] rfl (by decide +kernel) rfl rfl ?_
  refine wpdS_rd (a := (e_api_Foot (v2 : api_Foot))) rfl (by decide +kernel) rfl rfl (h_ld tk hH 1 rfl rfl rfl) ?_
  refine wpdS_mv (a := (eF 5 e_api_Entry v20)) rfl rfl rfl (o_mv tk rfl (Wk.refl _)) ?_
  refine wpdS_bd H19 (eL 1 (@eU .u8 8)) rfl rfl rfl (fun v22 hv => OpP.of_call rfl rfl (.cons wk_no .nil) (item_All_ok hv)) fun v22 hv22 H21 => ?_
  refine wpdS_bd H21 (eL 1 (eL 1 (@eU .u8 8))) rfl rfl rfl (fun v24 hv => OpP.of_call rfl rfl (.cons (.of_eq rfl) .nil) (region_Split_ok hv)) fun v24 hv24 H23 => ?_
  refine wpdS_bdr H23 (fun r => .tup [(eL 5 e_api_Entry) r.1, eErr r.2]) rfl (by decide +kernel) rfl rfl (fun v26 hv => h_callr rfl rfl (.cons (.of_eq rfl) (.cons (.of_eq rfl) .nil)) (region_Whole_ok hv _ (hH.gl.trans hg))) fun v26 hv26 H25 => ?_
  refine wpdS_mv (a := (.tup [((eL 5 e_api_Entry) v26.1), (eErr v26.2)])) rfl rfl rfl (o_mv tk rfl (Wk.refl _)) ?_
  refine wpdS_mv (a := ((eL 5 e_api_Entry) v26.1)) rfl rfl rfl (o_ext tk rfl rfl) ?_
  refine wpdS_mv (a := (eErr v26.2)) rfl rfl rfl (o_ext tk rfl rfl) ?_
  refine wpdS_mv (a := ((eL 5 e_api_Entry) v26.1)) rfl rfl rfl (o_as tk rfl (Wk.refl _)) ?_
  refine wpdS_mv (a := (eErr v26.2)) rfl rfl rfl (o_as tk rfl (Wk.refl _)) ?_
  refine wpdS_nil ?_
  refine awp_seq ?_
  refine awp_region rfl ?_
  refine wpo_mv (a := (eF 5 e_api_Entry v20)) rfl rfl rfl (o_mv tk rfl (Wk.refl _)) ?_
  refine wpo_bd H25 (eL 3 e_api_Mark) rfl rfl rfl (fun v28 hv => OpP.of_call rfl rfl (.cons wk_no .nil) (region_Marks_ok hv)) fun v28 hv28 H27 => ?_
  refine wpo_mv (a := ((eL 3 e_api_Mark) v28)) rfl rfl rfl (o_as tk rfl (Wk.refl _)) ?_
  refine wpo_nil ?_
  refine awp_seq ?_
  refine awp_seq ?_
  refine awp_region rfl ?_
  refine wpo_mv (a := ((eL 3 e_api_Mark) v28)) rfl rfl rfl (o_mv tk rfl (Wk.refl _)) ?_
  refine wpo_lt H27 eI rfl rfl rfl (o_len tk td70 rfl) fun v30 H29 => ?_
  refine wpo_lt H29 eB rfl rfl rfl (o_ar tk rfl rfl rfl) fun v32 H31 => ?_
  refine wpo_nil ?_
  refine awp_if H31 rfl (fun H33 => ?_) (fun H33 => ?_)
  · refine awp_seq ?_
    refine awp_region rfl ?_
    refine wpo_mv (a := (eB false)) rfl rfl rfl (o_as tk rfl (Wk.refl _)) ?_
    refine wpo_nil ?_
    refine awp_ret ?_
    obtain rfl := Option.some.inj H33
    exact ⟨_, (eB false), rfl, (.of_eq rfl), .of_eq ((enc_b td4 sz4).cut _ _ _), ((hH.noT.drop n11).drop n4)⟩
  · refine awp_skip ?_
    refine awp_seq ?_
    refine awp_drawR mixed [10, 11] rfl (by decide +kernel) rfl rfl (fun σ => σ.gl = gls) 1 (hH.gl.trans hg) ?_
    refine wpdR_mv (a := (eF 5 e_api_Entry v20)) rfl rfl rfl (o_mv tk rfl (Wk.refl _)) ?_
    refine wpdR_bd H33 (eL 1 (@eU .u8 8)) rfl rfl rfl (fun v35 hv => OpP.of_call rfl rfl (.cons wk_no .nil) (item_All_ok hv)) fun v35 hv35 H34 => ?_
    refine wpdR_bd H34 (eL 1 (eL 1 (@eU .u8 8))) rfl rfl rfl (fun v37 hv => OpP.of_call rfl rfl (.cons (.of_eq rfl) .nil) (region_Split_ok hv)) fun v37 hv37 H36 => ?_
    refine wpdR_mv (a := ((eL 3 e_api_Mark) v28)) rfl rfl rfl (o_mv tk rfl (Wk.refl _)) ?_
    refine wpdR_bd H36 (fun y => .fptr (e_api_Mark y).cells 0) rfl rfl rfl (fun v39 hv => o_ixa tk hv td70 enc74 rfl rfl) fun v39 hv39 H38 => ?_
    refine wpdR_mv (a := (e_api_Mark v39)) rfl rfl rfl (o_ld_e tk enc74 rfl rfl) ?_
    refine wpdR_bdrp H38 (fun r => .tup [e_api_Entry r.1, eErr r.2]) rfl (by decide +kernel) rfl rfl (fun v41 hv σ hF => h_callr rfl rfl (.cons (.of_eq rfl) (.cons (.of_eq rfl) (.cons (.of_eq rfl) .nil))) (region_Take_ok hv _ hF)) fun v41 hv41 H40 => ?_
    refine wpdR_mv (a := (.tup [(e_api_Entry v41.1), (eErr v41.2)])) rfl rfl rfl (o_mv tk rfl (Wk.refl _)) ?_
    refine wpdR_mv (a := (e_api_Entry v41.1)) rfl rfl rfl (o_ext tk rfl rfl) ?_
    refine wpdR_mv (a := (eErr v41.2)) rfl rfl rfl (o_ext tk rfl rfl) ?_
    refine wpdR_a (av := fun id => .ref id 0) rfl rfl rfl (h_alloc tk hH ty24 [(eS z_api_Entry.Key), (eI z_api_Entry.Version), (eI z_api_Entry.AsOf), (eI z_api_Entry.Ends), AV.nils] rfl) fun id42 τ ⟨hH, n43⟩ => ⟨fun _ => (hH.gl.trans hg), ?_⟩
    refine wpdR_z rfl rfl rfl (h_st tk hH 0 rfl ty24 (by simp) rfl rfl (.of_eq rfl) (b := (e_api_Entry v41.1)) (enc24.flat _) rfl (Nat.le_of_ble_eq_true rfl) (c_api_Entry (v41.1 : api_Entry)) rfl) fun τ hH => ⟨fun h => absurd h (by decide +kernel), ?_⟩
    refine wpdR_mv (a := (eErr v41.2)) rfl rfl rfl (o_as tk rfl (Wk.refl _)) ?_
    refine wpdR_nil ?_
    refine awp_seq ?_
    refine awp_region rfl ?_
    refine wpo_lt H40 e_api_Mark rfl rfl rfl (o_c tk false rfl (fun _ => rfl)) fun v46 H45 => ?_
    refine wpo_bd H45 (fun r => .tup [eI r.1, eI r.2]) rfl rfl rfl (fun v48 hv => OpP.of_call rfl rfl (.cons (.of_eq rfl) .nil) (region_Span_ok hv)) fun v48 hv48 H47 => ?_
    refine wpo_mv (a := (.tup [(eI v48.1), (eI v48.2)])) rfl rfl rfl (o_mv tk rfl (Wk.refl _)) ?_
    refine wpo_mv (a := (eI v48.1)) rfl rfl rfl (o_ext tk rfl rfl) ?_
    refine wpo_mv (a := (eI v48.2)) rfl rfl rfl (o_ext tk rfl rfl) ?_
    refine wpo_mv (a := (eI v48.1)) rfl rfl rfl (o_as tk rfl (Wk.refl _)) ?_
    refine wpo_mv (a := (eI v48.2)) rfl rfl rfl (o_as tk rfl (Wk.refl _)) ?_
    refine wpo_nil ?_
    refine awp_seq ?_
    refine awp_drawS mixed [] rfl (by decide +kernel) rfl rfl ?_
    refine wpdS_mv (a := (eErr v7.2)) rfl rfl rfl (o_mv tk rfl (Wk.refl _)) ?_
    refine wpdS_lt H47 eB rfl rfl rfl (o_err_eql tk rfl rfl rfl) fun v50 H49 => ?_
    refine wpdS_mv (a := (eB v50)) rfl rfl rfl (o_mv tk rfl (Wk.refl _)) ?_
    refine if_split H49 (fun hb H51 => ?_) (fun hb H51 => ?_)
    · subst hb
      refine wpdS_mv (a := (eErr v9.2)) rfl rfl rfl (o_mv tk rfl (Wk.refl _)) ?_
      refine wpdS_lt H51 eB rfl rfl rfl (o_err_eql tk rfl rfl rfl) fun v53 H52 => ?_
      refine wpdS_mv (a := (eB v53)) rfl rfl rfl (o_pick_t tk rfl rfl (Wk.refl _)) ?_
      refine wpdS_mv (a := (eB v53)) rfl rfl rfl (o_mv tk rfl (Wk.refl _)) ?_
      refine if_split H52 (fun hb H54 => ?_) (fun hb H54 => ?_)
      · subst hb
        refine wpdS_rd (a := (e_api_Foot (v2 : api_Foot))) rfl (by decide +kernel) rfl rfl (h_ld tk hH 2 rfl rfl rfl) ?_
        refine wpdS_rd (a := (e_api_Foot (v9.1 : api_Foot))) rfl (by decide +kernel) rfl rfl (h_ld tk hH 1 rfl rfl rfl) ?_
        refine wpdS_bd H54 eB rfl rfl rfl (fun v56 hv => OpP.of_call rfl rfl (.cons (.of_eq rfl) (.cons (.of_eq rfl) .nil)) (butteryref14_Same_ok hv)) fun v56 hv56 H55 => ?_
        refine wpdS_mv (a := (eB v56)) rfl rfl rfl (o_pick_t tk rfl rfl (Wk.refl _)) ?_
        refine wpdS_mv (a := (eB v56)) rfl rfl rfl (o_mv tk rfl (Wk.refl _)) ?_
        refine if_split H55 (fun hb H57 => ?_) (fun hb H57 => ?_)
        · subst hb
          refine wpdS_mv (a := (eErr v16.2)) rfl rfl rfl (o_mv tk rfl (Wk.refl _)) ?_
          refine wpdS_bdr H57 eI rfl (by decide +kernel) rfl rfl (fun v59 hv => h_callr rfl rfl (.cons (.of_eq rfl) .nil) (trouble_Of_ok hv _ (hH.gl.trans hg))) fun v59 hv59 H58 => ?_
          refine wpdS_lt H58 eB rfl rfl rfl (o_ar tk rfl rfl rfl) fun v61 H60 => ?_
          refine wpdS_mv (a := (eB v61)) rfl rfl rfl (o_pick_t tk rfl rfl (Wk.refl _)) ?_
          refine wpdS_mv (a := (eB v61)) rfl rfl rfl (o_mv tk rfl (Wk.refl _)) ?_
          refine if_split H60 (fun hb H62 => ?_) (fun hb H62 => ?_)
          · subst hb
            refine wpdS_mv (a := (eErr v26.2)) rfl rfl rfl (o_mv tk rfl (Wk.refl _)) ?_
            refine wpdS_lt H62 eB rfl rfl rfl (o_err_eql tk rfl rfl rfl) fun v64 H63 => ?_
            refine wpdS_mv (a := (eB v64)) rfl rfl rfl (o_pick_t tk rfl rfl (Wk.refl _)) ?_
            refine wpdS_mv (a := (eB v64)) rfl rfl rfl (o_mv tk rfl (Wk.refl _)) ?_
            refine if_split H63 (fun hb H65 => ?_) (fun hb H65 => ?_)
            · subst hb
              refine wpdS_mv (a := ((eL 5 e_api_Entry) v26.1)) rfl rfl rfl (o_mv tk rfl (Wk.refl _)) ?_
              refine wpdS_mv (a := (eF 5 e_api_Entry v20)) rfl rfl rfl (o_mv tk rfl (Wk.refl _)) ?_
              refine wpdS_bd H65 eB rfl rfl rfl (fun v67 hv => OpP.of_call rfl rfl (.cons (.of_eq rfl) (.cons wk_no .nil)) (butteryref06_SameAll_ok hv)) fun v67 hv67 H66 => ?_
              refine wpdS_mv (a := (eB v67)) rfl rfl rfl (o_pick_t tk rfl rfl (Wk.refl _)) ?_
              refine wpdS_mv (a := (eB v67)) rfl rfl rfl (o_mv tk rfl (Wk.refl _)) ?_
              refine if_split H66 (fun hb H68 => ?_) (fun hb H68 => ?_)
              · subst hb
                refine wpdS_mv (a := (eErr v41.2)) rfl rfl rfl (o_mv tk rfl (Wk.refl _)) ?_
                refine wpdS_lt H68 eB rfl rfl rfl (o_err_eql tk rfl rfl rfl) fun v70 H69 => ?_
                refine wpdS_mv (a := (eB v70)) rfl rfl rfl (o_pick_t tk rfl rfl (Wk.refl _)) ?_
                refine wpdS_mv (a := (eB v70)) rfl rfl rfl (o_mv tk rfl (Wk.refl _)) ?_
                refine if_split H69 (fun hb H71 => ?_) (fun hb H71 => ?_)
                · subst hb
                  refine wpdS_rd (a := (e_api_Entry (v41.1 : api_Entry))) rfl (by decide +kernel) rfl rfl (h_ld tk hH 0 rfl rfl rfl) ?_
                  refine wpdS_mv (a := (eF 5 e_api_Entry v20)) rfl rfl rfl (o_mv tk rfl (Wk.refl _)) ?_
                  refine wpdS_bd H71 (fun y => .fptr (e_api_Entry y).cells 0) rfl rfl rfl (fun v73 hv => o_ixa tk hv td60 enc24 rfl rfl) fun v73 hv73 H72 => ?_
                  refine wpdS_mv (a := (e_api_Entry v73)) rfl rfl rfl (o_ld_e tk enc24 rfl rfl) ?_
                  refine wpdS_bd H72 eB rfl rfl rfl (fun v75 hv => OpP.of_call rfl rfl (.cons (.of_eq rfl) (.cons (.of_eq rfl) .nil)) (item_Same_ok hv)) fun v75 hv75 H74 => ?_
                  refine wpdS_mv (a := (eB v75)) rfl rfl rfl (o_pick_t tk rfl rfl (Wk.refl _)) ?_
                  refine wpdS_mv (a := (eB v75)) rfl rfl rfl (o_mv tk rfl (Wk.refl _)) ?_
                  refine if_split H74 (fun hb H76 => ?_) (fun hb H76 => ?_)
                  · subst hb
                    refine wpdS_bd H76 eI rfl rfl rfl (fun v78 hv => OpP.of_call rfl rfl (.cons (.of_eq rfl) .nil) (region_Cap_ok hv)) fun v78 hv78 H77 => ?_
                    refine wpdS_lt H77 eB rfl rfl rfl (o_ar tk rfl rfl rfl) fun v80 H79 => ?_
                    refine wpdS_mv (a := (eB v80)) rfl rfl rfl (o_pick_t tk rfl rfl (Wk.refl _)) ?_
                    refine wpdS_mv (a := (eB v80)) rfl rfl rfl (o_mv tk rfl (Wk.refl _)) ?_
                    refine if_split H79 (fun hb H81 => ?_) (fun hb H81 => ?_)
                    · subst hb
                      refine wpdS_mv (a := (eI v48.1)) rfl rfl rfl (o_mv tk rfl (Wk.refl _)) ?_
                      refine wpdS_lt H81 eB rfl rfl rfl (o_ar tk rfl rfl rfl) fun v83 H82 => ?_
                      refine wpdS_mv (a := (eB v83)) rfl rfl rfl (o_pick_t tk rfl rfl (Wk.refl _)) ?_
                      refine wpdS_mv (a := (eB v83)) rfl rfl rfl (o_mv tk rfl (Wk.refl _)) ?_
                      refine if_split H82 (fun hb H84 => ?_) (fun hb H84 => ?_)
                      · subst hb
                        refine wpdS_mv (a := (eI v48.2)) rfl rfl rfl (o_mv tk rfl (Wk.refl _)) ?_
                        refine wpdS_lt H84 eB rfl rfl rfl (o_ar tk rfl rfl rfl) fun v86 H85 => ?_
                        refine wpdS_mv (a := (eB v86)) rfl rfl rfl (o_pick_t tk rfl rfl (Wk.refl _)) ?_
                        refine wpdS_mv (a := (eB v86)) rfl rfl rfl (o_mv tk rfl (Wk.refl _)) ?_
                        refine if_split H85 (fun hb H87 => ?_) (fun hb H87 => ?_)
                        · subst hb
                          refine wpdS_rd (a := (e_api_Foot (v2 : api_Foot))) rfl (by decide +kernel) rfl rfl (h_ld tk hH 2 rfl rfl rfl) ?_
                          refine wpdS_bd H87 eErr rfl rfl rfl (fun v89 hv => OpP.of_call rfl rfl (.cons (.of_eq rfl) .nil) (region_Check_ok hv)) fun v89 hv89 H88 => ?_
                          refine wpdS_lt H88 eB rfl rfl rfl (o_err_eql tk rfl rfl rfl) fun v91 H90 => ?_
                          refine wpdS_mv (a := (eB v91)) rfl rfl rfl (o_pick_t tk rfl rfl (Wk.refl _)) ?_
                          refine wpdS_mv (a := (eB v91)) rfl rfl rfl (o_as tk rfl (Wk.refl _)) ?_
                          refine wpdS_nil ?_
                          refine awp_ret ?_
                          obtain rfl := Option.some.inj H90
                          exact ⟨_, (eB v91), rfl, (.of_eq rfl), .of_eq ((enc_b td4 sz4).cut _ _ _), (((hH.noT.drop n43).drop n11).drop n4)⟩
                        · subst hb
                          refine wpdS_skip rfl rfl rfl ?_
                          refine wpdS_skip rfl rfl rfl ?_
                          refine wpdS_skip rfl rfl rfl ?_
                          refine wpdS_mv (a := (eB false)) rfl rfl rfl (o_pick_f tk rfl rfl (Wk.refl _)) ?_
                          refine wpdS_mv (a := (eB false)) rfl rfl rfl (o_as tk rfl (Wk.refl _)) ?_
                          refine wpdS_nil ?_
                          refine awp_ret ?_
                          obtain rfl := Option.some.inj H87
                          exact ⟨_, (eB false), rfl, (.of_eq rfl), .of_eq ((enc_b td4 sz4).cut _ _ _), (((hH.noT.drop n43).drop n11).drop n4)⟩
                      · subst hb
                        refine wpdS_skip rfl rfl rfl ?_
                        refine wpdS_skip rfl rfl rfl ?_
                        refine wpdS_mv (a := (eB false)) rfl rfl rfl (o_pick_f tk rfl rfl (Wk.refl _)) ?_
                        refine wpdS_mv (a := (eB false)) rfl rfl rfl (o_mv tk rfl (Wk.refl _)) ?_
                        refine wpdS_skip rfl rfl rfl ?_
                        refine wpdS_skip rfl rfl rfl ?_
                        refine wpdS_skip rfl rfl rfl ?_
                        refine wpdS_mv (a := (eB false)) rfl rfl rfl (o_pick_f tk rfl rfl (Wk.refl _)) ?_
                        refine wpdS_mv (a := (eB false)) rfl rfl rfl (o_as tk rfl (Wk.refl _)) ?_
                        refine wpdS_nil ?_
                        refine awp_ret ?_
                        obtain rfl := Option.some.inj H84
                        exact ⟨_, (eB false), rfl, (.of_eq rfl), .of_eq ((enc_b td4 sz4).cut _ _ _), (((hH.noT.drop n43).drop n11).drop n4)⟩
                    · subst hb
                      refine wpdS_skip rfl rfl rfl ?_
                      refine wpdS_skip rfl rfl rfl ?_
                      refine wpdS_mv (a := (eB false)) rfl rfl rfl (o_pick_f tk rfl rfl (Wk.refl _)) ?_
                      refine wpdS_mv (a := (eB false)) rfl rfl rfl (o_mv tk rfl (Wk.refl _)) ?_
                      refine wpdS_skip rfl rfl rfl ?_
                      refine wpdS_skip rfl rfl rfl ?_
                      refine wpdS_mv (a := (eB false)) rfl rfl rfl (o_pick_f tk rfl rfl (Wk.refl _)) ?_
                      refine wpdS_mv (a := (eB false)) rfl rfl rfl (o_mv tk rfl (Wk.refl _)) ?_
                      refine wpdS_skip rfl rfl rfl ?_
                      refine wpdS_skip rfl rfl rfl ?_
                      refine wpdS_skip rfl rfl rfl ?_
                      refine wpdS_mv (a := (eB false)) rfl rfl rfl (o_pick_f tk rfl rfl (Wk.refl _)) ?_
                      refine wpdS_mv (a := (eB false)) rfl rfl rfl (o_as tk rfl (Wk.refl _)) ?_
                      refine wpdS_nil ?_
                      refine awp_ret ?_
                      obtain rfl := Option.some.inj H81
                      exact ⟨_, (eB false), rfl, (.of_eq rfl), .of_eq ((enc_b td4 sz4).cut _ _ _), (((hH.noT.drop n43).drop n11).drop n4)⟩
                  · subst hb
                    refine wpdS_skip rfl rfl rfl ?_
                    refine wpdS_skip rfl rfl rfl ?_
                    refine wpdS_mv (a := (eB false)) rfl rfl rfl (o_pick_f tk rfl rfl (Wk.refl _)) ?_
                    refine wpdS_mv (a := (eB false)) rfl rfl rfl (o_mv tk rfl (Wk.refl _)) ?_
                    refine wpdS_skip rfl rfl rfl ?_
                    refine wpdS_skip rfl rfl rfl ?_
                    refine wpdS_mv (a := (eB false)) rfl rfl rfl (o_pick_f tk rfl rfl (Wk.refl _)) ?_
                    refine wpdS_mv (a := (eB false)) rfl rfl rfl (o_mv tk rfl (Wk.refl _)) ?_
                    refine wpdS_skip rfl rfl rfl ?_
                    refine wpdS_skip rfl rfl rfl ?_
                    refine wpdS_mv (a := (eB false)) rfl rfl rfl (o_pick_f tk rfl rfl (Wk.refl _)) ?_
                    refine wpdS_mv (a := (eB false)) rfl rfl rfl (o_mv tk rfl (Wk.refl _)) ?_
                    refine wpdS_skip rfl rfl rfl ?_
                    refine wpdS_skip rfl rfl rfl ?_
                    refine wpdS_skip rfl rfl rfl ?_
                    refine wpdS_mv (a := (eB false)) rfl rfl rfl (o_pick_f tk rfl rfl (Wk.refl _)) ?_
                    refine wpdS_mv (a := (eB false)) rfl rfl rfl (o_as tk rfl (Wk.refl _)) ?_
                    refine wpdS_nil ?_
                    refine awp_ret ?_
                    obtain rfl := Option.some.inj H76
                    exact ⟨_, (eB false), rfl, (.of_eq rfl), .of_eq ((enc_b td4 sz4).cut _ _ _), (((hH.noT.drop n43).drop n11).drop n4)⟩
                · subst hb
                  refine wpdS_skip rfl rfl rfl ?_
                  refine wpdS_skip rfl rfl rfl ?_
                  refine wpdS_skip rfl rfl rfl ?_
                  refine wpdS_skip rfl rfl rfl ?_
                  refine wpdS_skip rfl rfl rfl ?_
                  refine wpdS_mv (a := (eB false)) rfl rfl rfl (o_pick_f tk rfl rfl (Wk.refl _)) ?_
                  refine wpdS_mv (a := (eB false)) rfl rfl rfl (o_mv tk rfl (Wk.refl _)) ?_
                  refine wpdS_skip rfl rfl rfl ?_
                  refine wpdS_skip rfl rfl rfl ?_
                  refine wpdS_mv (a := (eB false)) rfl rfl rfl (o_pick_f tk rfl rfl (Wk.refl _)) ?_
                  refine wpdS_mv (a := (eB false)) rfl rfl rfl (o_mv tk rfl (Wk.refl _)) ?_
                  refine wpdS_skip rfl rfl rfl ?_
                  refine wpdS_skip rfl rfl rfl ?_
                  refine wpdS_mv (a := (eB false)) rfl rfl rfl (o_pick_f tk rfl rfl (Wk.refl _)) ?_
                  refine wpdS_mv (a := (eB false)) rfl rfl rfl (o_mv tk rfl (Wk.refl _)) ?_
                  refine wpdS_skip rfl rfl rfl ?_
                  refine wpdS_skip rfl rfl rfl ?_
                  refine wpdS_mv (a := (eB false)) rfl rfl rfl (o_pick_f tk rfl rfl (Wk.refl _)) ?_
                  refine wpdS_mv (a := (eB false)) rfl rfl rfl (o_mv tk rfl (Wk.refl _)) ?_
                  refine wpdS_skip rfl rfl rfl ?_
                  refine wpdS_skip rfl rfl rfl ?_
                  refine wpdS_skip rfl rfl rfl ?_
                  refine wpdS_mv (a := (eB false)) rfl rfl rfl (o_pick_f tk rfl rfl (Wk.refl _)) ?_
                  refine wpdS_mv (a := (eB false)) rfl rfl rfl (o_as tk rfl (Wk.refl _)) ?_
                  refine wpdS_nil ?_
                  refine awp_ret ?_
                  obtain rfl := Option.some.inj H71
                  exact ⟨_, (eB false), rfl, (.of_eq rfl), .of_eq ((enc_b td4 sz4).cut _ _ _), (((hH.noT.drop n43).drop n11).drop n4)⟩
              · subst hb
                refine wpdS_skip rfl rfl rfl ?_
                refine wpdS_skip rfl rfl rfl ?_
                refine wpdS_mv (a := (eB false)) rfl rfl rfl (o_pick_f tk rfl rfl (Wk.refl _)) ?_
                refine wpdS_mv (a := (eB false)) rfl rfl rfl (o_mv tk rfl (Wk.refl _)) ?_
                refine wpdS_skip rfl rfl rfl ?_
                refine wpdS_skip rfl rfl rfl ?_
                refine wpdS_skip rfl rfl rfl ?_
                refine wpdS_skip rfl rfl rfl ?_
                refine wpdS_skip rfl rfl rfl ?_
                refine wpdS_mv (a := (eB false)) rfl rfl rfl (o_pick_f tk rfl rfl (Wk.refl _)) ?_
                refine wpdS_mv (a := (eB false)) rfl rfl rfl (o_mv tk rfl (Wk.refl _)) ?_
                refine wpdS_skip rfl rfl rfl ?_
                refine wpdS_skip rfl rfl rfl ?_
                refine wpdS_mv (a := (eB false)) rfl rfl rfl (o_pick_f tk rfl rfl (Wk.refl _)) ?_
                refine wpdS_mv (a := (eB false)) rfl rfl rfl (o_mv tk rfl (Wk.refl _)) ?_
                refine wpdS_skip rfl rfl rfl ?_
                refine wpdS_skip rfl rfl rfl ?_
                refine wpdS_mv (a := (eB false)) rfl rfl rfl (o_pick_f tk rfl rfl (Wk.refl _)) ?_
                refine wpdS_mv (a := (eB false)) rfl rfl rfl (o_mv tk rfl (Wk.refl _)) ?_
                refine wpdS_skip rfl rfl rfl ?_
                refine wpdS_skip rfl rfl rfl ?_
                refine wpdS_mv (a := (eB false)) rfl rfl rfl (o_pick_f tk rfl rfl (Wk.refl _)) ?_
                refine wpdS_mv (a := (eB false)) rfl rfl rfl (o_mv tk rfl (Wk.refl _)) ?_
                refine wpdS_skip rfl rfl rfl ?_
                refine wpdS_skip rfl rfl rfl ?_
                refine wpdS_skip rfl rfl rfl ?_
                refine wpdS_mv (a := (eB false)) rfl rfl rfl (o_pick_f tk rfl rfl (Wk.refl _)) ?_
                refine wpdS_mv (a := (eB false)) rfl rfl rfl (o_as tk rfl (Wk.refl _)) ?_
                refine wpdS_nil ?_
                refine awp_ret ?_
                obtain rfl := Option.some.inj H68
                exact ⟨_, (eB false), rfl, (.of_eq rfl), .of_eq ((enc_b td4 sz4).cut _ _ _), (((hH.noT.drop n43).drop n11).drop n4)⟩
            · subst hb
              refine wpdS_skip rfl rfl rfl ?_
              refine wpdS_skip rfl rfl rfl ?_
              refine wpdS_skip rfl rfl rfl ?_
              refine wpdS_mv (a := (eB false)) rfl rfl rfl (o_pick_f tk rfl rfl (Wk.refl _)) ?_
              refine wpdS_mv (a := (eB false)) rfl rfl rfl (o_mv tk rfl (Wk.refl _)) ?_
              refine wpdS_skip rfl rfl rfl ?_
              refine wpdS_skip rfl rfl rfl ?_
              refine wpdS_mv (a := (eB false)) rfl rfl rfl (o_pick_f tk rfl rfl (Wk.refl _)) ?_
              refine wpdS_mv (a := (eB false)) rfl rfl rfl (o_mv tk rfl (Wk.refl _)) ?_
              refine wpdS_skip rfl rfl rfl ?_
              refine wpdS_skip rfl rfl rfl ?_
              refine wpdS_skip rfl rfl rfl ?_
              refine wpdS_skip rfl rfl rfl ?_
              refine wpdS_skip rfl rfl rfl ?_
              refine wpdS_mv (a := (eB false)) rfl rfl rfl (o_pick_f tk rfl rfl (Wk.refl _)) ?_
              refine wpdS_mv (a := (eB false)) rfl rfl rfl (o_mv tk rfl (Wk.refl _)) ?_
              refine wpdS_skip rfl rfl rfl ?_
              refine wpdS_skip rfl rfl rfl ?_
              refine wpdS_mv (a := (eB false)) rfl rfl rfl (o_pick_f tk rfl rfl (Wk.refl _)) ?_
              refine wpdS_mv (a := (eB false)) rfl rfl rfl (o_mv tk rfl (Wk.refl _)) ?_
              refine wpdS_skip rfl rfl rfl ?_
              refine wpdS_skip rfl rfl rfl ?_
              refine wpdS_mv (a := (eB false)) rfl rfl rfl (o_pick_f tk rfl rfl (Wk.refl _)) ?_
              refine wpdS_mv (a := (eB false)) rfl rfl rfl (o_mv tk rfl (Wk.refl _)) ?_
              refine wpdS_skip rfl rfl rfl ?_
              refine wpdS_skip rfl rfl rfl ?_
              refine wpdS_mv (a := (eB false)) rfl rfl rfl (o_pick_f tk rfl rfl (Wk.refl _)) ?_
              refine wpdS_mv (a := (eB false)) rfl rfl rfl (o_mv tk rfl (Wk.refl _)) ?_
              refine wpdS_skip rfl rfl rfl ?_
              refine wpdS_skip rfl rfl rfl ?_
              refine wpdS_skip rfl rfl rfl ?_
              refine wpdS_mv (a := (eB false)) rfl rfl rfl (o_pick_f tk rfl rfl (Wk.refl _)) ?_
              refine wpdS_mv (a := (eB false)) rfl rfl rfl (o_as tk rfl (Wk.refl _)) ?_
              refine wpdS_nil ?_
              refine awp_ret ?_
              obtain rfl := Option.some.inj H65
              exact ⟨_, (eB false), rfl, (.of_eq rfl), .of_eq ((enc_b td4 sz4).cut _ _ _), (((hH.noT.drop n43).drop n11).drop n4)⟩
          · subst hb
            refine wpdS_skip rfl rfl rfl ?_
            refine wpdS_skip rfl rfl rfl ?_
            refine wpdS_mv (a := (eB false)) rfl rfl rfl (o_pick_f tk rfl rfl (Wk.refl _)) ?_
            refine wpdS_mv (a := (eB false)) rfl rfl rfl (o_mv tk rfl (Wk.refl _)) ?_
            refine wpdS_skip rfl rfl rfl ?_
            refine wpdS_skip rfl rfl rfl ?_
            refine wpdS_skip rfl rfl rfl ?_
            refine wpdS_mv (a := (eB false)) rfl rfl rfl (o_pick_f tk rfl rfl (Wk.refl _)) ?_
            refine wpdS_mv (a := (eB false)) rfl rfl rfl (o_mv tk rfl (Wk.refl _)) ?_
            refine wpdS_skip rfl rfl rfl ?_
            refine wpdS_skip rfl rfl rfl ?_
            refine wpdS_mv (a := (eB false)) rfl rfl rfl (o_pick_f tk rfl rfl (Wk.refl _)) ?_
            refine wpdS_mv (a := (eB false)) rfl rfl rfl (o_mv tk rfl (Wk.refl _)) ?_
            refine wpdS_skip rfl rfl rfl ?_
            refine wpdS_skip rfl rfl rfl ?_
            refine wpdS_skip rfl rfl rfl ?_
            refine wpdS_skip rfl rfl rfl ?_
            refine wpdS_skip rfl rfl rfl ?_
            refine wpdS_mv (a := (eB false)) rfl rfl rfl (o_pick_f tk rfl rfl (Wk.refl _)) ?_
            refine wpdS_mv (a := (eB false)) rfl rfl rfl (o_mv tk rfl (Wk.refl _)) ?_
            refine wpdS_skip rfl rfl rfl ?_
            refine wpdS_skip rfl rfl rfl ?_
            refine wpdS_mv (a := (eB false)) rfl rfl rfl (o_pick_f tk rfl rfl (Wk.refl _)) ?_
            refine wpdS_mv (a := (eB false)) rfl rfl rfl (o_mv tk rfl (Wk.refl _)) ?_
            refine wpdS_skip rfl rfl rfl ?_
            refine wpdS_skip rfl rfl rfl ?_
            refine wpdS_mv (a := (eB false)) rfl rfl rfl (o_pick_f tk rfl rfl (Wk.refl _)) ?_
            refine wpdS_mv (a := (eB false)) rfl rfl rfl (o_mv tk rfl (Wk.refl _)) ?_
            refine wpdS_skip rfl rfl rfl ?_
            refine wpdS_skip rfl rfl rfl ?_
            refine wpdS_mv (a := (eB false)) rfl rfl rfl (o_pick_f tk rfl rfl (Wk.refl _)) ?_
            refine wpdS_mv (a := (eB false)) rfl rfl rfl (o_mv tk rfl (Wk.refl _)) ?_
            refine wpdS_skip rfl rfl rfl ?_
            refine wpdS_skip rfl rfl rfl ?_
            refine wpdS_skip rfl rfl rfl ?_
            refine wpdS_mv (a := (eB false)) rfl rfl rfl (o_pick_f tk rfl rfl (Wk.refl _)) ?_
            refine wpdS_mv (a := (eB false)) rfl rfl rfl (o_as tk rfl (Wk.refl _)) ?_
            refine wpdS_nil ?_
            refine awp_ret ?_
            obtain rfl := Option.some.inj H62
            exact ⟨_, (eB false), rfl, (.of_eq rfl), .of_eq ((enc_b td4 sz4).cut _ _ _), (((hH.noT.drop n43).drop n11).drop n4)⟩
        · subst hb
          refine wpdS_skip rfl rfl rfl ?_
          refine wpdS_skip rfl rfl rfl ?_
          refine wpdS_skip rfl rfl rfl ?_
          refine wpdS_mv (a := (eB false)) rfl rfl rfl (o_pick_f tk rfl rfl (Wk.refl _)) ?_
          refine wpdS_mv (a := (eB false)) rfl rfl rfl (o_mv tk rfl (Wk.refl _)) ?_
          refine wpdS_skip rfl rfl rfl ?_
          refine wpdS_skip rfl rfl rfl ?_
          refine wpdS_mv (a := (eB false)) rfl rfl rfl (o_pick_f tk rfl rfl (Wk.refl _)) ?_
          refine wpdS_mv (a := (eB false)) rfl rfl rfl (o_mv tk rfl (Wk.refl _)) ?_
          refine wpdS_skip rfl rfl rfl ?_
          refine wpdS_skip rfl rfl rfl ?_
          refine wpdS_skip rfl rfl rfl ?_
          refine wpdS_mv (a := (eB false)) rfl rfl rfl (o_pick_f tk rfl rfl (Wk.refl _)) ?_
          refine wpdS_mv (a := (eB false)) rfl rfl rfl (o_mv tk rfl (Wk.refl _)) ?_
          refine wpdS_skip rfl rfl rfl ?_
          refine wpdS_skip rfl rfl rfl ?_
          refine wpdS_mv (a := (eB false)) rfl rfl rfl (o_pick_f tk rfl rfl (Wk.refl _)) ?_
          refine wpdS_mv (a := (eB false)) rfl rfl rfl (o_mv tk rfl (Wk.refl _)) ?_
          refine wpdS_skip rfl rfl rfl ?_
          refine wpdS_skip rfl rfl rfl ?_
          refine wpdS_skip rfl rfl rfl ?_
          refine wpdS_skip rfl rfl rfl ?_
          refine wpdS_skip rfl rfl rfl ?_
          refine wpdS_mv (a := (eB false)) rfl rfl rfl (o_pick_f tk rfl rfl (Wk.refl _)) ?_
          refine wpdS_mv (a := (eB false)) rfl rfl rfl (o_mv tk rfl (Wk.refl _)) ?_
          refine wpdS_skip rfl rfl rfl ?_
          refine wpdS_skip rfl rfl rfl ?_
          refine wpdS_mv (a := (eB false)) rfl rfl rfl (o_pick_f tk rfl rfl (Wk.refl _)) ?_
          refine wpdS_mv (a := (eB false)) rfl rfl rfl (o_mv tk rfl (Wk.refl _)) ?_
          refine wpdS_skip rfl rfl rfl ?_
          refine wpdS_skip rfl rfl rfl ?_
          refine wpdS_mv (a := (eB false)) rfl rfl rfl (o_pick_f tk rfl rfl (Wk.refl _)) ?_
          refine wpdS_mv (a := (eB false)) rfl rfl rfl (o_mv tk rfl (Wk.refl _)) ?_
          refine wpdS_skip rfl rfl rfl ?_
          refine wpdS_skip rfl rfl rfl ?_
          refine wpdS_mv (a := (eB false)) rfl rfl rfl (o_pick_f tk rfl rfl (Wk.refl _)) ?_
          refine wpdS_mv (a := (eB false)) rfl rfl rfl (o_mv tk rfl (Wk.refl _)) ?_
          refine wpdS_skip rfl rfl rfl ?_
          refine wpdS_skip rfl rfl rfl ?_
          refine wpdS_skip rfl rfl rfl ?_
          refine wpdS_mv (a := (eB false)) rfl rfl rfl (o_pick_f tk rfl rfl (Wk.refl _)) ?_
          refine wpdS_mv (a := (eB false)) rfl rfl rfl (o_as tk rfl (Wk.refl _)) ?_
          refine wpdS_nil ?_
          refine awp_ret ?_
          obtain rfl := Option.some.inj H57
          exact ⟨_, (eB false), rfl, (.of_eq rfl), .of_eq ((enc_b td4 sz4).cut _ _ _), (((hH.noT.drop n43).drop n11).drop n4)⟩
      · subst hb
        refine wpdS_skip rfl rfl rfl ?_
        refine wpdS_skip rfl rfl rfl ?_
        refine wpdS_skip rfl rfl rfl ?_
        refine wpdS_mv (a := (eB false)) rfl rfl rfl (o_pick_f tk rfl rfl (Wk.refl _)) ?_
        refine wpdS_mv (a := (eB false)) rfl rfl rfl (o_mv tk rfl (Wk.refl _)) ?_
        refine wpdS_skip rfl rfl rfl ?_
        refine wpdS_skip rfl rfl rfl ?_
        refine wpdS_skip rfl rfl rfl ?_
        refine wpdS_mv (a := (eB false)) rfl rfl rfl (o_pick_f tk rfl rfl (Wk.refl _)) ?_
        refine wpdS_mv (a := (eB false)) rfl rfl rfl (o_mv tk rfl (Wk.refl _)) ?_
        refine wpdS_skip rfl rfl rfl ?_
        refine wpdS_skip rfl rfl rfl ?_
        refine wpdS_mv (a := (eB false)) rfl rfl rfl (o_pick_f tk rfl rfl (Wk.refl _)) ?_
        refine wpdS_mv (a := (eB false)) rfl rfl rfl (o_mv tk rfl (Wk.refl _)) ?_
        refine wpdS_skip rfl rfl rfl ?_
        refine wpdS_skip rfl rfl rfl ?_
        refine wpdS_skip rfl rfl rfl ?_
        refine wpdS_mv (a := (eB false)) rfl rfl rfl (o_pick_f tk rfl rfl (Wk.refl _)) ?_
        refine wpdS_mv (a := (eB false)) rfl rfl rfl (o_mv tk rfl (Wk.refl _)) ?_
        refine wpdS_skip rfl rfl rfl ?_
        refine wpdS_skip rfl rfl rfl ?_
        refine wpdS_mv (a := (eB false)) rfl rfl rfl (o_pick_f tk rfl rfl (Wk.refl _)) ?_
        refine wpdS_mv (a := (eB false)) rfl rfl rfl (o_mv tk rfl (Wk.refl _)) ?_
        refine wpdS_skip rfl rfl rfl ?_
        refine wpdS_skip rfl rfl rfl ?_
        refine wpdS_skip rfl rfl rfl ?_
        refine wpdS_skip rfl rfl rfl ?_
        refine wpdS_skip rfl rfl rfl ?_
        refine wpdS_mv (a := (eB false)) rfl rfl rfl (o_pick_f tk rfl rfl (Wk.refl _)) ?_
        refine wpdS_mv (a := (eB false)) rfl rfl rfl (o_mv tk rfl (Wk.refl _)) ?_
        refine wpdS_skip rfl rfl rfl ?_
        refine wpdS_skip rfl rfl rfl ?_
        refine wpdS_mv (a := (eB false)) rfl rfl rfl (o_pick_f tk rfl rfl (Wk.refl _)) ?_
        refine wpdS_mv (a := (eB false)) rfl rfl rfl (o_mv tk rfl (Wk.refl _)) ?_
        refine wpdS_skip rfl rfl rfl ?_
        refine wpdS_skip rfl rfl rfl ?_
        refine wpdS_mv (a := (eB false)) rfl rfl rfl (o_pick_f tk rfl rfl (Wk.refl _)) ?_
        refine wpdS_mv (a := (eB false)) rfl rfl rfl (o_mv tk rfl (Wk.refl _)) ?_
        refine wpdS_skip rfl rfl rfl ?_
        refine wpdS_skip rfl rfl rfl ?_
        refine wpdS_mv (a := (eB false)) rfl rfl rfl (o_pick_f tk rfl rfl (Wk.refl _)) ?_
        refine wpdS_mv (a := (eB false)) rfl rfl rfl (o_mv tk rfl (Wk.refl _)) ?_
        refine wpdS_skip rfl rfl rfl ?_
        refine wpdS_skip rfl rfl rfl ?_
        refine wpdS_skip rfl rfl rfl ?_
        refine wpdS_mv (a := (eB false)) rfl rfl rfl (o_pick_f tk rfl rfl (Wk.refl _)) ?_
        refine wpdS_mv (a := (eB false)) rfl rfl rfl (o_as tk rfl (Wk.refl _)) ?_
        refine wpdS_nil ?_
        refine awp_ret ?_
        obtain rfl := Option.some.inj H54
        exact ⟨_, (eB false), rfl, (.of_eq rfl), .of_eq ((enc_b td4 sz4).cut _ _ _), (((hH.noT.drop n43).drop n11).drop n4)⟩
    · subst hb
      refine wpdS_skip rfl rfl rfl ?_
      refine wpdS_skip rfl rfl rfl ?_
      refine wpdS_mv (a := (eB false)) rfl rfl rfl (o_pick_f tk rfl rfl (Wk.refl _)) ?_
      refine wpdS_mv (a := (eB false)) rfl rfl rfl (o_mv tk rfl (Wk.refl _)) ?_
      refine wpdS_skip rfl rfl rfl ?_
      refine wpdS_skip rfl rfl rfl ?_
      refine wpdS_skip rfl rfl rfl ?_
      refine wpdS_mv (a := (eB false)) rfl rfl rfl (o_pick_f tk rfl rfl (Wk.refl _)) ?_
      refine wpdS_mv (a := (eB false)) rfl rfl rfl (o_mv tk rfl (Wk.refl _)) ?_
      refine wpdS_skip rfl rfl rfl ?_
      refine wpdS_skip rfl rfl rfl ?_
      refine wpdS_skip rfl rfl rfl ?_
      refine wpdS_mv (a := (eB false)) rfl rfl rfl (o_pick_f tk rfl rfl (Wk.refl _)) ?_
      refine wpdS_mv (a := (eB false)) rfl rfl rfl (o_mv tk rfl (Wk.refl _)) ?_
      refine wpdS_skip rfl rfl rfl ?_
      refine wpdS_skip rfl rfl rfl ?_
      refine wpdS_mv (a := (eB false)) rfl rfl rfl (o_pick_f tk rfl rfl (Wk.refl _)) ?_
      refine wpdS_mv (a := (eB false)) rfl rfl rfl (o_mv tk rfl (Wk.refl _)) ?_
      refine wpdS_skip rfl rfl rfl ?_
      refine wpdS_skip rfl rfl rfl ?_
      refine wpdS_skip rfl rfl rfl ?_
      refine wpdS_mv (a := (eB false)) rfl rfl rfl (o_pick_f tk rfl rfl (Wk.refl _)) ?_
      refine wpdS_mv (a := (eB false)) rfl rfl rfl (o_mv tk rfl (Wk.refl _)) ?_
      refine wpdS_skip rfl rfl rfl ?_
      refine wpdS_skip rfl rfl rfl ?_
      refine wpdS_mv (a := (eB false)) rfl rfl rfl (o_pick_f tk rfl rfl (Wk.refl _)) ?_
      refine wpdS_mv (a := (eB false)) rfl rfl rfl (o_mv tk rfl (Wk.refl _)) ?_
      refine wpdS_skip rfl rfl rfl ?_
      refine wpdS_skip rfl rfl rfl ?_
      refine wpdS_skip rfl rfl rfl ?_
      refine wpdS_skip rfl rfl rfl ?_
      refine wpdS_skip rfl rfl rfl ?_
      refine wpdS_mv (a := (eB false)) rfl rfl rfl (o_pick_f tk rfl rfl (Wk.refl _)) ?_
      refine wpdS_mv (a := (eB false)) rfl rfl rfl (o_mv tk rfl (Wk.refl _)) ?_
      refine wpdS_skip rfl rfl rfl ?_
      refine wpdS_skip rfl rfl rfl ?_
      refine wpdS_mv (a := (eB false)) rfl rfl rfl (o_pick_f tk rfl rfl (Wk.refl _)) ?_
      refine wpdS_mv (a := (eB false)) rfl rfl rfl (o_mv tk rfl (Wk.refl _)) ?_
      refine wpdS_skip rfl rfl rfl ?_
      refine wpdS_skip rfl rfl rfl ?_
      refine wpdS_mv (a := (eB false)) rfl rfl rfl (o_pick_f tk rfl rfl (Wk.refl _)) ?_
      refine wpdS_mv (a := (eB false)) rfl rfl rfl (o_mv tk rfl (Wk.refl _)) ?_
      refine wpdS_skip rfl rfl rfl ?_
      refine wpdS_skip rfl rfl rfl ?_
      refine wpdS_mv (a := (eB false)) rfl rfl rfl (o_pick_f tk rfl rfl (Wk.refl _)) ?_
      refine wpdS_mv (a := (eB false)) rfl rfl rfl (o_mv tk rfl (Wk.refl _)) ?_
      refine wpdS_skip rfl rfl rfl ?_
      refine wpdS_skip rfl rfl rfl ?_
      refine wpdS_skip rfl rfl rfl ?_
      refine wpdS_mv (a := (eB false)) rfl rfl rfl (o_pick_f tk rfl rfl (Wk.refl _)) ?_
      refine wpdS_mv (a := (eB false)) rfl rfl rfl (o_as tk rfl (Wk.refl _)) ?_
      refine wpdS_nil ?_
      refine awp_ret ?_
      obtain rfl := Option.some.inj H51
      exact ⟨_, (eB false), rfl, (.of_eq rfl), .of_eq ((enc_b td4 sz4).cut _ _ _), (((hH.noT.drop n43).drop n11).drop n4)⟩
end Go.Proofs.YtkmlinaofbcbaaaDoor
namespace Go.Proofs.YtkmlinaofbcbaaaDoor
open Go Go.Va
set_option linter.unusedVariables false
set_option linter.unusedSimpArgs false
set_option maxRecDepth 20000
theorem butterylaw06_Light_ok {x0 : List api_Entry} {r : Int} (H : butterylaw06_Light x0 = some r) (σ : St)  : ACall Tryd.prog 30 [((eL 5 e_api_Entry) x0)] σ (fun a τ => a = eI r ∧ τ = σ) := by
  unfold butterylaw06_Light at H
  refine ACall.pure (acall_start tk Tryd.func30 (by decide) rfl (Nat.le_of_ble_eq_true rfl) ?_)
  have hH := Holds.init σ
  refine awp_seq ?_
  refine awp_region rfl ?_
  refine wpo_mv (a := (eI (0 : Int))) rfl rfl rfl (o_as tk rfl (Wk.refl _)) ?_
  refine wpo_nil ?_
  refine awp_seq ?_
  refine awp_seq ?_
  refine awp_region rfl ?_
  refine wpo_mv (a := ((eL 5 e_api_Entry) x0)) rfl rfl rfl (o_mv tk rfl (Wk.refl _)) ?_
  refine wpo_lt H eI rfl rfl rfl (o_len tk td60 rfl) fun v2 H1 => ?_
  refine wpo_lt H1 eB rfl rfl rfl (o_ar tk rfl rfl rfl) fun v4 H3 => ?_
  refine wpo_nil ?_
  refine awp_if H3 rfl (fun H5 => ?_) (fun H5 => ?_)
  · refine awp_seq ?_
    refine awp_region rfl ?_
    refine wpo_mv (a := (eI (1 : Int))) rfl rfl rfl (o_as tk rfl (Wk.refl _)) ?_
    refine wpo_nil ?_
    refine awp_ret ?_
    obtain rfl := Option.some.inj H5
    exact ⟨_, (eI (1 : Int)), rfl, (.of_eq rfl), .of_eq ((enc_i64 td3 sz3).cut _ _ _), hH.noT⟩
  · refine awp_skip ?_
    refine awp_seq ?_
    refine awp_region rfl ?_
    refine wpo_mv (a := (eI (0 : Int))) rfl rfl rfl (o_as tk rfl (Wk.refl _)) ?_
    refine wpo_nil ?_
    refine awp_seq ?_
    refine awp_seq ?_
    refine awp_region rfl ?_
    refine wpo_mv (a := (eI (0 : Int))) rfl rfl rfl (o_as tk rfl (Wk.refl _)) ?_
    refine wpo_nil ?_
    refine awp_block ?_
    obtain ⟨o8, hs9, hj10⟩ := Option.bind_eq_some_iff.1 H5
    refine awp_cutx 0 (fun fr τ => ∃ s15 : Unit, o8 = .inl s15 ∧ WkF fr (fm []) ∧ Holds σ [] [] τ) ?_ ?_
    · rintro fr τ ⟨s15, rfl, hfr, hH⟩
      have H54 := hj10
      simp only [Sum.elim_inl] at H54
      refine AWP.fm [] hfr ?_
      refine awp_seq ?_
      refine awp_region rfl ?_
      refine wpo_mv (a := (eI (0 : Int))) rfl rfl rfl (o_as tk rfl (Wk.refl _)) ?_
      refine wpo_nil ?_
      refine awp_ret ?_
      obtain rfl := Option.some.inj H54
      exact ⟨_, (eI (0 : Int)), rfl, (.of_eq rfl), .of_eq ((enc_i64 td3 sz3).cut _ _ _), hH.noT⟩
    · refine awp_loopO (body := fun s => butterylaw06_Light_b0 x0 s.1 s.2) hs9 (fun (s : Int × Int) fr τ => WkF fr (fm [(0, ((eL 5 e_api_Entry) x0)), (3, (eI s.1)), (4, (eI s.2))]) ∧ Holds σ [] [] τ) ⟨(wkf_cons (.of_eq rfl) (wkf_cons (.of_eq rfl) (wkf_cons (.of_eq rfl) (wkf_nil _)))), hH⟩ ?_
      rintro ⟨c6, c7⟩ fr τ y11 ⟨hfr, hH⟩ hb13 hy14
      have H16 : butterylaw06_Light_b0 x0 c6 c7 = some y11 := hb13
      unfold butterylaw06_Light_b0 at H16
      refine AWP.fm [(0, ((eL 5 e_api_Entry) x0)), (3, (eI c6)), (4, (eI c7))] hfr ?_
      have hH : Holds σ [] [] τ := hH
      refine awp_seq ?_
      refine awp_seq ?_
      refine awp_region rfl ?_
      refine wpo_mv (a := (eI c7)) rfl rfl rfl (o_mv tk rfl (Wk.refl _)) ?_
      refine wpo_mv (a := ((eL 5 e_api_Entry) x0)) rfl rfl rfl (o_mv tk rfl (Wk.refl _)) ?_
      refine wpo_lt H16 eI rfl rfl rfl (o_len tk td60 rfl) fun v18 H17 => ?_
      refine wpo_lt H17 eB rfl rfl rfl (o_ar tk rfl rfl rfl) fun v20 H19 => ?_
      refine wpo_nil ?_
      refine awp_if H19 rfl (fun H21 => ?_) (fun H21 => ?_)
      · refine awp_skip ?_
        refine awp_seq ?_
        refine awp_block ?_
        refine awp_seq ?_
        refine awp_seq ?_
        obtain ⟨s22, hs24, hj25⟩ := Option.bind_eq_some_iff.1 H21
        refine awp_cutn (fun fr τ => WkF fr (fm [(0, ((eL 5 e_api_Entry) x0)), (3, (eI c6)), (4, (eI c7)), (29, (eB s22))]) ∧ Holds σ [] [] τ) ?_ ?_
        · rintro fr τ ⟨hfr, hH⟩
          have H39 := hj25
          refine AWP.fm [(0, ((eL 5 e_api_Entry) x0)), (3, (eI c6)), (4, (eI c7)), (29, (eB s22))] hfr ?_
          refine awp_if H39 rfl (fun H40 => ?_) (fun H40 => ?_)
          · refine awp_seq ?_
            refine awp_region rfl ?_
            refine wpo_mv (a := (eI (1 : Int))) rfl rfl rfl (o_as tk rfl (Wk.refl _)) ?_
            refine wpo_nil ?_
            refine awp_ret ?_
            have hz := hy14 _ (inj_inr H40)
            refine ⟨⟨_, inj_inr H40⟩, ?_⟩
            rw [← hz] at hj10
            have H41 := (show some _ = some _ from hj10)
            obtain rfl := Option.some.inj H41
            exact ⟨_, (eI (1 : Int)), rfl, (.of_eq rfl), .of_eq ((enc_i64 td3 sz3).cut _ _ _), hH.noT⟩
          · refine awp_skip ?_
            refine awp_seq ?_
            refine awp_region rfl ?_
            refine wpo_mv (a := (eI c6)) rfl rfl rfl (o_mv tk rfl (Wk.refl _)) ?_
            refine wpo_mv (a := ((eL 5 e_api_Entry) x0)) rfl rfl rfl (o_mv tk rfl (Wk.refl _)) ?_
            refine wpo_mv (a := (eI c7)) rfl rfl rfl (o_mv tk rfl (Wk.refl _)) ?_
            refine wpo_bd H40 (fun y => .fptr (e_api_Entry y).cells 0) rfl rfl rfl (fun v43 hv => o_ixa tk hv td60 enc24 rfl rfl) fun v43 hv43 H42 => ?_
            refine wpo_mv (a := (.fptr (c_api_Entry v43) 4)) rfl rfl rfl (o_c tk false rfl (fun _ => rfl)) ?_
            refine wpo_mv (a := ((eL 1 (@eU .u8 8)) v43.Value)) rfl rfl rfl (o_ld tk rfl rfl) ?_
            refine wpo_lt H42 eI rfl rfl rfl (o_len tk td22 rfl) fun v45 H44 => ?_
            refine wpo_lt H44 eI rfl rfl rfl (o_ar tk rfl rfl rfl) fun v47 H46 => ?_
            refine wpo_mv (a := (eI v47)) rfl rfl rfl (o_as tk rfl (Wk.refl _)) ?_
            refine wpo_nil ?_
            refine awp_seq ?_
            refine awp_region rfl ?_
            refine wpo_mv (a := (eI v47)) rfl rfl rfl (o_mv tk rfl (Wk.refl _)) ?_
            refine wpo_lt H46 eB rfl rfl rfl (o_ar tk rfl rfl rfl) fun v49 H48 => ?_
            refine wpo_nil ?_
            refine awp_if H48 rfl (fun H50 => ?_) (fun H50 => ?_)
            · refine awp_seq ?_
              refine awp_region rfl ?_
              refine wpo_mv (a := (eI (1 : Int))) rfl rfl rfl (o_as tk rfl (Wk.refl _)) ?_
              refine wpo_nil ?_
              refine awp_ret ?_
              have hz := hy14 _ (inj_inr H50)
              refine ⟨⟨_, inj_inr H50⟩, ?_⟩
              rw [← hz] at hj10
              have H51 := (show some _ = some _ from hj10)
              obtain rfl := Option.some.inj H51
              exact ⟨_, (eI (1 : Int)), rfl, (.of_eq rfl), .of_eq ((enc_i64 td3 sz3).cut _ _ _), hH.noT⟩
            · refine awp_skip ?_
              refine awp_region rfl ?_
              refine wpo_mv (a := (eI c7)) rfl rfl rfl (o_mv tk rfl (Wk.refl _)) ?_
              refine wpo_lt H50 eI rfl rfl rfl (o_ar tk rfl rfl rfl) fun v53 H52 => ?_
              refine wpo_mv (a := (eI v53)) rfl rfl rfl (o_as tk rfl (Wk.refl _)) ?_
              refine wpo_nil ?_
              exact ⟨(v47, v53), inj_inl H52, (wkf_cons (.of_eq rfl) (wkf_cons (.of_eq rfl) (wkf_cons (.of_eq rfl) (wkf_nil _)))), hH⟩
        · refine awp_region rfl ?_
          refine wpo_mv (a := ((eL 5 e_api_Entry) x0)) rfl rfl rfl (o_mv tk rfl (Wk.refl _)) ?_
          refine wpo_mv (a := (eI c7)) rfl rfl rfl (o_mv tk rfl (Wk.refl _)) ?_
          refine wpo_bd hs24 (fun y => .fptr (e_api_Entry y).cells 0) rfl rfl rfl (fun v27 hv => o_ixa tk hv td60 enc24 rfl rfl) fun v27 hv27 H26 => ?_
          refine wpo_mv (a := (.fptr (c_api_Entry v27) 0)) rfl rfl rfl (o_c tk false rfl (fun _ => rfl)) ?_
          refine wpo_mv (a := (eS v27.Key)) rfl rfl rfl (o_ld tk rfl rfl) ?_
          refine wpo_lt H26 eI rfl rfl rfl (o_len_s tk td9 rfl) fun v29 H28 => ?_
          refine wpo_lt H28 eB rfl rfl rfl (o_ar tk rfl rfl rfl) fun v31 H30 => ?_
          refine wpo_mv (a := (eB v31)) rfl rfl rfl (o_mv tk rfl (Wk.refl _)) ?_
          refine if_split H30 (fun hb H32 => ?_) (fun hb H32 => ?_)
          · subst hb
            refine wpo_skip rfl rfl rfl ?_
            refine wpo_skip rfl rfl rfl ?_
            refine wpo_skip rfl rfl rfl ?_
            refine wpo_skip rfl rfl rfl ?_
            refine wpo_skip rfl rfl rfl ?_
            refine wpo_skip rfl rfl rfl ?_
            refine wpo_skip rfl rfl rfl ?_
            refine wpo_mv (a := (eB true)) rfl rfl rfl (o_pick_t tk rfl rfl (Wk.refl _)) ?_
            refine wpo_nil ?_
            have e := Option.some.inj H32
            subst e
            exact ⟨(wkf_cons (.of_eq rfl) (wkf_cons (.of_eq rfl) (wkf_cons (.of_eq rfl) (wkf_cons (.of_eq rfl) (wkf_nil _))))), hH⟩
          · subst hb
            refine wpo_mv (a := ((eL 5 e_api_Entry) x0)) rfl rfl rfl (o_mv tk rfl (Wk.refl _)) ?_
            refine wpo_mv (a := (eI c7)) rfl rfl rfl (o_mv tk rfl (Wk.refl _)) ?_
            refine wpo_bd H32 (fun y => .fptr (e_api_Entry y).cells 0) rfl rfl rfl (fun v34 hv => o_ixa tk hv td60 enc24 rfl rfl) fun v34 hv34 H33 => ?_
            refine wpo_mv (a := (.fptr (c_api_Entry v34) 4)) rfl rfl rfl (o_c tk false rfl (fun _ => rfl)) ?_
            refine wpo_mv (a := ((eL 1 (@eU .u8 8)) v34.Value)) rfl rfl rfl (o_ld tk rfl rfl) ?_
            refine wpo_lt H33 eI rfl rfl rfl (o_len tk td22 rfl) fun v36 H35 => ?_
            refine wpo_lt H35 eB rfl rfl rfl (o_ar tk rfl rfl rfl) fun v38 H37 => ?_
            refine wpo_mv (a := (eB v38)) rfl rfl rfl (o_pick_f tk rfl rfl (Wk.refl _)) ?_
            refine wpo_nil ?_
            have e := Option.some.inj H37
            subst e
            exact ⟨(wkf_cons (.of_eq rfl) (wkf_cons (.of_eq rfl) (wkf_cons (.of_eq rfl) (wkf_cons (.of_eq rfl) (wkf_nil _))))), hH⟩
      · refine awp_exit ?_
        have hz := hy14 _ (inj_inr H21)
        exact ⟨⟨_, inj_inr H21⟩, (), hz.symm, (wkf_nil _), hH⟩
end Go.Proofs.YtkmlinaofbcbaaaDoor
namespace Go.Proofs.YtkmlinaofbcbaaaDoor
open Go Go.Va
set_option linter.unusedVariables false
set_option linter.unusedSimpArgs false
set_option maxRecDepth 20000
theorem butteryref14_Split_app {x0 : List (BitVec 8)} {r : (List (List (BitVec 8)))} (H : butteryref14_Split x0 = some r) (σ : St)  : ACall Tryd.prog 32 [((eL 1 (@eU .u8 8)) x0)] σ (fun a τ => a = .sl (.own σ.opn.length) 1 (r.map (eL 1 (@eU .u8 8))) ∧ τ = σ.more) := by
  unfold butteryref14_Split at H
  refine ACall.app (fun ρ κ => cutL_enc (enc_l td22 sz22 (enc_u td5 sz5).cut).cut ρ κ r) (acall_start tk Tryd.func32 (by decide) rfl (Nat.le_of_ble_eq_true rfl) ?_)
  have hH := Holds.init σ
  refine awp_seq ?_
  refine awp_region rfl ?_
  refine wpo_mv (a := AV.nils) rfl rfl rfl (o_as tk rfl (Wk.refl _)) ?_
  refine wpo_nil ?_
  refine awp_seq ?_
  refine awp_region rfl ?_
  refine wpo_mv (a := AV.nils) rfl rfl rfl (o_as tk rfl (Wk.refl _)) ?_
  refine wpo_nil ?_
  refine awp_seq ?_
  refine awp_seq ?_
  refine awp_region rfl ?_
  refine wpo_mv (a := (eI (0 : Int))) rfl rfl rfl (o_as tk rfl (Wk.refl _)) ?_
  refine wpo_nil ?_
  refine awp_block ?_
  refine AWP.tokN hH 3 1 rfl fun tk3 τ hH => ?_
  obtain ⟨s11, hs5, hj6⟩ := Option.bind_eq_some_iff.1 H
  refine awp_cutx 0 (fun fr τ => ∃ tk_3, WkF fr (fm [(3, (eT tk_3 1 (eL 1 (@eU .u8 8)) s11))]) ∧ Holds σ [] [tk_3] τ) ?_ ?_
  · rintro fr τ ⟨tk_3, hfr, hH⟩
    have H42 := hj6
    refine AWP.fm [(3, (eT tk_3 1 (eL 1 (@eU .u8 8)) s11))] hfr ?_
    refine awp_seq ?_
    refine awp_region rfl ?_
    refine wpo_mv (a := (eT tk_3 1 (eL 1 (@eU .u8 8)) s11)) rfl rfl rfl (o_mv tk rfl (Wk.refl _)) ?_
    refine wpo_mv (a := (eT tk_3 1 (eL 1 (@eU .u8 8)) s11)) rfl rfl rfl (o_as tk rfl (Wk.refl _)) ?_
    refine wpo_nil ?_
    refine awp_ret ?_
    obtain rfl := Option.some.inj H42
    exact ⟨_, (eT tk_3 1 (eL 1 (@eU .u8 8)) s11), rfl, .of_eq rfl, tk_3, rfl, hH⟩
  · refine awp_loopO (body := fun s => butteryref14_Split_b0 x0 s.1 s.2) hs5 (fun (s : (List (List (BitVec 8))) × Int) fr τ => ∃ tk_3, WkF fr (fm [(0, ((eL 1 (@eU .u8 8)) x0)), (3, (eT tk_3 1 (eL 1 (@eU .u8 8)) s.1)), (4, (eI s.2))]) ∧ Holds σ [] [tk_3] τ) ⟨tk3, (wkf_cons (.of_eq rfl) (wkf_cons (.of_eq rfl) (wkf_cons (.of_eq rfl) (wkf_nil _)))), hH⟩ ?_
    rintro ⟨c1, c2⟩ fr τ y7 ⟨tk_3, hfr, hH⟩ hb9 hy10
    have H12 : butteryref14_Split_b0 x0 c1 c2 = some y7 := hb9
    unfold butteryref14_Split_b0 at H12
    refine AWP.fm [(0, ((eL 1 (@eU .u8 8)) x0)), (3, (eT tk_3 1 (eL 1 (@eU .u8 8)) c1)), (4, (eI c2))] hfr ?_
    have hH : Holds σ [] [tk_3] τ := hH
    refine awp_seq ?_
    refine awp_seq ?_
    refine awp_region rfl ?_
    refine wpo_mv (a := (eI c2)) rfl rfl rfl (o_mv tk rfl (Wk.refl _)) ?_
    refine wpo_mv (a := ((eL 1 (@eU .u8 8)) x0)) rfl rfl rfl (o_mv tk rfl (Wk.refl _)) ?_
    refine wpo_lt H12 eI rfl rfl rfl (o_len tk td22 rfl) fun v14 H13 => ?_
    refine wpo_lt H13 eB rfl rfl rfl (o_ar tk rfl rfl rfl) fun v16 H15 => ?_
    refine wpo_nil ?_
    refine awp_if H15 rfl (fun H17 => ?_) (fun H17 => ?_)
    · refine awp_skip ?_
      refine awp_seq ?_
      refine awp_block ?_
      refine awp_seq ?_
      refine awp_region rfl ?_
      refine wpo_mv (a := (eI c2)) rfl rfl rfl (o_mv tk rfl (Wk.refl _)) ?_
      refine wpo_lt H17 eI rfl rfl rfl (o_ar tk rfl rfl rfl) fun v19 H18 => ?_
      refine wpo_mv (a := (eI v19)) rfl rfl rfl (o_as tk rfl (Wk.refl _)) ?_
      refine wpo_nil ?_
      refine awp_seq ?_
      refine awp_seq ?_
      refine awp_region rfl ?_
      refine wpo_mv (a := (eI v19)) rfl rfl rfl (o_mv tk rfl (Wk.refl _)) ?_
      refine wpo_mv (a := ((eL 1 (@eU .u8 8)) x0)) rfl rfl rfl (o_mv tk rfl (Wk.refl _)) ?_
      refine wpo_lt H18 eI rfl rfl rfl (o_len tk td22 rfl) fun v21 H20 => ?_
      refine wpo_lt H20 eB rfl rfl rfl (o_ar tk rfl rfl rfl) fun v23 H22 => ?_
      refine wpo_nil ?_
      obtain ⟨s24, hs26, hj27⟩ := Option.bind_eq_some_iff.1 H22
      refine awp_cutn (fun fr τ => ∃ tk_3, WkF fr (fm [(0, ((eL 1 (@eU .u8 8)) x0)), (3, (eT tk_3 1 (eL 1 (@eU .u8 8)) c1)), (4, (eI c2)), (5, (eI s24))]) ∧ Holds σ [] [tk_3] τ) ?_ ?_
      · rintro fr τ ⟨tk_3, hfr, hH⟩
        have H31 := hj27
        refine AWP.fm [(0, ((eL 1 (@eU .u8 8)) x0)), (3, (eT tk_3 1 (eL 1 (@eU .u8 8)) c1)), (4, (eI c2)), (5, (eI s24))] hfr ?_
        refine awp_region rfl ?_
        refine wpo_mv (a := (eT tk_3 1 (eL 1 (@eU .u8 8)) c1)) rfl rfl rfl (o_mv tk rfl (Wk.refl _)) ?_
        refine wpo_mv (a := ((eL 1 (@eU .u8 8)) x0)) rfl rfl rfl (o_mv tk rfl (Wk.refl _)) ?_
        refine wpo_mv (a := (eI c2)) rfl rfl rfl (o_mv tk rfl (Wk.refl _)) ?_
        refine wpo_mv (a := (eI s24)) rfl rfl rfl (o_mv tk rfl (Wk.refl _)) ?_
        refine wpo_bd H31 (eL 1 (@eU .u8 8)) rfl rfl rfl (fun v33 hv => o_cut tk hv td22 (enc_u td5 sz5) rfl rfl rfl) fun v33 hv33 H32 => ?_
        refine wpo_lt H32 (eF 1 (eL 1 (@eU .u8 8))) rfl rfl rfl (o_c tk false rfl (fun _ => rfl)) fun v35 H34 => ?_
        obtain ⟨v37, hv38, H36⟩ := Option.bind_eq_some_iff.1 H34
        refine wpo_a (av := fun t => eT t 1 (eL 1 (@eU .u8 8)) v37) rfl rfl rfl (h_app tk hH 0 hv38 rfl td62 ty22 rfl (by decide) rfl (src_l td62 rfl)) fun tk39 τ hH => ?_
        refine wpo_mv (a := (eT tk39 1 (eL 1 (@eU .u8 8)) v37)) rfl rfl rfl (o_as tk rfl (Wk.refl _)) ?_
        refine wpo_nil ?_
        refine awp_region rfl ?_
        refine wpo_mv (a := (eI c2)) rfl rfl rfl (o_mv tk rfl (Wk.refl _)) ?_
        refine wpo_lt H36 eI rfl rfl rfl (o_ar tk rfl rfl rfl) fun v41 H40 => ?_
        refine wpo_mv (a := (eI v41)) rfl rfl rfl (o_as tk rfl (Wk.refl _)) ?_
        refine wpo_nil ?_
        exact ⟨(v37, v41), inj_inl H40, tk39, (wkf_cons (.of_eq rfl) (wkf_cons (.of_eq rfl) (wkf_cons (.of_eq rfl) (wkf_nil _)))), hH⟩
      · refine awp_if hs26 rfl (fun H28 => ?_) (fun H28 => ?_)
        · refine awp_region rfl ?_
          refine wpo_mv (a := ((eL 1 (@eU .u8 8)) x0)) rfl rfl rfl (o_mv tk rfl (Wk.refl _)) ?_
          refine wpo_lt H28 eI rfl rfl rfl (o_len tk td22 rfl) fun v30 H29 => ?_
          refine wpo_mv (a := (eI v30)) rfl rfl rfl (o_as tk rfl (Wk.refl _)) ?_
          refine wpo_nil ?_
          have e := Option.some.inj H29
          subst e
          exact ⟨tk_3, (wkf_cons (.of_eq rfl) (wkf_cons (.of_eq rfl) (wkf_cons (.of_eq rfl) (wkf_cons (.of_eq rfl) (wkf_nil _))))), hH⟩
        · refine awp_skip ?_
          have e := Option.some.inj H28
          subst e
          exact ⟨tk_3, (wkf_cons (.of_eq rfl) (wkf_cons (.of_eq rfl) (wkf_cons (.of_eq rfl) (wkf_cons (.of_eq rfl) (wkf_nil _))))), hH⟩
    · refine awp_exit ?_
      have hz := hy10 _ (inj_inr H17)
      subst hz
      exact ⟨⟨_, inj_inr H17⟩, tk_3, (wkf_cons (.of_eq rfl) (wkf_nil _)), hH⟩
theorem butteryref14_Split_ok {x0 : List (BitVec 8)} {r : (List (List (BitVec 8)))} (H : butteryref14_Split x0 = some r) (σ : St) : ACall Tryd.prog 32 [((eL 1 (@eU .u8 8)) x0)] σ (fun a τ => a = (eL 1 (eL 1 (@eU .u8 8))) r ∧ τ = σ) := (butteryref14_Split_app H σ).unapp (fun ρ κ => cutL_enc (enc_l td22 sz22 (enc_u td5 sz5).cut).cut ρ κ r)
end Go.Proofs.YtkmlinaofbcbaaaDoor
namespace Go.Proofs.YtkmlinaofbcbaaaDoor
open Go Go.Va
set_option linter.unusedVariables false
set_option linter.unusedSimpArgs false
set_option maxRecDepth 20000
theorem butteryref14_Join_app {x0 : List (List (BitVec 8))} {r : (List (BitVec 8))} (H : butteryref14_Join x0 = some r) (σ : St)  : ACall Tryd.prog 97 [((eL 1 (eL 1 (@eU .u8 8))) x0)] σ (fun a τ => a = .sl (.own σ.opn.length) 1 (r.map (@eU .u8 8)) ∧ τ = σ.more) := by
  unfold butteryref14_Join at H
  refine ACall.app (fun ρ κ => cutL_enc (enc_u td5 sz5).cut ρ κ r) (acall_start tk Tryd.func97 (by decide) rfl (Nat.le_of_ble_eq_true rfl) ?_)
  have hH := Holds.init σ
  refine awp_seq ?_
  refine awp_region rfl ?_
  refine wpo_mv (a := AV.nils) rfl rfl rfl (o_as tk rfl (Wk.refl _)) ?_
  refine wpo_nil ?_
  refine awp_seq ?_
  refine awp_region rfl ?_
  refine wpo_mv (a := AV.nils) rfl rfl rfl (o_as tk rfl (Wk.refl _)) ?_
  refine wpo_nil ?_
  refine awp_seq ?_
  refine awp_seq ?_
  refine awp_region rfl ?_
  refine wpo_mv (a := (eI (0 : Int))) rfl rfl rfl (o_as tk rfl (Wk.refl _)) ?_
  refine wpo_nil ?_
  refine awp_block ?_
  refine AWP.tokN hH 3 1 rfl fun tk3 τ hH => ?_
  obtain ⟨s11, hs5, hj6⟩ := Option.bind_eq_some_iff.1 H
  refine awp_cutx 0 (fun fr τ => ∃ tk_3, WkF fr (fm [(3, (eT tk_3 1 (@eU .u8 8) s11))]) ∧ Holds σ [] [tk_3] τ) ?_ ?_
  · rintro fr τ ⟨tk_3, hfr, hH⟩
    have H26 := hj6
    refine AWP.fm [(3, (eT tk_3 1 (@eU .u8 8) s11))] hfr ?_
    refine awp_seq ?_
    refine awp_region rfl ?_
    refine wpo_mv (a := (eT tk_3 1 (@eU .u8 8) s11)) rfl rfl rfl (o_mv tk rfl (Wk.refl _)) ?_
    refine wpo_mv (a := (eT tk_3 1 (@eU .u8 8) s11)) rfl rfl rfl (o_as tk rfl (Wk.refl _)) ?_
    refine wpo_nil ?_
    refine awp_ret ?_
    obtain rfl := Option.some.inj H26
    exact ⟨_, (eT tk_3 1 (@eU .u8 8) s11), rfl, .of_eq rfl, tk_3, rfl, hH⟩
  · refine awp_loopO (body := fun s => butteryref14_Join_b0 x0 s.1 s.2) hs5 (fun (s : (List (BitVec 8)) × Int) fr τ => ∃ tk_3, WkF fr (fm [(0, ((eL 1 (eL 1 (@eU .u8 8))) x0)), (3, (eT tk_3 1 (@eU .u8 8) s.1)), (4, (eI s.2))]) ∧ Holds σ [] [tk_3] τ) ⟨tk3, (wkf_cons (.of_eq rfl) (wkf_cons (.of_eq rfl) (wkf_cons (.of_eq rfl) (wkf_nil _)))), hH⟩ ?_
    rintro ⟨c1, c2⟩ fr τ y7 ⟨tk_3, hfr, hH⟩ hb9 hy10
    have H12 : butteryref14_Join_b0 x0 c1 c2 = some y7 := hb9
    unfold butteryref14_Join_b0 at H12
    refine AWP.fm [(0, ((eL 1 (eL 1 (@eU .u8 8))) x0)), (3, (eT tk_3 1 (@eU .u8 8) c1)), (4, (eI c2))] hfr ?_
    have hH : Holds σ [] [tk_3] τ := hH
    refine awp_seq ?_
    refine awp_seq ?_
    refine awp_region rfl ?_
    refine wpo_mv (a := (eI c2)) rfl rfl rfl (o_mv tk rfl (Wk.refl _)) ?_
    refine wpo_mv (a := ((eL 1 (eL 1 (@eU .u8 8))) x0)) rfl rfl rfl (o_mv tk rfl (Wk.refl _)) ?_
    refine wpo_lt H12 eI rfl rfl rfl (o_len tk td62 rfl) fun v14 H13 => ?_
    refine wpo_lt H13 eB rfl rfl rfl (o_ar tk rfl rfl rfl) fun v16 H15 => ?_
    refine wpo_nil ?_
    refine awp_if H15 rfl (fun H17 => ?_) (fun H17 => ?_)
    · refine awp_skip ?_
      refine awp_seq ?_
      refine awp_block ?_
      refine awp_region rfl ?_
      refine wpo_mv (a := (eT tk_3 1 (@eU .u8 8) c1)) rfl rfl rfl (o_mv tk rfl (Wk.refl _)) ?_
      refine wpo_mv (a := ((eL 1 (eL 1 (@eU .u8 8))) x0)) rfl rfl rfl (o_mv tk rfl (Wk.refl _)) ?_
      refine wpo_mv (a := (eI c2)) rfl rfl rfl (o_mv tk rfl (Wk.refl _)) ?_
      refine wpo_bd H17 (fun y => .fptr ((eL 1 (@eU .u8 8)) y).cells 0) rfl rfl rfl (fun v19 hv => o_ixa tk hv td62 (enc_l td22 sz22 (enc_u td5 sz5).cut) rfl rfl) fun v19 hv19 H18 => ?_
      refine wpo_mv (a := ((eL 1 (@eU .u8 8)) v19)) rfl rfl rfl (o_ld_e tk (enc_l td22 sz22 (enc_u td5 sz5).cut) rfl rfl) ?_
      obtain ⟨v21, hv22, H20⟩ := Option.bind_eq_some_iff.1 H18
      refine wpo_a (av := fun t => eT t 1 (@eU .u8 8) v21) rfl rfl rfl (h_app tk hH 0 hv22 rfl td22 ty5 rfl (by decide) rfl (src_l td22 rfl)) fun tk23 τ hH => ?_
      refine wpo_mv (a := (eT tk23 1 (@eU .u8 8) v21)) rfl rfl rfl (o_as tk rfl (Wk.refl _)) ?_
      refine wpo_nil ?_
      refine awp_region rfl ?_
      refine wpo_mv (a := (eI c2)) rfl rfl rfl (o_mv tk rfl (Wk.refl _)) ?_
      refine wpo_lt H20 eI rfl rfl rfl (o_ar tk rfl rfl rfl) fun v25 H24 => ?_
      refine wpo_mv (a := (eI v25)) rfl rfl rfl (o_as tk rfl (Wk.refl _)) ?_
      refine wpo_nil ?_
      exact ⟨(v21, v25), inj_inl H24, tk23, (wkf_cons (.of_eq rfl) (wkf_cons (.of_eq rfl) (wkf_cons (.of_eq rfl) (wkf_nil _)))), hH⟩
    · refine awp_exit ?_
      have hz := hy10 _ (inj_inr H17)
      subst hz
      exact ⟨⟨_, inj_inr H17⟩, tk_3, (wkf_cons (.of_eq rfl) (wkf_nil _)), hH⟩
theorem butteryref14_Join_ok {x0 : List (List (BitVec 8))} {r : (List (BitVec 8))} (H : butteryref14_Join x0 = some r) (σ : St) : ACall Tryd.prog 97 [((eL 1 (eL 1 (@eU .u8 8))) x0)] σ (fun a τ => a = (eL 1 (@eU .u8 8)) r ∧ τ = σ) := (butteryref14_Join_app H σ).unapp (fun ρ κ => cutL_enc (enc_u td5 sz5).cut ρ κ r)
end Go.Proofs.YtkmlinaofbcbaaaDoor
namespace Go.Proofs.YtkmlinaofbcbaaaDoor
open Go Go.Va
set_option linter.unusedVariables false
set_option linter.unusedSimpArgs false
set_option maxRecDepth 20000
theorem butteryref02_fail_ok {x0 : butteryref02_Reader} {x1 : Int} {r : butteryref02_Reader} (H : butteryref02_fail x0 x1 = some r) (σ : St)  : ACall Tryd.prog 124 [(e_butteryref02_Reader x0), (eI x1)] σ (fun a τ => a = e_butteryref02_Reader r ∧ τ = σ) := by
  unfold butteryref02_fail at H
  refine ACall.pure (acall_start tk Tryd.func124 (by decide) rfl (Nat.le_of_ble_eq_true rfl) ?_)
  have hH := Holds.init σ
  refine awp_seq ?_
  refine awp_region rfl ?_
  refine wpo_mv (a := (.fptr (c_butteryref02_Reader x0) 0)) rfl rfl rfl (o_boxf tk rfl (.of_eq rfl) (b := (e_butteryref02_Reader x0)) (enc127.flat _)) ?_
  refine wpo_a (av := fun id => .ref id 0) rfl rfl rfl (h_alloc tk hH ty127 [AV.nils, (eI z_butteryref02_Reader.At), (eI z_butteryref02_Reader.Code)] rfl) fun id1 τ ⟨hH, n2⟩ => ?_
  refine wpo_nil ?_
  refine awp_seq ?_
  refine awp_region rfl ?_
  refine wpo_mv (a := (e_butteryref02_Reader x0)) rfl rfl rfl (o_ld tk rfl rfl) ?_
  refine wpo_a (av := fun id => .ref id 0) rfl rfl rfl (h_alloc tk hH ty127 [AV.nils, (eI z_butteryref02_Reader.At), (eI z_butteryref02_Reader.Code)] rfl) fun id3 τ ⟨hH, n4⟩ => ?_
  refine wpo_z rfl rfl (h_st tk hH 0 rfl ty127 (by simp) rfl rfl (.of_eq rfl) (b := (e_butteryref02_Reader x0)) (enc127.flat _) rfl (Nat.le_of_ble_eq_true rfl) (c_butteryref02_Reader (x0 : butteryref02_Reader)) rfl) fun τ hH => ?_
  refine wpo_nil ?_
  refine awp_seq ?_
  refine awp_seq ?_
  refine awp_region rfl ?_
  refine wpo_mv (a := (.fptr (c_butteryref02_Reader x0) 2)) rfl rfl rfl (o_c tk false rfl (fun _ => rfl)) ?_
  refine wpo_mv (a := (eI x0.Code)) rfl rfl rfl (o_ld tk rfl rfl) ?_
  refine wpo_lt H eB rfl rfl rfl (o_ar tk rfl rfl rfl) fun v7 H6 => ?_
  refine wpo_nil ?_
  refine awp_if H6 rfl (fun H8 => ?_) (fun H8 => ?_)
  · refine awp_region rfl ?_
    refine wpo_mv (a := (eI x1)) rfl rfl rfl (o_mv tk rfl (Wk.refl _)) ?_
    refine wpo_mv (a := (.ref id3 2)) rfl rfl rfl (o_c tk false rfl (fun _ => rfl)) ?_
    obtain ⟨c10, hc11, H9⟩ := lt_ex H8
    refine wpo_z rfl rfl (h_st tk hH 0 rfl ty33 (by simp) rfl rfl (.of_eq rfl) (b := (eI x1)) rfl rfl (Nat.le_of_ble_eq_true rfl) (c_butteryref02_Reader c10) (by rw [← hc11]; rfl)) fun τ hH => ?_
    refine wpo_nil ?_
    refine awp_seq ?_
    refine awp_region rfl ?_
    refine wpo_rd (a := (e_butteryref02_Reader c10)) rfl rfl rfl (h_ld tk hH 0 rfl rfl rfl) ?_
    refine wpo_z rfl rfl (h_st tk hH 1 rfl ty127 (by simp) rfl rfl (.of_eq rfl) (b := (e_butteryref02_Reader c10)) (enc127.flat _) rfl (Nat.le_of_ble_eq_true rfl) (c_butteryref02_Reader (c10 : butteryref02_Reader)) rfl) fun τ hH => ?_
    refine wpo_nil ?_
    refine awp_ret ?_
    obtain rfl := Option.some.inj H9
    exact ⟨_, (e_butteryref02_Reader (c10 : butteryref02_Reader)), (ares_1 (ares_cell hH 1 rfl rfl rfl)), (.of_eq rfl), .of_eq (enc127.cut _ _ _), ((hH.noT.drop n4).drop n2)⟩
  · refine awp_skip ?_
    refine awp_seq ?_
    refine awp_region rfl ?_
    refine wpo_rd (a := (e_butteryref02_Reader (x0 : butteryref02_Reader))) rfl rfl rfl (h_ld tk hH 0 rfl rfl rfl) ?_
    refine wpo_z rfl rfl (h_st tk hH 1 rfl ty127 (by simp) rfl rfl (.of_eq rfl) (b := (e_butteryref02_Reader (x0 : butteryref02_Reader))) (enc127.flat _) rfl (Nat.le_of_ble_eq_true rfl) (c_butteryref02_Reader ((x0 : butteryref02_Reader) : butteryref02_Reader)) rfl) fun τ hH => ?_
    refine wpo_nil ?_
    refine awp_ret ?_
    obtain rfl := Option.some.inj H8
    exact ⟨_, (e_butteryref02_Reader ((x0 : butteryref02_Reader) : butteryref02_Reader)), (ares_1 (ares_cell hH 1 rfl rfl rfl)), (.of_eq rfl), .of_eq (enc127.cut _ _ _), ((hH.noT.drop n4).drop n2)⟩
end Go.Proofs.YtkmlinaofbcbaaaDoor
namespace Go.Proofs.YtkmlinaofbcbaaaDoor
open Go Go.Va
set_option linter.unusedVariables false
set_option linter.unusedSimpArgs false
set_option maxRecDepth 20000
theorem butteryref02_Number_ok {x0 : butteryref02_Reader} {x1 : Int} {r : butteryref02_Reader × Int} (H : butteryref02_Number x0 x1 = some r) (σ : St)  : ACall Tryd.prog 87 [(e_butteryref02_Reader x0), (eI x1)] σ (fun a τ => a = .tup [e_butteryref02_Reader r.1, eI r.2] ∧ τ = σ) := by
  unfold butteryref02_Number at H
  refine ACall.pure (acall_start tk Tryd.func87 (by decide) rfl (Nat.le_of_ble_eq_true rfl) ?_)
  have hH := Holds.init σ
  refine awp_seq ?_
  refine awp_region rfl ?_
  refine wpo_mv (a := (.fptr (c_butteryref02_Reader x0) 0)) rfl rfl rfl (o_boxf tk rfl (.of_eq rfl) (b := (e_butteryref02_Reader x0)) (enc127.flat _)) ?_
  refine wpo_a (av := fun id => .ref id 0) rfl rfl rfl (h_alloc tk hH ty127 [AV.nils, (eI z_butteryref02_Reader.At), (eI z_butteryref02_Reader.Code)] rfl) fun id1 τ ⟨hH, n2⟩ => ?_
  refine wpo_mv (a := (eI (0 : Int))) rfl rfl rfl (o_as tk rfl (Wk.refl _)) ?_
  refine wpo_nil ?_
  refine awp_seq ?_
  refine awp_seq ?_
  refine awp_region rfl ?_
  refine wpo_mv (a := (.fptr (c_butteryref02_Reader x0) 2)) rfl rfl rfl (o_c tk false rfl (fun _ => rfl)) ?_
  refine wpo_mv (a := (eI x0.Code)) rfl rfl rfl (o_ld tk rfl rfl) ?_
  refine wpo_lt H eB rfl rfl rfl (o_ar tk rfl rfl rfl) fun v4 H3 => ?_
  refine wpo_nil ?_
  refine awp_if H3 rfl (fun H5 => ?_) (fun H5 => ?_)
  · refine awp_seq ?_
    refine awp_region rfl ?_
    refine wpo_mv (a := (e_butteryref02_Reader x0)) rfl rfl rfl (o_ld tk rfl rfl) ?_
    refine wpo_z rfl rfl (h_st tk hH 0 rfl ty127 (by simp) rfl rfl (.of_eq rfl) (b := (e_butteryref02_Reader x0)) (enc127.flat _) rfl (Nat.le_of_ble_eq_true rfl) (c_butteryref02_Reader (x0 : butteryref02_Reader)) rfl) fun τ hH => ?_
    refine wpo_mv (a := (eI (0 : Int))) rfl rfl rfl (o_as tk rfl (Wk.refl _)) ?_
    refine wpo_nil ?_
    refine awp_ret ?_
    obtain rfl := Option.some.inj H5
    exact ⟨_, (.tup [(e_butteryref02_Reader (x0 : butteryref02_Reader)), (eI (0 : Int))]), (ares_2 (ares_cell hH 0 rfl rfl rfl) rfl), (wk_tup (.cons (.of_eq rfl) (.cons (.of_eq rfl) .nil))), .of_eq (by simp only [cutAV, cutL, enc127.cut _ _ _, (enc_i64 td3 sz3).cut _ _ _]), (hH.noT.drop n2)⟩
  · refine awp_skip ?_
    refine awp_seq ?_
    refine awp_region rfl ?_
    refine wpo_mv (a := (eI (0 : Int))) rfl rfl rfl (o_as tk rfl (Wk.refl _)) ?_
    refine wpo_nil ?_
    refine awp_seq ?_
    refine awp_seq ?_
    refine awp_region rfl ?_
    refine wpo_mv (a := (.fptr (c_butteryref02_Reader x0) 1)) rfl rfl rfl (o_c tk false rfl (fun _ => rfl)) ?_
    refine wpo_mv (a := (eI x0.At)) rfl rfl rfl (o_ld tk rfl rfl) ?_
    refine wpo_mv (a := (eI x0.At)) rfl rfl rfl (o_as tk rfl (Wk.refl _)) ?_
    refine wpo_nil ?_
    refine awp_block ?_
    obtain ⟨o9, hs10, hj11⟩ := Option.bind_eq_some_iff.1 H5
    refine awp_cutx 0 (fun fr τ => ∃ s16 : Unit, o9 = .inl s16 ∧ WkF fr (fm [(2, (.fptr (c_butteryref02_Reader x0) 0)), (4, (.ref id1 0))]) ∧ Holds σ [(id1, [AV.nils, (eI z_butteryref02_Reader.At), (eI z_butteryref02_Reader.Code)])] [] τ) ?_ ?_
    · rintro fr τ ⟨s16, rfl, hfr, hH⟩
      have H79 := hj11
      simp only [Sum.elim_inl] at H79
      refine AWP.fm [(2, (.fptr (c_butteryref02_Reader x0) 0)), (4, (.ref id1 0))] hfr ?_
      refine awp_seq ?_
      refine awp_region rfl ?_
      refine wpo_mv (a := (e_butteryref02_Reader x0)) rfl rfl rfl (o_ld tk rfl rfl) ?_
      refine wpo_bd H79 e_butteryref02_Reader rfl rfl rfl (fun v81 hv => OpP.of_call rfl rfl (.cons (.of_eq rfl) (.cons (.of_eq rfl) .nil)) (butteryref02_fail_ok hv)) fun v81 hv81 H80 => ?_
      refine wpo_z rfl rfl (h_st tk hH 0 rfl ty127 (by simp) rfl rfl (.of_eq rfl) (b := (e_butteryref02_Reader v81)) (enc127.flat _) rfl (Nat.le_of_ble_eq_true rfl) (c_butteryref02_Reader (v81 : butteryref02_Reader)) rfl) fun τ hH => ?_
      refine wpo_mv (a := (eI (0 : Int))) rfl rfl rfl (o_as tk rfl (Wk.refl _)) ?_
      refine wpo_nil ?_
      refine awp_ret ?_
      obtain rfl := Option.some.inj H80
      exact ⟨_, (.tup [(e_butteryref02_Reader (v81 : butteryref02_Reader)), (eI (0 : Int))]), (ares_2 (ares_cell hH 0 rfl rfl rfl) rfl), (wk_tup (.cons (.of_eq rfl) (.cons (.of_eq rfl) .nil))), .of_eq (by simp only [cutAV, cutL, enc127.cut _ _ _, (enc_i64 td3 sz3).cut _ _ _]), (hH.noT.drop n2)⟩
    · refine awp_loopO (body := fun s => butteryref02_Number_b0 x0 x1 s.1 s.2) hs10 (fun (s : Int × Int) fr τ => WkF fr (fm [(1, (eI x1)), (2, (.fptr (c_butteryref02_Reader x0) 0)), (4, (.ref id1 0)), (6, (eI s.1)), (7, (eI s.2))]) ∧ Holds σ [(id1, [AV.nils, (eI z_butteryref02_Reader.At), (eI z_butteryref02_Reader.Code)])] [] τ) ⟨(wkf_cons (.of_eq rfl) (wkf_cons (.of_eq rfl) (wkf_cons (.of_eq rfl) (wkf_cons (.of_eq rfl) (wkf_cons (.of_eq rfl) (wkf_nil _)))))), hH⟩ ?_
      rintro ⟨c7, c8⟩ fr τ y12 ⟨hfr, hH⟩ hb14 hy15
      have H17 : butteryref02_Number_b0 x0 x1 c7 c8 = some y12 := hb14
      unfold butteryref02_Number_b0 at H17
      refine AWP.fm [(1, (eI x1)), (2, (.fptr (c_butteryref02_Reader x0) 0)), (4, (.ref id1 0)), (6, (eI c7)), (7, (eI c8))] hfr ?_
      have hH : Holds σ [(id1, [AV.nils, (eI z_butteryref02_Reader.At), (eI z_butteryref02_Reader.Code)])] [] τ := hH
      refine awp_seq ?_
      refine awp_seq ?_
      refine awp_region rfl ?_
      refine wpo_mv (a := (eI c8)) rfl rfl rfl (o_mv tk rfl (Wk.refl _)) ?_
      refine wpo_mv (a := (.fptr (c_butteryref02_Reader x0) 0)) rfl rfl rfl (o_c tk false rfl (fun _ => rfl)) ?_
      refine wpo_mv (a := ((eL 1 (@eU .u8 8)) x0.B)) rfl rfl rfl (o_ld tk rfl rfl) ?_
      refine wpo_lt H17 eI rfl rfl rfl (o_len tk td22 rfl) fun v19 H18 => ?_
      refine wpo_lt H18 eB rfl rfl rfl (o_ar tk rfl rfl rfl) fun v21 H20 => ?_
      refine wpo_nil ?_
      refine awp_if H20 rfl (fun H22 => ?_) (fun H22 => ?_)
      · refine awp_skip ?_
        refine awp_seq ?_
        refine awp_block ?_
        refine awp_seq ?_
        refine awp_region rfl ?_
        refine wpo_mv (a := (.fptr (c_butteryref02_Reader x0) 0)) rfl rfl rfl (o_c tk false rfl (fun _ => rfl)) ?_
        refine wpo_mv (a := ((eL 1 (@eU .u8 8)) x0.B)) rfl rfl rfl (o_ld tk rfl rfl) ?_
        refine wpo_mv (a := (eI c8)) rfl rfl rfl (o_mv tk rfl (Wk.refl _)) ?_
        refine wpo_bd H22 (fun y => .fptr ((@eU .u8 8) y).cells 0) rfl rfl rfl (fun v24 hv => o_ixa tk hv td22 (enc_u td5 sz5) rfl rfl) fun v24 hv24 H23 => ?_
        refine wpo_mv (a := ((@eU .u8 8) v24)) rfl rfl rfl (o_ld_e tk (enc_u td5 sz5) rfl rfl) ?_
        refine wpo_lt H23 eI rfl rfl rfl (o_cv_ui tk td5 td3 (by decide) rfl) fun v26 H25 => ?_
        refine wpo_mv (a := (eI v26)) rfl rfl rfl (o_as tk rfl (Wk.refl _)) ?_
        refine wpo_nil ?_
        refine awp_seq ?_
        refine awp_seq ?_
        obtain ⟨s27, hs29, hj30⟩ := Option.bind_eq_some_iff.1 H25
        refine awp_cutn (fun fr τ => WkF fr (fm [(1, (eI x1)), (2, (.fptr (c_butteryref02_Reader x0) 0)), (4, (.ref id1 0)), (6, (eI c7)), (7, (eI c8)), (8, (eI v26)), (36, (eB s27))]) ∧ Holds σ [(id1, [AV.nils, (eI z_butteryref02_Reader.At), (eI z_butteryref02_Reader.Code)])] [] τ) ?_ ?_
        · rintro fr τ ⟨hfr, hH⟩
          have H36 := hj30
          refine AWP.fm [(1, (eI x1)), (2, (.fptr (c_butteryref02_Reader x0) 0)), (4, (.ref id1 0)), (6, (eI c7)), (7, (eI c8)), (8, (eI v26)), (36, (eB s27))] hfr ?_
          refine awp_if H36 rfl (fun H37 => ?_) (fun H37 => ?_)
          · refine awp_seq ?_
            refine awp_region rfl ?_
            refine wpo_mv (a := (e_butteryref02_Reader x0)) rfl rfl rfl (o_ld tk rfl rfl) ?_
            refine wpo_bd H37 e_butteryref02_Reader rfl rfl rfl (fun v39 hv => OpP.of_call rfl rfl (.cons (.of_eq rfl) (.cons (.of_eq rfl) .nil)) (butteryref02_fail_ok hv)) fun v39 hv39 H38 => ?_
            refine wpo_z rfl rfl (h_st tk hH 0 rfl ty127 (by simp) rfl rfl (.of_eq rfl) (b := (e_butteryref02_Reader v39)) (enc127.flat _) rfl (Nat.le_of_ble_eq_true rfl) (c_butteryref02_Reader (v39 : butteryref02_Reader)) rfl) fun τ hH => ?_
            refine wpo_mv (a := (eI (0 : Int))) rfl rfl rfl (o_as tk rfl (Wk.refl _)) ?_
            refine wpo_nil ?_
            refine awp_ret ?_
            have hz := hy15 _ (inj_inr H38)
            refine ⟨⟨_, inj_inr H38⟩, ?_⟩
            rw [← hz] at hj11
            have H41 := (show some _ = some _ from hj11)
            obtain rfl := Option.some.inj H41
            exact ⟨_, (.tup [(e_butteryref02_Reader (v39 : butteryref02_Reader)), (eI (0 : Int))]), (ares_2 (ares_cell hH 0 rfl rfl rfl) rfl), (wk_tup (.cons (.of_eq rfl) (.cons (.of_eq rfl) .nil))), .of_eq (by simp only [cutAV, cutL, enc127.cut _ _ _, (enc_i64 td3 sz3).cut _ _ _]), (hH.noT.drop n2)⟩
          · refine awp_skip ?_
            refine awp_seq ?_
            refine awp_seq ?_
            refine awp_region rfl ?_
            refine wpo_mv (a := (eI c7)) rfl rfl rfl (o_mv tk rfl (Wk.refl _)) ?_
            refine wpo_mv (a := (eI x1)) rfl rfl rfl (o_mv tk rfl (Wk.refl _)) ?_
            refine wpo_lt H37 eI rfl rfl rfl (o_quo tk (z := (128 : Int)) rfl rfl rfl) fun v43 H42 => ?_
            refine wpo_lt H42 eB rfl rfl rfl (o_ar tk rfl rfl rfl) fun v45 H44 => ?_
            refine wpo_nil ?_
            refine awp_if H44 rfl (fun H46 => ?_) (fun H46 => ?_)
            · refine awp_seq ?_
              refine awp_region rfl ?_
              refine wpo_mv (a := (e_butteryref02_Reader x0)) rfl rfl rfl (o_ld tk rfl rfl) ?_
              refine wpo_bd H46 e_butteryref02_Reader rfl rfl rfl (fun v48 hv => OpP.of_call rfl rfl (.cons (.of_eq rfl) (.cons (.of_eq rfl) .nil)) (butteryref02_fail_ok hv)) fun v48 hv48 H47 => ?_
              refine wpo_z rfl rfl (h_st tk hH 0 rfl ty127 (by simp) rfl rfl (.of_eq rfl) (b := (e_butteryref02_Reader v48)) (enc127.flat _) rfl (Nat.le_of_ble_eq_true rfl) (c_butteryref02_Reader (v48 : butteryref02_Reader)) rfl) fun τ hH => ?_
              refine wpo_mv (a := (eI (0 : Int))) rfl rfl rfl (o_as tk rfl (Wk.refl _)) ?_
              refine wpo_nil ?_
              refine awp_ret ?_
              have hz := hy15 _ (inj_inr H47)
              refine ⟨⟨_, inj_inr H47⟩, ?_⟩
              rw [← hz] at hj11
              have H50 := (show some _ = some _ from hj11)
              obtain rfl := Option.some.inj H50
              exact ⟨_, (.tup [(e_butteryref02_Reader (v48 : butteryref02_Reader)), (eI (0 : Int))]), (ares_2 (ares_cell hH 0 rfl rfl rfl) rfl), (wk_tup (.cons (.of_eq rfl) (.cons (.of_eq rfl) .nil))), .of_eq (by simp only [cutAV, cutL, enc127.cut _ _ _, (enc_i64 td3 sz3).cut _ _ _]), (hH.noT.drop n2)⟩
            · refine awp_skip ?_
              refine awp_seq ?_
              refine awp_region rfl ?_
              refine wpo_mv (a := (eI c7)) rfl rfl rfl (o_mv tk rfl (Wk.refl _)) ?_
              refine wpo_lt H46 eI rfl rfl rfl (o_ar tk rfl rfl rfl) fun v52 H51 => ?_
              refine wpo_mv (a := (eI v26)) rfl rfl rfl (o_mv tk rfl (Wk.refl _)) ?_
              refine wpo_lt H51 eI rfl rfl rfl (o_rem tk (z := (128 : Int)) rfl rfl rfl) fun v54 H53 => ?_
              refine wpo_lt H53 eI rfl rfl rfl (o_ar tk rfl rfl rfl) fun v56 H55 => ?_
              refine wpo_mv (a := (eI v56)) rfl rfl rfl (o_as tk rfl (Wk.refl _)) ?_
              refine wpo_nil ?_
              refine awp_seq ?_
              refine awp_seq ?_
              refine awp_region rfl ?_
              refine wpo_mv (a := (eI v26)) rfl rfl rfl (o_mv tk rfl (Wk.refl _)) ?_
              refine wpo_lt H55 eB rfl rfl rfl (o_ar tk rfl rfl rfl) fun v58 H57 => ?_
              refine wpo_nil ?_
              refine awp_if H57 rfl (fun H59 => ?_) (fun H59 => ?_)
              · refine awp_exit ?_
                refine awp_region rfl ?_
                refine wpo_mv (a := (eI c8)) rfl rfl rfl (o_mv tk rfl (Wk.refl _)) ?_
                refine wpo_lt H59 eI rfl rfl rfl (o_ar tk rfl rfl rfl) fun v61 H60 => ?_
                refine wpo_mv (a := (eI v61)) rfl rfl rfl (o_as tk rfl (Wk.refl _)) ?_
                refine wpo_nil ?_
                exact ⟨(v56, v61), inj_inl H60, (wkf_cons (.of_eq rfl) (wkf_cons (.of_eq rfl) (wkf_cons (.of_eq rfl) (wkf_cons (.of_eq rfl) (wkf_cons (.of_eq rfl) (wkf_nil _)))))), hH⟩
              · refine awp_skip ?_
                refine awp_seq ?_
                refine awp_seq ?_
                refine awp_region rfl ?_
                refine wpo_mv (a := (eI v56)) rfl rfl rfl (o_mv tk rfl (Wk.refl _)) ?_
                refine wpo_mv (a := (eI x1)) rfl rfl rfl (o_mv tk rfl (Wk.refl _)) ?_
                refine wpo_lt H59 eB rfl rfl rfl (o_ar tk rfl rfl rfl) fun v63 H62 => ?_
                refine wpo_nil ?_
                refine awp_if H62 rfl (fun H64 => ?_) (fun H64 => ?_)
                · refine awp_seq ?_
                  refine awp_region rfl ?_
                  refine wpo_mv (a := (e_butteryref02_Reader x0)) rfl rfl rfl (o_ld tk rfl rfl) ?_
                  refine wpo_bd H64 e_butteryref02_Reader rfl rfl rfl (fun v66 hv => OpP.of_call rfl rfl (.cons (.of_eq rfl) (.cons (.of_eq rfl) .nil)) (butteryref02_fail_ok hv)) fun v66 hv66 H65 => ?_
                  refine wpo_z rfl rfl (h_st tk hH 0 rfl ty127 (by simp) rfl rfl (.of_eq rfl) (b := (e_butteryref02_Reader v66)) (enc127.flat _) rfl (Nat.le_of_ble_eq_true rfl) (c_butteryref02_Reader (v66 : butteryref02_Reader)) rfl) fun τ hH => ?_
                  refine wpo_mv (a := (eI (0 : Int))) rfl rfl rfl (o_as tk rfl (Wk.refl _)) ?_
                  refine wpo_nil ?_
                  refine awp_ret ?_
                  have hz := hy15 _ (inj_inr H65)
                  refine ⟨⟨_, inj_inr H65⟩, ?_⟩
                  rw [← hz] at hj11
                  have H68 := (show some _ = some _ from hj11)
                  obtain rfl := Option.some.inj H68
                  exact ⟨_, (.tup [(e_butteryref02_Reader (v66 : butteryref02_Reader)), (eI (0 : Int))]), (ares_2 (ares_cell hH 0 rfl rfl rfl) rfl), (wk_tup (.cons (.of_eq rfl) (.cons (.of_eq rfl) .nil))), .of_eq (by simp only [cutAV, cutL, enc127.cut _ _ _, (enc_i64 td3 sz3).cut _ _ _]), (hH.noT.drop n2)⟩
                · refine awp_skip ?_
                  refine awp_seq ?_
                  refine awp_region rfl ?_
                  refine wpo_mv (a := (e_butteryref02_Reader x0)) rfl rfl rfl (o_ld tk rfl rfl) ?_
                  refine wpo_a (av := fun id => .ref id 0) rfl rfl rfl (h_alloc tk hH ty127 [AV.nils, (eI z_butteryref02_Reader.At), (eI z_butteryref02_Reader.Code)] rfl) fun id69 τ ⟨hH, n70⟩ => ?_
                  refine wpo_z rfl rfl (h_st tk hH 0 rfl ty127 (by simp) rfl rfl (.of_eq rfl) (b := (e_butteryref02_Reader x0)) (enc127.flat _) rfl (Nat.le_of_ble_eq_true rfl) (c_butteryref02_Reader (x0 : butteryref02_Reader)) rfl) fun τ hH => ?_
                  refine wpo_nil ?_
                  refine awp_seq ?_
                  refine awp_region rfl ?_
                  refine wpo_mv (a := (eI c8)) rfl rfl rfl (o_mv tk rfl (Wk.refl _)) ?_
                  refine wpo_lt H64 eI rfl rfl rfl (o_ar tk rfl rfl rfl) fun v73 H72 => ?_
                  refine wpo_mv (a := (.ref id69 1)) rfl rfl rfl (o_c tk false rfl (fun _ => rfl)) ?_
                  obtain ⟨c75, hc76, H74⟩ := lt_ex H72
                  refine wpo_z rfl rfl (h_st tk hH 0 rfl ty3 (by simp) rfl rfl (.of_eq rfl) (b := (eI v73)) rfl rfl (Nat.le_of_ble_eq_true rfl) (c_butteryref02_Reader c75) (by rw [← hc76]; rfl)) fun τ hH => ?_
                  refine wpo_nil ?_
                  refine awp_seq ?_
                  refine awp_region rfl ?_
                  refine wpo_rd (a := (e_butteryref02_Reader c75)) rfl rfl rfl (h_ld tk hH 0 rfl rfl rfl) ?_
                  refine wpo_mv (a := (eI v56)) rfl rfl rfl (o_mv tk rfl (Wk.refl _)) ?_
                  refine wpo_z rfl rfl (h_st tk hH 1 rfl ty127 (by simp) rfl rfl (.of_eq rfl) (b := (e_butteryref02_Reader c75)) (enc127.flat _) rfl (Nat.le_of_ble_eq_true rfl) (c_butteryref02_Reader (c75 : butteryref02_Reader)) rfl) fun τ hH => ?_
                  refine wpo_mv (a := (eI v56)) rfl rfl rfl (o_as tk rfl (Wk.refl _)) ?_
                  refine wpo_nil ?_
                  refine awp_ret ?_
                  have hz := hy15 _ (inj_inr H74)
                  refine ⟨⟨_, inj_inr H74⟩, ?_⟩
                  rw [← hz] at hj11
                  have H78 := (show some _ = some _ from hj11)
                  obtain rfl := Option.some.inj H78
                  exact ⟨_, (.tup [(e_butteryref02_Reader (c75 : butteryref02_Reader)), (eI v56)]), (ares_2 (ares_cell hH 1 rfl rfl rfl) rfl), (wk_tup (.cons (.of_eq rfl) (.cons (.of_eq rfl) .nil))), .of_eq (by simp only [cutAV, cutL, enc127.cut _ _ _, (enc_i64 td3 sz3).cut _ _ _]), ((hH.noT.drop n70).drop n2)⟩
        · refine awp_region rfl ?_
          refine wpo_mv (a := (eI v26)) rfl rfl rfl (o_mv tk rfl (Wk.refl _)) ?_
          refine wpo_lt hs29 eB rfl rfl rfl (o_ar tk rfl rfl rfl) fun v32 H31 => ?_
          refine wpo_mv (a := (eB v32)) rfl rfl rfl (o_mv tk rfl (Wk.refl _)) ?_
          refine if_split H31 (fun hb H33 => ?_) (fun hb H33 => ?_)
          · subst hb
            refine wpo_mv (a := (eI c8)) rfl rfl rfl (o_mv tk rfl (Wk.refl _)) ?_
            refine wpo_mv (a := (.fptr (c_butteryref02_Reader x0) 1)) rfl rfl rfl (o_c tk false rfl (fun _ => rfl)) ?_
            refine wpo_mv (a := (eI x0.At)) rfl rfl rfl (o_ld tk rfl rfl) ?_
            refine wpo_lt H33 eB rfl rfl rfl (o_ar tk rfl rfl rfl) fun v35 H34 => ?_
            refine wpo_mv (a := (eB v35)) rfl rfl rfl (o_pick_t tk rfl rfl (Wk.refl _)) ?_
            refine wpo_nil ?_
            have e := Option.some.inj H34
            subst e
            exact ⟨(wkf_cons (.of_eq rfl) (wkf_cons (.of_eq rfl) (wkf_cons (.of_eq rfl) (wkf_cons (.of_eq rfl) (wkf_cons (.of_eq rfl) (wkf_cons (.of_eq rfl) (wkf_cons (.of_eq rfl) (wkf_nil _)))))))), hH⟩
          · subst hb
            refine wpo_skip rfl rfl rfl ?_
            refine wpo_skip rfl rfl rfl ?_
            refine wpo_skip rfl rfl rfl ?_
            refine wpo_skip rfl rfl rfl ?_
            refine wpo_mv (a := (eB false)) rfl rfl rfl (o_pick_f tk rfl rfl (Wk.refl _)) ?_
            refine wpo_nil ?_
            have e := Option.some.inj H33
            subst e
            exact ⟨(wkf_cons (.of_eq rfl) (wkf_cons (.of_eq rfl) (wkf_cons (.of_eq rfl) (wkf_cons (.of_eq rfl) (wkf_cons (.of_eq rfl) (wkf_cons (.of_eq rfl) (wkf_cons (.of_eq rfl) (wkf_nil _)))))))), hH⟩
      · refine awp_exit ?_
        have hz := hy15 _ (inj_inr H22)
        exact ⟨⟨_, inj_inr H22⟩, (), hz.symm, (wkf_cons (.of_eq rfl) (wkf_cons (.of_eq rfl) (wkf_nil _))), hH⟩
end Go.Proofs.YtkmlinaofbcbaaaDoor
namespace Go.Proofs.YtkmlinaofbcbaaaDoor
open Go Go.Va
set_option linter.unusedVariables false
set_option linter.unusedSimpArgs false
set_option maxRecDepth 20000
theorem butteryref02_Text_ok {x0 : butteryref02_Reader} {x1 : Int} {r : butteryref02_Reader × (List (BitVec 8))} (H : butteryref02_Text x0 x1 = some r) (σ : St)  : ACall Tryd.prog 125 [(e_butteryref02_Reader x0), (eI x1)] σ (fun a τ => a = .tup [e_butteryref02_Reader r.1, (eL 1 (@eU .u8 8)) r.2] ∧ τ = σ) := by
  unfold butteryref02_Text at H
  refine ACall.pure (acall_start tk Tryd.func125 (by decide) rfl (Nat.le_of_ble_eq_true rfl) ?_)
  have hH := Holds.init σ
  refine awp_seq ?_
  refine awp_region rfl ?_
  refine wpo_mv (a := (.fptr (c_butteryref02_Reader x0) 0)) rfl rfl rfl (o_boxf tk rfl (.of_eq rfl) (b := (e_butteryref02_Reader x0)) (enc127.flat _)) ?_
  refine wpo_a (av := fun id => .ref id 0) rfl rfl rfl (h_alloc tk hH ty127 [AV.nils, (eI z_butteryref02_Reader.At), (eI z_butteryref02_Reader.Code)] rfl) fun id1 τ ⟨hH, n2⟩ => ?_
  refine wpo_mv (a := AV.nils) rfl rfl rfl (o_as tk rfl (Wk.refl _)) ?_
  refine wpo_nil ?_
  refine awp_seq ?_
  refine awp_region rfl ?_
  refine wpo_mv (a := (e_butteryref02_Reader x0)) rfl rfl rfl (o_ld tk rfl rfl) ?_
  refine wpo_mv (a := (eI x1)) rfl rfl rfl (o_mv tk rfl (Wk.refl _)) ?_
  refine wpo_bd H (fun r => .tup [e_butteryref02_Reader r.1, eI r.2]) rfl rfl rfl (fun v4 hv => OpP.of_call rfl rfl (.cons (.of_eq rfl) (.cons (.of_eq rfl) .nil)) (butteryref02_Number_ok hv)) fun v4 hv4 H3 => ?_
  refine wpo_mv (a := (.tup [(e_butteryref02_Reader v4.1), (eI v4.2)])) rfl rfl rfl (o_mv tk rfl (Wk.refl _)) ?_
  refine wpo_mv (a := (e_butteryref02_Reader v4.1)) rfl rfl rfl (o_ext tk rfl rfl) ?_
  refine wpo_mv (a := (eI v4.2)) rfl rfl rfl (o_ext tk rfl rfl) ?_
  refine wpo_a (av := fun id => .ref id 0) rfl rfl rfl (h_alloc tk hH ty127 [AV.nils, (eI z_butteryref02_Reader.At), (eI z_butteryref02_Reader.Code)] rfl) fun id5 τ ⟨hH, n6⟩ => ?_
  refine wpo_z rfl rfl (h_st tk hH 0 rfl ty127 (by simp) rfl rfl (.of_eq rfl) (b := (e_butteryref02_Reader v4.1)) (enc127.flat _) rfl (Nat.le_of_ble_eq_true rfl) (c_butteryref02_Reader (v4.1 : butteryref02_Reader)) rfl) fun τ hH => ?_
  refine wpo_mv (a := (eI v4.2)) rfl rfl rfl (o_as tk rfl (Wk.refl _)) ?_
  refine wpo_nil ?_
  refine awp_seq ?_
  refine awp_seq ?_
  refine awp_region rfl ?_
  refine wpo_mv (a := (.ref id5 2)) rfl rfl rfl (o_c tk false rfl (fun _ => rfl)) ?_
  refine wpo_rd (a := (eI (v4.1 : butteryref02_Reader).Code)) rfl rfl rfl (h_ld tk hH 0 rfl rfl rfl) ?_
  refine wpo_lt H3 eB rfl rfl rfl (o_ar tk rfl rfl rfl) fun v9 H8 => ?_
  refine wpo_nil ?_
  refine awp_if H8 rfl (fun H10 => ?_) (fun H10 => ?_)
  · refine awp_seq ?_
    refine awp_region rfl ?_
    refine wpo_rd (a := (e_butteryref02_Reader (v4.1 : butteryref02_Reader))) rfl rfl rfl (h_ld tk hH 0 rfl rfl rfl) ?_
    refine wpo_z rfl rfl (h_st tk hH 1 rfl ty127 (by simp) rfl rfl (.of_eq rfl) (b := (e_butteryref02_Reader (v4.1 : butteryref02_Reader))) (enc127.flat _) rfl (Nat.le_of_ble_eq_true rfl) (c_butteryref02_Reader ((v4.1 : butteryref02_Reader) : butteryref02_Reader)) rfl) fun τ hH => ?_
    refine wpo_mv (a := AV.nils) rfl rfl rfl (o_as tk rfl (Wk.refl _)) ?_
    refine wpo_nil ?_
    refine awp_ret ?_
    obtain rfl := Option.some.inj H10
    exact ⟨_, (.tup [(e_butteryref02_Reader ((v4.1 : butteryref02_Reader) : butteryref02_Reader)), ((eL 1 (@eU .u8 8)) [])]), (ares_2 (ares_cell hH 1 rfl rfl rfl) rfl), (wk_tup (.cons (.of_eq rfl) (.cons (wk_nils _) .nil))), .of_eq (by simp only [cutAV, cutL, enc127.cut _ _ _, (enc_l td22 sz22 (enc_u td5 sz5).cut).cut _ _ _]), ((hH.noT.drop n6).drop n2)⟩
  · refine awp_skip ?_
    refine awp_seq ?_
    refine awp_seq ?_
    refine awp_region rfl ?_
    refine wpo_mv (a := (eI v4.2)) rfl rfl rfl (o_mv tk rfl (Wk.refl _)) ?_
    refine wpo_mv (a := (.ref id5 0)) rfl rfl rfl (o_c tk false rfl (fun _ => rfl)) ?_
    refine wpo_rd (a := ((eL 1 (@eU .u8 8)) (v4.1 : butteryref02_Reader).B)) rfl rfl rfl (h_ld tk hH 0 rfl rfl rfl) ?_
    refine wpo_lt H10 eI rfl rfl rfl (o_len tk td22 rfl) fun v13 H12 => ?_
    refine wpo_mv (a := (.ref id5 1)) rfl rfl rfl (o_c tk false rfl (fun _ => rfl)) ?_
    refine wpo_rd (a := (eI (v4.1 : butteryref02_Reader).At)) rfl rfl rfl (h_ld tk hH 0 rfl rfl rfl) ?_
    refine wpo_lt H12 eI rfl rfl rfl (o_ar tk rfl rfl rfl) fun v15 H14 => ?_
    refine wpo_lt H14 eB rfl rfl rfl (o_ar tk rfl rfl rfl) fun v17 H16 => ?_
    refine wpo_nil ?_
    refine awp_if H16 rfl (fun H18 => ?_) (fun H18 => ?_)
    · refine awp_seq ?_
      refine awp_region rfl ?_
      refine wpo_mv (a := (e_butteryref02_Reader x0)) rfl rfl rfl (o_ld tk rfl rfl) ?_
      refine wpo_bd H18 e_butteryref02_Reader rfl rfl rfl (fun v20 hv => OpP.of_call rfl rfl (.cons (.of_eq rfl) (.cons (.of_eq rfl) .nil)) (butteryref02_fail_ok hv)) fun v20 hv20 H19 => ?_
      refine wpo_z rfl rfl (h_st tk hH 1 rfl ty127 (by simp) rfl rfl (.of_eq rfl) (b := (e_butteryref02_Reader v20)) (enc127.flat _) rfl (Nat.le_of_ble_eq_true rfl) (c_butteryref02_Reader (v20 : butteryref02_Reader)) rfl) fun τ hH => ?_
      refine wpo_mv (a := AV.nils) rfl rfl rfl (o_as tk rfl (Wk.refl _)) ?_
      refine wpo_nil ?_
      refine awp_ret ?_
      obtain rfl := Option.some.inj H19
      exact ⟨_, (.tup [(e_butteryref02_Reader (v20 : butteryref02_Reader)), ((eL 1 (@eU .u8 8)) [])]), (ares_2 (ares_cell hH 1 rfl rfl rfl) rfl), (wk_tup (.cons (.of_eq rfl) (.cons (wk_nils _) .nil))), .of_eq (by simp only [cutAV, cutL, enc127.cut _ _ _, (enc_l td22 sz22 (enc_u td5 sz5).cut).cut _ _ _]), ((hH.noT.drop n6).drop n2)⟩
    · refine awp_skip ?_
      refine awp_seq ?_
      refine awp_region rfl ?_
      refine wpo_mv (a := AV.nils) rfl rfl rfl (o_as tk rfl (Wk.refl _)) ?_
      refine wpo_nil ?_
      refine awp_seq ?_
      refine awp_region rfl ?_
      refine wpo_mv (a := AV.nils) rfl rfl rfl (o_mv tk rfl (Wk.refl _)) ?_
      refine wpo_mv (a := (.ref id5 0)) rfl rfl rfl (o_c tk false rfl (fun _ => rfl)) ?_
      refine wpo_rd (a := ((eL 1 (@eU .u8 8)) (v4.1 : butteryref02_Reader).B)) rfl rfl rfl (h_ld tk hH 0 rfl rfl rfl) ?_
      refine wpo_mv (a := (.ref id5 1)) rfl rfl rfl (o_c tk false rfl (fun _ => rfl)) ?_
      refine wpo_rd (a := (eI (v4.1 : butteryref02_Reader).At)) rfl rfl rfl (h_ld tk hH 0 rfl rfl rfl) ?_
      refine wpo_mv (a := (.ref id5 1)) rfl rfl rfl (o_c tk false rfl (fun _ => rfl)) ?_
      refine wpo_rd (a := (eI (v4.1 : butteryref02_Reader).At)) rfl rfl rfl (h_ld tk hH 0 rfl rfl rfl) ?_
      refine wpo_mv (a := (eI v4.2)) rfl rfl rfl (o_mv tk rfl (Wk.refl _)) ?_
      refine wpo_lt H18 eI rfl rfl rfl (o_ar tk rfl rfl rfl) fun v23 H22 => ?_
      refine wpo_bd H22 (eL 1 (@eU .u8 8)) rfl rfl rfl (fun v25 hv => o_cut tk hv td22 (enc_u td5 sz5) rfl rfl rfl) fun v25 hv25 H24 => ?_
      obtain ⟨v27, hv28, H26⟩ := Option.bind_eq_some_iff.1 H24
      refine wpo_a (av := fun t => eT t 1 (@eU .u8 8) v27) rfl rfl rfl (h_app0 tk hH hv28 td22 ty5 rfl (by decide) (.inl ⟨rfl, rfl⟩) (src_l td22 rfl)) fun tk29 τ hH => ?_
      refine wpo_mv (a := (eT tk29 1 (@eU .u8 8) v27)) rfl rfl rfl (o_as tk rfl (Wk.refl _)) ?_
      refine wpo_nil ?_
      refine awp_seq ?_
      refine awp_region rfl ?_
      refine wpo_mv (a := (.ref id5 1)) rfl rfl rfl (o_c tk false rfl (fun _ => rfl)) ?_
      refine wpo_rd (a := (eI (v4.1 : butteryref02_Reader).At)) rfl rfl rfl (h_ld tk hH 0 rfl rfl rfl) ?_
      refine wpo_mv (a := (eI v4.2)) rfl rfl rfl (o_mv tk rfl (Wk.refl _)) ?_
      refine wpo_lt H26 eI rfl rfl rfl (o_ar tk rfl rfl rfl) fun v31 H30 => ?_
      refine wpo_mv (a := (.ref id5 1)) rfl rfl rfl (o_c tk false rfl (fun _ => rfl)) ?_
      obtain ⟨c33, hc34, H32⟩ := lt_ex H30
      refine wpo_z rfl rfl (h_st tk hH 0 rfl ty3 (by simp) rfl rfl (.of_eq rfl) (b := (eI v31)) rfl rfl (Nat.le_of_ble_eq_true rfl) (c_butteryref02_Reader c33) (by rw [← hc34]; rfl)) fun τ hH => ?_
      refine wpo_nil ?_
      refine awp_seq ?_
      refine awp_region rfl ?_
      refine wpo_rd (a := (e_butteryref02_Reader c33)) rfl rfl rfl (h_ld tk hH 0 rfl rfl rfl) ?_
      refine wpo_mv (a := (eT tk29 1 (@eU .u8 8) v27)) rfl rfl rfl (o_mv tk rfl (Wk.refl _)) ?_
      refine wpo_z rfl rfl (h_st tk hH 1 rfl ty127 (by simp) rfl rfl (.of_eq rfl) (b := (e_butteryref02_Reader c33)) (enc127.flat _) rfl (Nat.le_of_ble_eq_true rfl) (c_butteryref02_Reader (c33 : butteryref02_Reader)) rfl) fun τ hH => ?_
      refine wpo_mv (a := (eT tk29 1 (@eU .u8 8) v27)) rfl rfl rfl (o_as tk rfl (Wk.refl _)) ?_
      refine wpo_nil ?_
      refine awp_ret ?_
      obtain rfl := Option.some.inj H32
      exact ⟨_, (.tup [(e_butteryref02_Reader (c33 : butteryref02_Reader)), ((eL 1 (@eU .u8 8)) v27)]), (ares_2 (ares_cell hH 1 rfl rfl rfl) rfl), (wk_tup (.cons (.of_eq rfl) (.cons wk_no .nil))), .of_eq (by simp only [cutAV, cutL, enc127.cut _ _ _, (enc_l td22 sz22 (enc_u td5 sz5).cut).cut _ _ _]), ((hH.noT.drop n6).drop n2)⟩
end Go.Proofs.YtkmlinaofbcbaaaDoor
namespace Go.Proofs.YtkmlinaofbcbaaaDoor
open Go Go.Va
set_option linter.unusedVariables false
set_option linter.unusedSimpArgs false
set_option maxRecDepth 20000
theorem butteryref02_Key_ok {x0 : List (BitVec 8)} {r : Int} (H : butteryref02_Key x0 = some r) (σ : St)  : ACall Tryd.prog 99 [(eS x0)] σ (fun a τ => a = eI r ∧ τ = σ) := by
  unfold butteryref02_Key at H
  refine ACall.pure (acall_start tk Tryd.func99 (by decide) rfl (Nat.le_of_ble_eq_true rfl) ?_)
  have hH := Holds.init σ
  refine awp_seq ?_
  refine awp_region rfl ?_
  refine wpo_mv (a := (eI (0 : Int))) rfl rfl rfl (o_as tk rfl (Wk.refl _)) ?_
  refine wpo_nil ?_
  refine awp_seq ?_
  refine awp_seq ?_
  refine awp_region rfl ?_
  refine wpo_mv (a := (eS x0)) rfl rfl rfl (o_mv tk rfl (Wk.refl _)) ?_
  refine wpo_lt H eB rfl rfl rfl (o_eql_s tk rfl rfl) fun v2 H1 => ?_
  refine wpo_nil ?_
  refine awp_if H1 rfl (fun H3 => ?_) (fun H3 => ?_)
  · refine awp_seq ?_
    refine awp_region rfl ?_
    refine wpo_mv (a := (eI (1 : Int))) rfl rfl rfl (o_as tk rfl (Wk.refl _)) ?_
    refine wpo_nil ?_
    refine awp_ret ?_
    obtain rfl := Option.some.inj H3
    exact ⟨_, (eI (1 : Int)), rfl, (.of_eq rfl), .of_eq ((enc_i64 td33 sz33).cut _ _ _), hH.noT⟩
  · refine awp_skip ?_
    refine awp_seq ?_
    refine awp_seq ?_
    refine awp_region rfl ?_
    refine wpo_mv (a := (eS x0)) rfl rfl rfl (o_mv tk rfl (Wk.refl _)) ?_
    refine wpo_lt H3 eI rfl rfl rfl (o_len_s tk td9 rfl) fun v5 H4 => ?_
    refine wpo_lt H4 eB rfl rfl rfl (o_ar tk rfl rfl rfl) fun v7 H6 => ?_
    refine wpo_nil ?_
    refine awp_if H6 rfl (fun H8 => ?_) (fun H8 => ?_)
    · refine awp_seq ?_
      refine awp_region rfl ?_
      refine wpo_mv (a := (eI (3 : Int))) rfl rfl rfl (o_as tk rfl (Wk.refl _)) ?_
      refine wpo_nil ?_
      refine awp_ret ?_
      obtain rfl := Option.some.inj H8
      exact ⟨_, (eI (3 : Int)), rfl, (.of_eq rfl), .of_eq ((enc_i64 td33 sz33).cut _ _ _), hH.noT⟩
    · refine awp_skip ?_
      refine awp_seq ?_
      refine awp_region rfl ?_
      refine wpo_mv (a := (eI (0 : Int))) rfl rfl rfl (o_as tk rfl (Wk.refl _)) ?_
      refine wpo_nil ?_
      refine awp_ret ?_
      obtain rfl := Option.some.inj H8
      exact ⟨_, (eI (0 : Int)), rfl, (.of_eq rfl), .of_eq ((enc_i64 td33 sz33).cut _ _ _), hH.noT⟩
end Go.Proofs.YtkmlinaofbcbaaaDoor
namespace Go.Proofs.YtkmlinaofbcbaaaDoor
open Go Go.Va
set_option linter.unusedVariables false
set_option linter.unusedSimpArgs false
set_option maxRecDepth 20000
theorem butteryref06_Check_ok {x0 : api_Entry} {r : Int} (H : butteryref06_Check x0 = some r) (σ : St)  : ACall Tryd.prog 36 [(e_api_Entry x0)] σ (fun a τ => a = eI r ∧ τ = σ) := by
  unfold butteryref06_Check at H
  refine ACall.pure (acall_start tk Tryd.func36 (by decide) rfl (Nat.le_of_ble_eq_true rfl) ?_)
  have hH := Holds.init σ
  refine awp_seq ?_
  refine awp_region rfl ?_
  refine wpo_mv (a := (.fptr (c_api_Entry x0) 0)) rfl rfl rfl (o_boxf tk rfl (.of_eq rfl) (b := (e_api_Entry x0)) (enc24.flat _)) ?_
  refine wpo_mv (a := (eI (0 : Int))) rfl rfl rfl (o_as tk rfl (Wk.refl _)) ?_
  refine wpo_nil ?_
  refine awp_seq ?_
  refine awp_seq ?_
  refine awp_region rfl ?_
  refine wpo_mv (a := (.fptr (c_api_Entry x0) 0)) rfl rfl rfl (o_c tk false rfl (fun _ => rfl)) ?_
  refine wpo_mv (a := (eS x0.Key)) rfl rfl rfl (o_ld tk rfl rfl) ?_
  refine wpo_bd H eI rfl rfl rfl (fun v2 hv => OpP.of_call rfl rfl (.cons (.of_eq rfl) .nil) (butteryref02_Key_ok hv)) fun v2 hv2 H1 => ?_
  refine wpo_mv (a := (eI v2)) rfl rfl rfl (o_as tk rfl (Wk.refl _)) ?_
  refine wpo_nil ?_
  refine awp_seq ?_
  refine awp_region rfl ?_
  refine wpo_mv (a := (eI v2)) rfl rfl rfl (o_mv tk rfl (Wk.refl _)) ?_
  refine wpo_lt H1 eB rfl rfl rfl (o_ar tk rfl rfl rfl) fun v4 H3 => ?_
  refine wpo_nil ?_
  refine awp_if H3 rfl (fun H5 => ?_) (fun H5 => ?_)
  · refine awp_seq ?_
    refine awp_region rfl ?_
    refine wpo_mv (a := (eI v2)) rfl rfl rfl (o_mv tk rfl (Wk.refl _)) ?_
    refine wpo_mv (a := (eI v2)) rfl rfl rfl (o_as tk rfl (Wk.refl _)) ?_
    refine wpo_nil ?_
    refine awp_ret ?_
    obtain rfl := Option.some.inj H5
    exact ⟨_, (eI v2), rfl, (.of_eq rfl), .of_eq ((enc_i64 td33 sz33).cut _ _ _), hH.noT⟩
  · refine awp_skip ?_
    refine awp_seq ?_
    refine awp_seq ?_
    obtain ⟨s6, hs8, hj9⟩ := Option.bind_eq_some_iff.1 H5
    refine awp_cutn (fun fr τ => WkF fr (fm [(1, (.fptr (c_api_Entry x0) 0)), (39, (eB s6))]) ∧ Holds σ [] [] τ) ?_ ?_
    · rintro fr τ ⟨hfr, hH⟩
      have H27 := hj9
      refine AWP.fm [(1, (.fptr (c_api_Entry x0) 0)), (39, (eB s6))] hfr ?_
      refine awp_if H27 rfl (fun H28 => ?_) (fun H28 => ?_)
      · refine awp_seq ?_
        refine awp_region rfl ?_
        refine wpo_mv (a := (eI (2 : Int))) rfl rfl rfl (o_as tk rfl (Wk.refl _)) ?_
        refine wpo_nil ?_
        refine awp_ret ?_
        obtain rfl := Option.some.inj H28
        exact ⟨_, (eI (2 : Int)), rfl, (.of_eq rfl), .of_eq ((enc_i64 td33 sz33).cut _ _ _), hH.noT⟩
      · refine awp_skip ?_
        refine awp_seq ?_
        refine awp_seq ?_
        refine awp_region rfl ?_
        refine wpo_mv (a := (.fptr (c_api_Entry x0) 4)) rfl rfl rfl (o_c tk false rfl (fun _ => rfl)) ?_
        refine wpo_mv (a := ((eL 1 (@eU .u8 8)) x0.Value)) rfl rfl rfl (o_ld tk rfl rfl) ?_
        refine wpo_lt H28 eI rfl rfl rfl (o_len tk td22 rfl) fun v30 H29 => ?_
        refine wpo_lt H29 eB rfl rfl rfl (o_ar tk rfl rfl rfl) fun v32 H31 => ?_
        refine wpo_nil ?_
        refine awp_if H31 rfl (fun H33 => ?_) (fun H33 => ?_)
        · refine awp_seq ?_
          refine awp_region rfl ?_
          refine wpo_mv (a := (eI (3 : Int))) rfl rfl rfl (o_as tk rfl (Wk.refl _)) ?_
          refine wpo_nil ?_
          refine awp_ret ?_
          obtain rfl := Option.some.inj H33
          exact ⟨_, (eI (3 : Int)), rfl, (.of_eq rfl), .of_eq ((enc_i64 td33 sz33).cut _ _ _), hH.noT⟩
        · refine awp_skip ?_
          refine awp_seq ?_
          refine awp_region rfl ?_
          refine wpo_mv (a := (eI (0 : Int))) rfl rfl rfl (o_as tk rfl (Wk.refl _)) ?_
          refine wpo_nil ?_
          refine awp_ret ?_
          obtain rfl := Option.some.inj H33
          exact ⟨_, (eI (0 : Int)), rfl, (.of_eq rfl), .of_eq ((enc_i64 td33 sz33).cut _ _ _), hH.noT⟩
    · refine awp_region rfl ?_
      refine wpo_mv (a := (.fptr (c_api_Entry x0) 1)) rfl rfl rfl (o_c tk false rfl (fun _ => rfl)) ?_
      refine wpo_mv (a := (eI x0.Version)) rfl rfl rfl (o_ld tk rfl rfl) ?_
      refine wpo_lt hs8 eB rfl rfl rfl (o_ar tk rfl rfl rfl) fun v11 H10 => ?_
      refine wpo_mv (a := (eB v11)) rfl rfl rfl (o_mv tk rfl (Wk.refl _)) ?_
      refine if_split H10 (fun hb H12 => ?_) (fun hb H12 => ?_)
      · subst hb
        refine wpo_skip rfl rfl rfl ?_
        refine wpo_skip rfl rfl rfl ?_
        refine wpo_skip rfl rfl rfl ?_
        refine wpo_mv (a := (eB true)) rfl rfl rfl (o_pick_t tk rfl rfl (Wk.refl _)) ?_
        refine wpo_mv (a := (eB true)) rfl rfl rfl (o_mv tk rfl (Wk.refl _)) ?_
        refine wpo_skip rfl rfl rfl ?_
        refine wpo_skip rfl rfl rfl ?_
        refine wpo_skip rfl rfl rfl ?_
        refine wpo_skip rfl rfl rfl ?_
        refine wpo_skip rfl rfl rfl ?_
        refine wpo_mv (a := (eB true)) rfl rfl rfl (o_pick_t tk rfl rfl (Wk.refl _)) ?_
        refine wpo_mv (a := (eB true)) rfl rfl rfl (o_mv tk rfl (Wk.refl _)) ?_
        refine wpo_skip rfl rfl rfl ?_
        refine wpo_skip rfl rfl rfl ?_
        refine wpo_skip rfl rfl rfl ?_
        refine wpo_mv (a := (eB true)) rfl rfl rfl (o_pick_t tk rfl rfl (Wk.refl _)) ?_
        refine wpo_mv (a := (eB true)) rfl rfl rfl (o_mv tk rfl (Wk.refl _)) ?_
        refine wpo_skip rfl rfl rfl ?_
        refine wpo_skip rfl rfl rfl ?_
        refine wpo_skip rfl rfl rfl ?_
        refine wpo_mv (a := (eB true)) rfl rfl rfl (o_pick_t tk rfl rfl (Wk.refl _)) ?_
        refine wpo_mv (a := (eB true)) rfl rfl rfl (o_mv tk rfl (Wk.refl _)) ?_
        refine wpo_skip rfl rfl rfl ?_
        refine wpo_skip rfl rfl rfl ?_
        refine wpo_skip rfl rfl rfl ?_
        refine wpo_mv (a := (eB true)) rfl rfl rfl (o_pick_t tk rfl rfl (Wk.refl _)) ?_
        refine wpo_nil ?_
        have e := Option.some.inj H12
        subst e
        exact ⟨(wkf_cons (.of_eq rfl) (wkf_cons (.of_eq rfl) (wkf_nil _))), hH⟩
      · subst hb
        refine wpo_mv (a := (.fptr (c_api_Entry x0) 1)) rfl rfl rfl (o_c tk false rfl (fun _ => rfl)) ?_
        refine wpo_mv (a := (eI x0.Version)) rfl rfl rfl (o_ld tk rfl rfl) ?_
        refine wpo_lt H12 eB rfl rfl rfl (o_ar tk rfl rfl rfl) fun v14 H13 => ?_
        refine wpo_mv (a := (eB v14)) rfl rfl rfl (o_pick_f tk rfl rfl (Wk.refl _)) ?_
        refine wpo_mv (a := (eB v14)) rfl rfl rfl (o_mv tk rfl (Wk.refl _)) ?_
        refine if_split H13 (fun hb H15 => ?_) (fun hb H15 => ?_)
        · subst hb
          refine wpo_skip rfl rfl rfl ?_
          refine wpo_skip rfl rfl rfl ?_
          refine wpo_skip rfl rfl rfl ?_
          refine wpo_skip rfl rfl rfl ?_
          refine wpo_skip rfl rfl rfl ?_
          refine wpo_mv (a := (eB true)) rfl rfl rfl (o_pick_t tk rfl rfl (Wk.refl _)) ?_
          refine wpo_mv (a := (eB true)) rfl rfl rfl (o_mv tk rfl (Wk.refl _)) ?_
          refine wpo_skip rfl rfl rfl ?_
          refine wpo_skip rfl rfl rfl ?_
          refine wpo_skip rfl rfl rfl ?_
          refine wpo_mv (a := (eB true)) rfl rfl rfl (o_pick_t tk rfl rfl (Wk.refl _)) ?_
          refine wpo_mv (a := (eB true)) rfl rfl rfl (o_mv tk rfl (Wk.refl _)) ?_
          refine wpo_skip rfl rfl rfl ?_
          refine wpo_skip rfl rfl rfl ?_
          refine wpo_skip rfl rfl rfl ?_
          refine wpo_mv (a := (eB true)) rfl rfl rfl (o_pick_t tk rfl rfl (Wk.refl _)) ?_
          refine wpo_mv (a := (eB true)) rfl rfl rfl (o_mv tk rfl (Wk.refl _)) ?_
          refine wpo_skip rfl rfl rfl ?_
          refine wpo_skip rfl rfl rfl ?_
          refine wpo_skip rfl rfl rfl ?_
          refine wpo_mv (a := (eB true)) rfl rfl rfl (o_pick_t tk rfl rfl (Wk.refl _)) ?_
          refine wpo_nil ?_
          have e := Option.some.inj H15
          subst e
          exact ⟨(wkf_cons (.of_eq rfl) (wkf_cons (.of_eq rfl) (wkf_nil _))), hH⟩
        · subst hb
          refine wpo_mv (a := (.fptr (c_api_Entry x0) 2)) rfl rfl rfl (o_c tk false rfl (fun _ => rfl)) ?_
          refine wpo_mv (a := (eI x0.AsOf)) rfl rfl rfl (o_ld tk rfl rfl) ?_
          refine wpo_mv (a := (.fptr (c_api_Entry x0) 1)) rfl rfl rfl (o_c tk false rfl (fun _ => rfl)) ?_
          refine wpo_mv (a := (eI x0.Version)) rfl rfl rfl (o_ld tk rfl rfl) ?_
          refine wpo_lt H15 eB rfl rfl rfl (o_ar tk rfl rfl rfl) fun v17 H16 => ?_
          refine wpo_mv (a := (eB v17)) rfl rfl rfl (o_pick_f tk rfl rfl (Wk.refl _)) ?_
          refine wpo_mv (a := (eB v17)) rfl rfl rfl (o_mv tk rfl (Wk.refl _)) ?_
          refine if_split H16 (fun hb H18 => ?_) (fun hb H18 => ?_)
          · subst hb
            refine wpo_skip rfl rfl rfl ?_
            refine wpo_skip rfl rfl rfl ?_
            refine wpo_skip rfl rfl rfl ?_
            refine wpo_mv (a := (eB true)) rfl rfl rfl (o_pick_t tk rfl rfl (Wk.refl _)) ?_
            refine wpo_mv (a := (eB true)) rfl rfl rfl (o_mv tk rfl (Wk.refl _)) ?_
            refine wpo_skip rfl rfl rfl ?_
            refine wpo_skip rfl rfl rfl ?_
            refine wpo_skip rfl rfl rfl ?_
            refine wpo_mv (a := (eB true)) rfl rfl rfl (o_pick_t tk rfl rfl (Wk.refl _)) ?_
            refine wpo_mv (a := (eB true)) rfl rfl rfl (o_mv tk rfl (Wk.refl _)) ?_
            refine wpo_skip rfl rfl rfl ?_
            refine wpo_skip rfl rfl rfl ?_
            refine wpo_skip rfl rfl rfl ?_
            refine wpo_mv (a := (eB true)) rfl rfl rfl (o_pick_t tk rfl rfl (Wk.refl _)) ?_
            refine wpo_nil ?_
            have e := Option.some.inj H18
            subst e
            exact ⟨(wkf_cons (.of_eq rfl) (wkf_cons (.of_eq rfl) (wkf_nil _))), hH⟩
          · subst hb
            refine wpo_mv (a := (.fptr (c_api_Entry x0) 2)) rfl rfl rfl (o_c tk false rfl (fun _ => rfl)) ?_
            refine wpo_mv (a := (eI x0.AsOf)) rfl rfl rfl (o_ld tk rfl rfl) ?_
            refine wpo_lt H18 eB rfl rfl rfl (o_ar tk rfl rfl rfl) fun v20 H19 => ?_
            refine wpo_mv (a := (eB v20)) rfl rfl rfl (o_pick_f tk rfl rfl (Wk.refl _)) ?_
            refine wpo_mv (a := (eB v20)) rfl rfl rfl (o_mv tk rfl (Wk.refl _)) ?_
            refine if_split H19 (fun hb H21 => ?_) (fun hb H21 => ?_)
            · subst hb
              refine wpo_skip rfl rfl rfl ?_
              refine wpo_skip rfl rfl rfl ?_
              refine wpo_skip rfl rfl rfl ?_
              refine wpo_mv (a := (eB true)) rfl rfl rfl (o_pick_t tk rfl rfl (Wk.refl _)) ?_
              refine wpo_mv (a := (eB true)) rfl rfl rfl (o_mv tk rfl (Wk.refl _)) ?_
              refine wpo_skip rfl rfl rfl ?_
              refine wpo_skip rfl rfl rfl ?_
              refine wpo_skip rfl rfl rfl ?_
              refine wpo_mv (a := (eB true)) rfl rfl rfl (o_pick_t tk rfl rfl (Wk.refl _)) ?_
              refine wpo_nil ?_
              have e := Option.some.inj H21
              subst e
              exact ⟨(wkf_cons (.of_eq rfl) (wkf_cons (.of_eq rfl) (wkf_nil _))), hH⟩
            · subst hb
              refine wpo_mv (a := (.fptr (c_api_Entry x0) 3)) rfl rfl rfl (o_c tk false rfl (fun _ => rfl)) ?_
              refine wpo_mv (a := (eI x0.Ends)) rfl rfl rfl (o_ld tk rfl rfl) ?_
              refine wpo_lt H21 eB rfl rfl rfl (o_ar tk rfl rfl rfl) fun v23 H22 => ?_
              refine wpo_mv (a := (eB v23)) rfl rfl rfl (o_pick_f tk rfl rfl (Wk.refl _)) ?_
              refine wpo_mv (a := (eB v23)) rfl rfl rfl (o_mv tk rfl (Wk.refl _)) ?_
              refine if_split H22 (fun hb H24 => ?_) (fun hb H24 => ?_)
              · subst hb
                refine wpo_skip rfl rfl rfl ?_
                refine wpo_skip rfl rfl rfl ?_
                refine wpo_skip rfl rfl rfl ?_
                refine wpo_mv (a := (eB true)) rfl rfl rfl (o_pick_t tk rfl rfl (Wk.refl _)) ?_
                refine wpo_nil ?_
                have e := Option.some.inj H24
                subst e
                exact ⟨(wkf_cons (.of_eq rfl) (wkf_cons (.of_eq rfl) (wkf_nil _))), hH⟩
              · subst hb
                refine wpo_mv (a := (.fptr (c_api_Entry x0) 3)) rfl rfl rfl (o_c tk false rfl (fun _ => rfl)) ?_
                refine wpo_mv (a := (eI x0.Ends)) rfl rfl rfl (o_ld tk rfl rfl) ?_
                refine wpo_lt H24 eB rfl rfl rfl (o_ar tk rfl rfl rfl) fun v26 H25 => ?_
                refine wpo_mv (a := (eB v26)) rfl rfl rfl (o_pick_f tk rfl rfl (Wk.refl _)) ?_
                refine wpo_nil ?_
                have e := Option.some.inj H25
                subst e
                exact ⟨(wkf_cons (.of_eq rfl) (wkf_cons (.of_eq rfl) (wkf_nil _))), hH⟩
end Go.Proofs.YtkmlinaofbcbaaaDoor
