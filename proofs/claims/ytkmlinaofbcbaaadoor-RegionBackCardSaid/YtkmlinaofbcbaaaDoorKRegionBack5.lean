/- THERE AND BACK: a foot that may be is read as it was; bytes that are read are those of the foot. (part 5 of 7) -/
import Derived.Test.YtkmlinaofbcbaaaDoorKRegionBack4
namespace Go.Proofs.YtkmlinaofbcbaaaDoor
open Go Go.Va
set_option linter.unusedVariables false
set_option linter.unusedSimpArgs false
set_option maxRecDepth 20000
theorem item_Read_ok {x0 : List (BitVec 8)} {r : (List api_Entry) × Err} (H : item_Read x0 = some r) (σ : St)  (hg : σ.gl = gls) : ACall Tryd.prog 96 [((eL 1 (@eU .u8 8)) x0)] σ (fun a τ => a = .tup [(eL 5 e_api_Entry) r.1, eErr r.2] ∧ τ = σ) := by
  unfold item_Read at H
  refine ACall.pure (acall_start tk Tryd.func96 (by decide) rfl (Nat.le_of_ble_eq_true rfl) ?_)
  have hH := Holds.init σ
  refine awp_seq ?_
  refine awp_region rfl ?_
  refine wpo_mv (a := AV.nils) rfl rfl rfl (o_as tk rfl (Wk.refl _)) ?_
  refine wpo_mv (a := (eErr Err.nil)) rfl rfl rfl (o_as tk rfl (Wk.refl _)) ?_
  refine wpo_nil ?_
  refine awp_seq ?_
  refine awp_region rfl ?_
  refine wpo_mv (a := ((eL 1 (@eU .u8 8)) x0)) rfl rfl rfl (o_mv tk rfl (Wk.refl _)) ?_
  refine wpo_cb H (fun _ id => .ref id 0) rfl rfl rfl (fun v2 hv => h_calln hH (c_octets_Reader v2) rfl rfl (.cons (.of_eq rfl) .nil) (octets_Read_ok hv _)) fun v2 id3 τ hv2 H1 ⟨hH, n4⟩ => ?_
  refine wpo_mv (a := (.ref id3 0)) rfl rfl rfl (o_as tk rfl (Wk.refl _)) ?_
  refine wpo_nil ?_
  refine awp_seq ?_
  refine awp_region rfl ?_
  refine wpo_mv (a := AV.nils) rfl rfl rfl (o_as tk rfl (Wk.refl _)) ?_
  refine wpo_nil ?_
  refine awp_seq ?_
  refine awp_block ?_
  refine AWP.tokN hH 5 5 rfl fun tk7 τ hH => ?_
  obtain ⟨o8, hs9, hj10⟩ := Option.bind_eq_some_iff.1 H1
  refine awp_cutx 0 (fun fr τ => ∃ s15 : (List api_Entry) × octets_Reader, o8 = .inl s15 ∧ ∃ tk_5, WkF fr (fm [(5, (eT tk_5 5 e_api_Entry s15.1))]) ∧ Holds σ [(id3, (c_octets_Reader s15.2))] [tk_5] τ) ?_ ?_
  · rintro fr τ ⟨s15, rfl, tk_5, hfr, hH⟩
    have H59 := hj10
    simp only [Sum.elim_inl] at H59
    refine AWP.fm [(5, (eT tk_5 5 e_api_Entry s15.1))] hfr ?_
    refine awp_seq ?_
    refine awp_region rfl ?_
    refine wpo_mv (a := (eT tk_5 5 e_api_Entry s15.1)) rfl rfl rfl (o_mv tk rfl (Wk.refl _)) ?_
    refine wpo_mv (a := (eT tk_5 5 e_api_Entry s15.1)) rfl rfl rfl (o_as tk rfl (Wk.refl _)) ?_
    refine wpo_mv (a := (eErr Err.nil)) rfl rfl rfl (o_as tk rfl (Wk.refl _)) ?_
    refine wpo_nil ?_
    refine awp_ret ?_
    obtain rfl := Option.some.inj H59
    exact ⟨_, (.tup [((eL 5 e_api_Entry) s15.1), (eErr Err.nil)]), rfl, (wk_tup (.cons wk_no (.cons (.of_eq rfl) .nil))), .of_eq (by simp only [cutAV, cutL, (enc_l td60 sz60 enc24.cut).cut _ _ _, encErr.cut _ _ _]), (hH.noT.drop n4)⟩
  · refine awp_loopO (body := fun s => item_Read_b0 s.1 s.2) hs9 (fun (s : (List api_Entry) × octets_Reader) fr τ => ∃ tk_5, WkF fr (fm [(4, (.ref id3 0)), (5, (eT tk_5 5 e_api_Entry s.1))]) ∧ Holds σ [(id3, (c_octets_Reader s.2))] [tk_5] τ) ⟨tk7, (wkf_cons (.of_eq rfl) (wkf_cons (.of_eq rfl) (wkf_nil _))), hH⟩ ?_
    rintro ⟨c5, c6⟩ fr τ y11 ⟨tk_5, hfr, hH⟩ hb13 hy14
    have H16 : item_Read_b0 c5 c6 = some y11 := hb13
    unfold item_Read_b0 at H16
    refine AWP.fm [(4, (.ref id3 0)), (5, (eT tk_5 5 e_api_Entry c5))] hfr ?_
    have hH : Holds σ [(id3, (c_octets_Reader c6))] [tk_5] τ := hH
    refine awp_seq ?_
    refine awp_seq ?_
    obtain ⟨s17, hs19, hj20⟩ := Option.bind_eq_some_iff.1 H16
    refine awp_cutn (fun fr τ => ∃ tk_5, WkF fr (fm [(4, (.ref id3 0)), (5, (eT tk_5 5 e_api_Entry c5)), (17, (eB s17))]) ∧ Holds σ [(id3, (c_octets_Reader c6))] [tk_5] τ) ?_ ?_
    · rintro fr τ ⟨tk_5, hfr, hH⟩
      have H30 := hj20
      refine AWP.fm [(4, (.ref id3 0)), (5, (eT tk_5 5 e_api_Entry c5)), (17, (eB s17))] hfr ?_
      refine awp_if H30 rfl (fun H31 => ?_) (fun H31 => ?_)
      · refine awp_skip ?_
        refine awp_block ?_
        refine awp_seq ?_
        refine awp_region rfl ?_
        refine wpo_mv (a := (.ref id3 0)) rfl rfl rfl (o_mv tk rfl (Wk.refl _)) ?_
        refine wpo_bdr H31 eI rfl rfl rfl (fun v33 hv => h_callr rfl rfl (.cons (.of_eq rfl) .nil) (octets_Reader_At_ok hv _ (hH.at_ 0 rfl))) fun v33 hv33 H32 => ?_
        refine wpo_mv (a := (eI v33)) rfl rfl rfl (o_as tk rfl (Wk.refl _)) ?_
        refine wpo_nil ?_
        refine awp_seq ?_
        refine awp_region rfl ?_
        refine wpo_mv (a := (.ref id3 0)) rfl rfl rfl (o_mv tk rfl (Wk.refl _)) ?_
        refine wpo_cb H32 (fun x _ => e_api_Entry x.1) rfl rfl rfl (fun v35 hv => h_call1 hH [(0, (id3, (c_octets_Reader v35.2)))] ⟨⟨_, rfl⟩, trivial⟩ rfl rfl (.cons (.of_eq rfl) .nil) (item_From_ok hv _ (hH.at_ 0 rfl) (hH.gl.trans hg))) fun v35 _ τ hv35 H34 hH => ?_
        refine wpo_a (av := fun id => .ref id 0) rfl rfl rfl (h_alloc tk hH ty24 [(eS z_api_Entry.Key), (eI z_api_Entry.Version), (eI z_api_Entry.AsOf), (eI z_api_Entry.Ends), AV.nils] rfl) fun id36 τ ⟨hH, n37⟩ => ?_
        refine wpo_z rfl rfl (h_st tk hH 0 rfl ty24 (by simp) rfl rfl (.of_eq rfl) (b := (e_api_Entry v35.1)) (enc24.flat _) rfl (Nat.le_of_ble_eq_true rfl) (c_api_Entry (v35.1 : api_Entry)) rfl) fun τ hH => ?_
        refine wpo_nil ?_
        refine awp_seq ?_
        refine awp_seq ?_
        refine awp_region rfl ?_
        refine wpo_mv (a := (.ref id3 0)) rfl rfl rfl (o_mv tk rfl (Wk.refl _)) ?_
        refine wpo_bdr H34 eI rfl rfl rfl (fun v40 hv => h_callr rfl rfl (.cons (.of_eq rfl) .nil) (octets_Reader_Code_ok hv _ (hH.at_ 1 rfl))) fun v40 hv40 H39 => ?_
        refine wpo_lt H39 eB rfl rfl rfl (o_ar tk rfl rfl rfl) fun v42 H41 => ?_
        refine wpo_nil ?_
        refine awp_if H41 rfl (fun H43 => ?_) (fun H43 => ?_)
        · refine awp_seq ?_
          refine awp_region rfl ?_
          refine wpo_mv (a := (eT tk_5 5 e_api_Entry c5)) rfl rfl rfl (o_mv tk rfl (Wk.refl _)) ?_
          refine wpo_lt H43 eI rfl rfl rfl (o_len tk td60 rfl) fun v45 H44 => ?_
          refine wpo_mv (a := (eI v33)) rfl rfl rfl (o_mv tk rfl (Wk.refl _)) ?_
          refine wpo_mv (a := (.ref id3 0)) rfl rfl rfl (o_mv tk rfl (Wk.refl _)) ?_
          refine wpo_bdr H44 eI rfl rfl rfl (fun v47 hv => h_callr rfl rfl (.cons (.of_eq rfl) .nil) (octets_Reader_Code_ok hv _ (hH.at_ 1 rfl))) fun v47 hv47 H46 => ?_
          refine wpo_bd H46 eErr rfl rfl rfl (fun v49 hv => OpP.of_call rfl rfl (.cons (.of_eq rfl) (.cons (.of_eq rfl) (.cons (.of_eq rfl) .nil))) (trouble_New_ok hv)) fun v49 hv49 H48 => ?_
          refine wpo_bd H48 eErr rfl rfl rfl (fun v51 hv => OpP.of_call rfl rfl (.cons (.of_eq rfl) (.cons (.of_eq rfl) (.cons (.of_eq rfl) .nil))) (trouble_Wrap_ok hv)) fun v51 hv51 H50 => ?_
          refine wpo_mv (a := AV.nils) rfl rfl rfl (o_as tk rfl (Wk.refl _)) ?_
          refine wpo_mv (a := (eErr v51)) rfl rfl rfl (o_as tk rfl (Wk.refl _)) ?_
          refine wpo_nil ?_
          refine awp_ret ?_
          have hz := hy14 _ (inj_inr H50)
          refine ⟨⟨_, inj_inr H50⟩, ?_⟩
          rw [← hz] at hj10
          have H52 := (show some _ = some _ from hj10)
          obtain rfl := Option.some.inj H52
          exact ⟨_, (.tup [((eL 5 e_api_Entry) []), (eErr v51)]), rfl, (wk_tup (.cons (wk_nils _) (.cons (.of_eq rfl) .nil))), .of_eq (by simp only [cutAV, cutL, (enc_l td60 sz60 enc24.cut).cut _ _ _, encErr.cut _ _ _]), ((hH.noT.drop n37).drop n4)⟩
        · refine awp_skip ?_
          refine awp_region rfl ?_
          refine wpo_mv (a := (eT tk_5 5 e_api_Entry c5)) rfl rfl rfl (o_mv tk rfl (Wk.refl _)) ?_
          refine wpo_rd (a := (e_api_Entry (v35.1 : api_Entry))) rfl rfl rfl (h_ld tk hH 0 rfl rfl rfl) ?_
          refine wpo_lt H43 (eF 5 e_api_Entry) rfl rfl rfl (o_c tk false rfl (fun _ => rfl)) fun v54 H53 => ?_
          obtain ⟨v56, hv57, H55⟩ := Option.bind_eq_some_iff.1 H53
          refine wpo_a (av := fun t => eT t 5 e_api_Entry v56) rfl rfl rfl (h_app tk hH 0 hv57 rfl td60 ty24 rfl (by decide) rfl (src_l td60 rfl)) fun tk58 τ hH => ?_
          refine wpo_mv (a := (eT tk58 5 e_api_Entry v56)) rfl rfl rfl (o_as tk rfl (Wk.refl _)) ?_
          refine wpo_nil ?_
          exact ⟨(v56, v35.2), inj_inl H55, tk58, (wkf_cons (.of_eq rfl) (wkf_cons (.of_eq rfl) (wkf_nil _))), (hH.drop n37)⟩
      · refine awp_exit ?_
        have hz := hy14 _ (inj_inr H31)
        exact ⟨⟨_, inj_inr H31⟩, (c5, c6), hz.symm, tk_5, (wkf_cons (.of_eq rfl) (wkf_nil _)), hH⟩
    · refine awp_region rfl ?_
      refine wpo_mv (a := (.ref id3 0)) rfl rfl rfl (o_mv tk rfl (Wk.refl _)) ?_
      refine wpo_bdr hs19 eI rfl rfl rfl (fun v22 hv => h_callr rfl rfl (.cons (.of_eq rfl) .nil) (octets_Reader_Code_ok hv _ (hH.at_ 0 rfl))) fun v22 hv22 H21 => ?_
      refine wpo_lt H21 eB rfl rfl rfl (o_ar tk rfl rfl rfl) fun v24 H23 => ?_
      refine wpo_mv (a := (eB v24)) rfl rfl rfl (o_mv tk rfl (Wk.refl _)) ?_
      refine if_split H23 (fun hb H25 => ?_) (fun hb H25 => ?_)
      · subst hb
        refine wpo_mv (a := (.ref id3 0)) rfl rfl rfl (o_mv tk rfl (Wk.refl _)) ?_
        refine wpo_bdr H25 eI rfl rfl rfl (fun v27 hv => h_callr rfl rfl (.cons (.of_eq rfl) .nil) (octets_Reader_Left_ok hv _ (hH.at_ 0 rfl))) fun v27 hv27 H26 => ?_
        refine wpo_lt H26 eB rfl rfl rfl (o_ar tk rfl rfl rfl) fun v29 H28 => ?_
        refine wpo_mv (a := (eB v29)) rfl rfl rfl (o_pick_t tk rfl rfl (Wk.refl _)) ?_
        refine wpo_nil ?_
        have e := Option.some.inj H28
        subst e
        exact ⟨tk_5, (wkf_cons (.of_eq rfl) (wkf_cons (.of_eq rfl) (wkf_cons (.of_eq rfl) (wkf_nil _)))), hH⟩
      · subst hb
        refine wpo_skip rfl rfl rfl ?_
        refine wpo_skip rfl rfl rfl ?_
        refine wpo_skip rfl rfl rfl ?_
        refine wpo_mv (a := (eB false)) rfl rfl rfl (o_pick_f tk rfl rfl (Wk.refl _)) ?_
        refine wpo_nil ?_
        have e := Option.some.inj H25
        subst e
        exact ⟨tk_5, (wkf_cons (.of_eq rfl) (wkf_cons (.of_eq rfl) (wkf_cons (.of_eq rfl) (wkf_nil _)))), hH⟩
end Go.Proofs.YtkmlinaofbcbaaaDoor
namespace Go.Proofs.YtkmlinaofbcbaaaDoor
open Go Go.Va
set_option linter.unusedVariables false
set_option linter.unusedSimpArgs false
set_option maxRecDepth 20000
theorem region_Whole_ok {x0 : api_Foot} {x1 : List (List (BitVec 8))} {r : (List api_Entry) × Err} (H : region_Whole x0 x1 = some r) (σ : St)  (hg : σ.gl = gls) : ACall Tryd.prog 33 [(e_api_Foot x0), ((eL 1 (eL 1 (@eU .u8 8))) x1)] σ (fun a τ => a = .tup [(eL 5 e_api_Entry) r.1, eErr r.2] ∧ τ = σ) := by
  unfold region_Whole at H
  refine ACall.pure (acall_start tk Tryd.func33 (by decide) rfl (Nat.le_of_ble_eq_true rfl) ?_)
  have hH := Holds.init σ
  refine awp_seq ?_
  refine awp_region rfl ?_
  refine wpo_mv (a := (.fptr (c_api_Foot x0) 0)) rfl rfl rfl (o_boxf tk rfl (.of_eq rfl) (b := (e_api_Foot x0)) (enc53.flat _)) ?_
  refine wpo_mv (a := AV.nils) rfl rfl rfl (o_as tk rfl (Wk.refl _)) ?_
  refine wpo_mv (a := (eErr Err.nil)) rfl rfl rfl (o_as tk rfl (Wk.refl _)) ?_
  refine wpo_nil ?_
  refine awp_seq ?_
  refine awp_region rfl ?_
  refine wpo_mv (a := AV.nils) rfl rfl rfl (o_as tk rfl (Wk.refl _)) ?_
  refine wpo_nil ?_
  refine awp_seq ?_
  refine awp_seq ?_
  refine awp_region rfl ?_
  refine wpo_mv (a := ((eL 1 (eL 1 (@eU .u8 8))) x1)) rfl rfl rfl (o_mv tk rfl (Wk.refl _)) ?_
  refine wpo_lt H eI rfl rfl rfl (o_len tk td62 rfl) fun v2 H1 => ?_
  refine wpo_mv (a := (eI (0 : Int))) rfl rfl rfl (o_mv tk rfl (Wk.refl _)) ?_
  refine wpo_nil ?_
  refine awp_block ?_
  refine AWP.tokN hH 6 1 rfl fun tk5 τ hH => ?_
  obtain ⟨s13, hs7, hj8⟩ := Option.bind_eq_some_iff.1 H1
  refine awp_cutx 0 (fun fr τ => ∃ tk_6, WkF fr (fm [(2, (.fptr (c_api_Foot x0) 0)), (6, (eT tk_6 1 (@eU .u8 8) s13))]) ∧ Holds σ [] [tk_6] τ) ?_ ?_
  · rintro fr τ ⟨tk_6, hfr, hH⟩
    have H26 := hj8
    refine AWP.fm [(2, (.fptr (c_api_Foot x0) 0)), (6, (eT tk_6 1 (@eU .u8 8) s13))] hfr ?_
    refine awp_seq ?_
    refine awp_seq ?_
    refine awp_region rfl ?_
    refine wpo_mv (a := (eT tk_6 1 (@eU .u8 8) s13)) rfl rfl rfl (o_mv tk rfl (Wk.refl _)) ?_
    refine wpo_lt H26 eI rfl rfl rfl (o_len tk td22 rfl) fun v28 H27 => ?_
    refine wpo_mv (a := (.fptr (c_api_Foot x0) 1)) rfl rfl rfl (o_c tk false rfl (fun _ => rfl)) ?_
    refine wpo_mv (a := (eI x0.Bytes)) rfl rfl rfl (o_ld tk rfl rfl) ?_
    refine wpo_lt H27 eB rfl rfl rfl (o_ar tk rfl rfl rfl) fun v30 H29 => ?_
    refine wpo_nil ?_
    refine awp_if H29 rfl (fun H31 => ?_) (fun H31 => ?_)
    · refine awp_seq ?_
      refine awp_region rfl ?_
      refine wpo_mv (a := (eT tk_6 1 (@eU .u8 8) s13)) rfl rfl rfl (o_mv tk rfl (Wk.refl _)) ?_
      refine wpo_lt H31 eI rfl rfl rfl (o_len tk td22 rfl) fun v33 H32 => ?_
      refine wpo_bd H32 eErr rfl rfl rfl (fun v35 hv => OpP.of_call rfl rfl (.cons (.of_eq rfl) (.cons (.of_eq rfl) (.cons (.of_eq rfl) .nil))) (trouble_New_ok hv)) fun v35 hv35 H34 => ?_
      refine wpo_mv (a := AV.nils) rfl rfl rfl (o_as tk rfl (Wk.refl _)) ?_
      refine wpo_mv (a := (eErr v35)) rfl rfl rfl (o_as tk rfl (Wk.refl _)) ?_
      refine wpo_nil ?_
      refine awp_ret ?_
      obtain rfl := Option.some.inj H34
      exact ⟨_, (.tup [((eL 5 e_api_Entry) []), (eErr v35)]), rfl, (wk_tup (.cons (wk_nils _) (.cons (.of_eq rfl) .nil))), .of_eq (by simp only [cutAV, cutL, (enc_l td60 sz60 enc24.cut).cut _ _ _, encErr.cut _ _ _]), hH.noT⟩
    · refine awp_skip ?_
      refine awp_seq ?_
      refine awp_region rfl ?_
      refine wpo_mv (a := (eT tk_6 1 (@eU .u8 8) s13)) rfl rfl rfl (o_mv tk rfl (Wk.refl _)) ?_
      refine wpo_bdr H31 (fun r => .tup [(eL 5 e_api_Entry) r.1, eErr r.2]) rfl rfl rfl (fun v37 hv => h_callr rfl rfl (.cons wk_no .nil) (item_Read_ok hv _ (hH.gl.trans hg))) fun v37 hv37 H36 => ?_
      refine wpo_mv (a := (.tup [((eL 5 e_api_Entry) v37.1), (eErr v37.2)])) rfl rfl rfl (o_mv tk rfl (Wk.refl _)) ?_
      refine wpo_mv (a := ((eL 5 e_api_Entry) v37.1)) rfl rfl rfl (o_ext tk rfl rfl) ?_
      refine wpo_mv (a := (eErr v37.2)) rfl rfl rfl (o_ext tk rfl rfl) ?_
      refine wpo_mv (a := ((eL 5 e_api_Entry) v37.1)) rfl rfl rfl (o_as tk rfl (Wk.refl _)) ?_
      refine wpo_mv (a := (eErr v37.2)) rfl rfl rfl (o_as tk rfl (Wk.refl _)) ?_
      refine wpo_nil ?_
      refine awp_seq ?_
      refine awp_seq ?_
      refine awp_region rfl ?_
      refine wpo_mv (a := (eErr v37.2)) rfl rfl rfl (o_mv tk rfl (Wk.refl _)) ?_
      refine wpo_lt H36 eB rfl rfl rfl (o_err_neq tk rfl rfl rfl) fun v39 H38 => ?_
      refine wpo_nil ?_
      refine awp_if H38 rfl (fun H40 => ?_) (fun H40 => ?_)
      · refine awp_seq ?_
        refine awp_region rfl ?_
        refine wpo_mv (a := (.fptr (c_api_Foot x0) 0)) rfl rfl rfl (o_c tk false rfl (fun _ => rfl)) ?_
        refine wpo_mv (a := (eI x0.Seq)) rfl rfl rfl (o_ld tk rfl rfl) ?_
        refine wpo_mv (a := (eErr v37.2)) rfl rfl rfl (o_mv tk rfl (Wk.refl _)) ?_
        refine wpo_bd H40 eErr rfl rfl rfl (fun v42 hv => OpP.of_call rfl rfl (.cons (.of_eq rfl) (.cons (.of_eq rfl) (.cons (.of_eq rfl) .nil))) (trouble_Wrap_ok hv)) fun v42 hv42 H41 => ?_
        refine wpo_mv (a := AV.nils) rfl rfl rfl (o_as tk rfl (Wk.refl _)) ?_
        refine wpo_mv (a := (eErr v42)) rfl rfl rfl (o_as tk rfl (Wk.refl _)) ?_
        refine wpo_nil ?_
        refine awp_ret ?_
        obtain rfl := Option.some.inj H41
        exact ⟨_, (.tup [((eL 5 e_api_Entry) []), (eErr v42)]), rfl, (wk_tup (.cons (wk_nils _) (.cons (.of_eq rfl) .nil))), .of_eq (by simp only [cutAV, cutL, (enc_l td60 sz60 enc24.cut).cut _ _ _, encErr.cut _ _ _]), hH.noT⟩
      · refine awp_skip ?_
        refine awp_seq ?_
        refine awp_seq ?_
        refine awp_region rfl ?_
        refine wpo_mv (a := ((eL 5 e_api_Entry) v37.1)) rfl rfl rfl (o_mv tk rfl (Wk.refl _)) ?_
        refine wpo_lt H40 eI rfl rfl rfl (o_len tk td60 rfl) fun v44 H43 => ?_
        refine wpo_mv (a := (.fptr (c_api_Foot x0) 2)) rfl rfl rfl (o_c tk false rfl (fun _ => rfl)) ?_
        refine wpo_mv (a := (eI x0.Count)) rfl rfl rfl (o_ld tk rfl rfl) ?_
        refine wpo_lt H43 eB rfl rfl rfl (o_ar tk rfl rfl rfl) fun v46 H45 => ?_
        refine wpo_nil ?_
        refine awp_if H45 rfl (fun H47 => ?_) (fun H47 => ?_)
        · refine awp_seq ?_
          refine awp_region rfl ?_
          refine wpo_mv (a := ((eL 5 e_api_Entry) v37.1)) rfl rfl rfl (o_mv tk rfl (Wk.refl _)) ?_
          refine wpo_lt H47 eI rfl rfl rfl (o_len tk td60 rfl) fun v49 H48 => ?_
          refine wpo_bd H48 eErr rfl rfl rfl (fun v51 hv => OpP.of_call rfl rfl (.cons (.of_eq rfl) (.cons (.of_eq rfl) (.cons (.of_eq rfl) .nil))) (trouble_New_ok hv)) fun v51 hv51 H50 => ?_
          refine wpo_mv (a := AV.nils) rfl rfl rfl (o_as tk rfl (Wk.refl _)) ?_
          refine wpo_mv (a := (eErr v51)) rfl rfl rfl (o_as tk rfl (Wk.refl _)) ?_
          refine wpo_nil ?_
          refine awp_ret ?_
          obtain rfl := Option.some.inj H50
          exact ⟨_, (.tup [((eL 5 e_api_Entry) []), (eErr v51)]), rfl, (wk_tup (.cons (wk_nils _) (.cons (.of_eq rfl) .nil))), .of_eq (by simp only [cutAV, cutL, (enc_l td60 sz60 enc24.cut).cut _ _ _, encErr.cut _ _ _]), hH.noT⟩
        · refine awp_skip ?_
          refine awp_seq ?_
          refine awp_region rfl ?_
          refine wpo_mv (a := ((eL 5 e_api_Entry) v37.1)) rfl rfl rfl (o_mv tk rfl (Wk.refl _)) ?_
          refine wpo_mv (a := ((eL 5 e_api_Entry) v37.1)) rfl rfl rfl (o_as tk rfl (Wk.refl _)) ?_
          refine wpo_mv (a := (eErr Err.nil)) rfl rfl rfl (o_as tk rfl (Wk.refl _)) ?_
          refine wpo_nil ?_
          refine awp_ret ?_
          obtain rfl := Option.some.inj H47
          exact ⟨_, (.tup [((eL 5 e_api_Entry) v37.1), (eErr Err.nil)]), rfl, (wk_tup (.cons (.of_eq rfl) (.cons (.of_eq rfl) .nil))), .of_eq (by simp only [cutAV, cutL, (enc_l td60 sz60 enc24.cut).cut _ _ _, encErr.cut _ _ _]), hH.noT⟩
  · refine awp_loopO (body := fun s => region_Whole_b0 x0 x1 v2 s.1 s.2) hs7 (fun (s : (List (BitVec 8)) × Int) fr τ => ∃ tk_6, WkF fr (fm [(2, (.fptr (c_api_Foot x0) 0)), (6, (eT tk_6 1 (@eU .u8 8) s.1)), (11, ((eL 1 (eL 1 (@eU .u8 8))) x1)), (12, (eI v2)), (13, (eI s.2))]) ∧ Holds σ [] [tk_6] τ) ⟨tk5, (wkf_cons (.of_eq rfl) (wkf_cons (.of_eq rfl) (wkf_cons (.of_eq rfl) (wkf_cons (.of_eq rfl) (wkf_cons (.of_eq rfl) (wkf_nil _)))))), hH⟩ ?_
    rintro ⟨c3, c4⟩ fr τ y9 ⟨tk_6, hfr, hH⟩ hb11 hy12
    have H14 : region_Whole_b0 x0 x1 v2 c3 c4 = some y9 := hb11
    unfold region_Whole_b0 at H14
    refine AWP.fm [(2, (.fptr (c_api_Foot x0) 0)), (6, (eT tk_6 1 (@eU .u8 8) c3)), (11, ((eL 1 (eL 1 (@eU .u8 8))) x1)), (12, (eI v2)), (13, (eI c4))] hfr ?_
    have hH : Holds σ [] [tk_6] τ := hH
    refine awp_seq ?_
    refine awp_region rfl ?_
    refine wpo_lt H14 eB rfl rfl rfl (o_ar tk rfl rfl rfl) fun v16 H15 => ?_
    refine wpo_nil ?_
    refine awp_seq ?_
    refine awp_if H15 rfl (fun H17 => ?_) (fun H17 => ?_)
    · refine awp_skip ?_
      refine awp_seq ?_
      refine awp_block ?_
      refine awp_seq ?_
      refine awp_region rfl ?_
      refine wpo_bd H17 (fun y => .fptr ((eL 1 (@eU .u8 8)) y).cells 0) rfl rfl rfl (fun v19 hv => o_ixa tk hv td62 (enc_l td22 sz22 (enc_u td5 sz5).cut) rfl rfl) fun v19 hv19 H18 => ?_
      refine wpo_mv (a := ((eL 1 (@eU .u8 8)) v19)) rfl rfl rfl (o_ld_e tk (enc_l td22 sz22 (enc_u td5 sz5).cut) rfl rfl) ?_
      refine wpo_mv (a := ((eL 1 (@eU .u8 8)) v19)) rfl rfl rfl (o_as tk rfl (Wk.refl _)) ?_
      refine wpo_nil ?_
      refine awp_region rfl ?_
      refine wpo_mv (a := (eT tk_6 1 (@eU .u8 8) c3)) rfl rfl rfl (o_mv tk rfl (Wk.refl _)) ?_
      refine wpo_mv (a := ((eL 1 (@eU .u8 8)) v19)) rfl rfl rfl (o_mv tk rfl (Wk.refl _)) ?_
      obtain ⟨v21, hv22, H20⟩ := Option.bind_eq_some_iff.1 H18
      refine wpo_a (av := fun t => eT t 1 (@eU .u8 8) v21) rfl rfl rfl (h_app tk hH 0 hv22 rfl td22 ty5 rfl (by decide) rfl (src_l td22 rfl)) fun tk23 τ hH => ?_
      refine wpo_mv (a := (eT tk23 1 (@eU .u8 8) v21)) rfl rfl rfl (o_as tk rfl (Wk.refl _)) ?_
      refine wpo_nil ?_
      refine awp_region rfl ?_
      refine wpo_lt H20 eI rfl rfl rfl (o_ar tk rfl rfl rfl) fun v25 H24 => ?_
      refine wpo_mv (a := (eI v25)) rfl rfl rfl (o_mv tk rfl (Wk.refl _)) ?_
      refine wpo_nil ?_
      exact ⟨(v21, v25), inj_inl H24, tk23, (wkf_cons (.of_eq rfl) (wkf_cons (.of_eq rfl) (wkf_cons (.of_eq rfl) (wkf_cons (.of_eq rfl) (wkf_cons (.of_eq rfl) (wkf_nil _)))))), hH⟩
    · refine awp_exit ?_
      have hz := hy12 _ (inj_inr H17)
      subst hz
      exact ⟨⟨_, inj_inr H17⟩, tk_6, (wkf_cons (.of_eq rfl) (wkf_cons (.of_eq rfl) (wkf_nil _))), hH⟩
end Go.Proofs.YtkmlinaofbcbaaaDoor
namespace Go.Proofs.YtkmlinaofbcbaaaDoor
open Go Go.Va
set_option linter.unusedVariables false
set_option linter.unusedSimpArgs false
set_option maxRecDepth 20000
theorem butteryref06_Same_ok {x0 : api_Entry} {x1 : api_Entry} {r : Bool} (H : butteryref06_Same x0 x1 = some r) (σ : St)  : ACall Tryd.prog 58 [(e_api_Entry x0), (e_api_Entry x1)] σ (fun a τ => a = eB r ∧ τ = σ) := by
  unfold butteryref06_Same at H
  refine ACall.pure (acall_start tk Tryd.func58 (by decide) rfl (Nat.le_of_ble_eq_true rfl) ?_)
  have hH := Holds.init σ
  refine awp_seq ?_
  refine awp_region rfl ?_
  refine wpo_mv (a := (.fptr (c_api_Entry x0) 0)) rfl rfl rfl (o_boxf tk rfl (.of_eq rfl) (b := (e_api_Entry x0)) (enc24.flat _)) ?_
  refine wpo_mv (a := (.fptr (c_api_Entry x1) 0)) rfl rfl rfl (o_boxf tk rfl (.of_eq rfl) (b := (e_api_Entry x1)) (enc24.flat _)) ?_
  refine wpo_mv (a := (eB false)) rfl rfl rfl (o_as tk rfl (Wk.refl _)) ?_
  refine wpo_nil ?_
  refine awp_seq ?_
  refine awp_region rfl ?_
  refine wpo_mv (a := (.fptr (c_api_Entry x0) 0)) rfl rfl rfl (o_c tk false rfl (fun _ => rfl)) ?_
  refine wpo_mv (a := (eS x0.Key)) rfl rfl rfl (o_ld tk rfl rfl) ?_
  refine wpo_mv (a := (.fptr (c_api_Entry x1) 0)) rfl rfl rfl (o_c tk false rfl (fun _ => rfl)) ?_
  refine wpo_mv (a := (eS x1.Key)) rfl rfl rfl (o_ld tk rfl rfl) ?_
  refine wpo_lt H eB rfl rfl rfl (o_eql_s tk rfl rfl) fun v2 H1 => ?_
  refine wpo_mv (a := (eB v2)) rfl rfl rfl (o_mv tk rfl (Wk.refl _)) ?_
  refine if_split H1 (fun hb H3 => ?_) (fun hb H3 => ?_)
  · subst hb
    refine wpo_mv (a := (.fptr (c_api_Entry x0) 1)) rfl rfl rfl (o_c tk false rfl (fun _ => rfl)) ?_
    refine wpo_mv (a := (eI x0.Version)) rfl rfl rfl (o_ld tk rfl rfl) ?_
    refine wpo_mv (a := (.fptr (c_api_Entry x1) 1)) rfl rfl rfl (o_c tk false rfl (fun _ => rfl)) ?_
    refine wpo_mv (a := (eI x1.Version)) rfl rfl rfl (o_ld tk rfl rfl) ?_
    refine wpo_lt H3 eB rfl rfl rfl (o_ar tk rfl rfl rfl) fun v5 H4 => ?_
    refine wpo_mv (a := (eB v5)) rfl rfl rfl (o_pick_t tk rfl rfl (Wk.refl _)) ?_
    refine wpo_mv (a := (eB v5)) rfl rfl rfl (o_mv tk rfl (Wk.refl _)) ?_
    refine if_split H4 (fun hb H6 => ?_) (fun hb H6 => ?_)
    · subst hb
      refine wpo_mv (a := (.fptr (c_api_Entry x0) 2)) rfl rfl rfl (o_c tk false rfl (fun _ => rfl)) ?_
      refine wpo_mv (a := (eI x0.AsOf)) rfl rfl rfl (o_ld tk rfl rfl) ?_
      refine wpo_mv (a := (.fptr (c_api_Entry x1) 2)) rfl rfl rfl (o_c tk false rfl (fun _ => rfl)) ?_
      refine wpo_mv (a := (eI x1.AsOf)) rfl rfl rfl (o_ld tk rfl rfl) ?_
      refine wpo_lt H6 eB rfl rfl rfl (o_ar tk rfl rfl rfl) fun v8 H7 => ?_
      refine wpo_mv (a := (eB v8)) rfl rfl rfl (o_pick_t tk rfl rfl (Wk.refl _)) ?_
      refine wpo_mv (a := (eB v8)) rfl rfl rfl (o_mv tk rfl (Wk.refl _)) ?_
      refine if_split H7 (fun hb H9 => ?_) (fun hb H9 => ?_)
      · subst hb
        refine wpo_mv (a := (.fptr (c_api_Entry x0) 3)) rfl rfl rfl (o_c tk false rfl (fun _ => rfl)) ?_
        refine wpo_mv (a := (eI x0.Ends)) rfl rfl rfl (o_ld tk rfl rfl) ?_
        refine wpo_mv (a := (.fptr (c_api_Entry x1) 3)) rfl rfl rfl (o_c tk false rfl (fun _ => rfl)) ?_
        refine wpo_mv (a := (eI x1.Ends)) rfl rfl rfl (o_ld tk rfl rfl) ?_
        refine wpo_lt H9 eB rfl rfl rfl (o_ar tk rfl rfl rfl) fun v11 H10 => ?_
        refine wpo_mv (a := (eB v11)) rfl rfl rfl (o_pick_t tk rfl rfl (Wk.refl _)) ?_
        refine wpo_mv (a := (eB v11)) rfl rfl rfl (o_mv tk rfl (Wk.refl _)) ?_
        refine if_split H10 (fun hb H12 => ?_) (fun hb H12 => ?_)
        · subst hb
          refine wpo_mv (a := (.fptr (c_api_Entry x0) 4)) rfl rfl rfl (o_c tk false rfl (fun _ => rfl)) ?_
          refine wpo_mv (a := ((eL 1 (@eU .u8 8)) x0.Value)) rfl rfl rfl (o_ld tk rfl rfl) ?_
          refine wpo_mv (a := (.fptr (c_api_Entry x1) 4)) rfl rfl rfl (o_c tk false rfl (fun _ => rfl)) ?_
          refine wpo_mv (a := ((eL 1 (@eU .u8 8)) x1.Value)) rfl rfl rfl (o_ld tk rfl rfl) ?_
          refine wpo_bd H12 eB rfl rfl rfl (fun v14 hv => OpP.of_call rfl rfl (.cons (.of_eq rfl) (.cons (.of_eq rfl) .nil)) (butteryref02_Same_ok hv)) fun v14 hv14 H13 => ?_
          refine wpo_mv (a := (eB v14)) rfl rfl rfl (o_pick_t tk rfl rfl (Wk.refl _)) ?_
          refine wpo_mv (a := (eB v14)) rfl rfl rfl (o_as tk rfl (Wk.refl _)) ?_
          refine wpo_nil ?_
          refine awp_ret ?_
          obtain rfl := Option.some.inj H13
          exact ⟨_, (eB v14), rfl, (.of_eq rfl), .of_eq ((enc_b td4 sz4).cut _ _ _), hH.noT⟩
        · subst hb
          refine wpo_skip rfl rfl rfl ?_
          refine wpo_skip rfl rfl rfl ?_
          refine wpo_skip rfl rfl rfl ?_
          refine wpo_skip rfl rfl rfl ?_
          refine wpo_skip rfl rfl rfl ?_
          refine wpo_mv (a := (eB false)) rfl rfl rfl (o_pick_f tk rfl rfl (Wk.refl _)) ?_
          refine wpo_mv (a := (eB false)) rfl rfl rfl (o_as tk rfl (Wk.refl _)) ?_
          refine wpo_nil ?_
          refine awp_ret ?_
          obtain rfl := Option.some.inj H12
          exact ⟨_, (eB false), rfl, (.of_eq rfl), .of_eq ((enc_b td4 sz4).cut _ _ _), hH.noT⟩
      · subst hb
        refine wpo_skip rfl rfl rfl ?_
        refine wpo_skip rfl rfl rfl ?_
        refine wpo_skip rfl rfl rfl ?_
        refine wpo_skip rfl rfl rfl ?_
        refine wpo_skip rfl rfl rfl ?_
        refine wpo_mv (a := (eB false)) rfl rfl rfl (o_pick_f tk rfl rfl (Wk.refl _)) ?_
        refine wpo_mv (a := (eB false)) rfl rfl rfl (o_mv tk rfl (Wk.refl _)) ?_
        refine wpo_skip rfl rfl rfl ?_
        refine wpo_skip rfl rfl rfl ?_
        refine wpo_skip rfl rfl rfl ?_
        refine wpo_skip rfl rfl rfl ?_
        refine wpo_skip rfl rfl rfl ?_
        refine wpo_mv (a := (eB false)) rfl rfl rfl (o_pick_f tk rfl rfl (Wk.refl _)) ?_
        refine wpo_mv (a := (eB false)) rfl rfl rfl (o_as tk rfl (Wk.refl _)) ?_
        refine wpo_nil ?_
        refine awp_ret ?_
        obtain rfl := Option.some.inj H9
        exact ⟨_, (eB false), rfl, (.of_eq rfl), .of_eq ((enc_b td4 sz4).cut _ _ _), hH.noT⟩
    · subst hb
      refine wpo_skip rfl rfl rfl ?_
      refine wpo_skip rfl rfl rfl ?_
      refine wpo_skip rfl rfl rfl ?_
      refine wpo_skip rfl rfl rfl ?_
      refine wpo_skip rfl rfl rfl ?_
      refine wpo_mv (a := (eB false)) rfl rfl rfl (o_pick_f tk rfl rfl (Wk.refl _)) ?_
      refine wpo_mv (a := (eB false)) rfl rfl rfl (o_mv tk rfl (Wk.refl _)) ?_
      refine wpo_skip rfl rfl rfl ?_
      refine wpo_skip rfl rfl rfl ?_
      refine wpo_skip rfl rfl rfl ?_
      refine wpo_skip rfl rfl rfl ?_
      refine wpo_skip rfl rfl rfl ?_
      refine wpo_mv (a := (eB false)) rfl rfl rfl (o_pick_f tk rfl rfl (Wk.refl _)) ?_
      refine wpo_mv (a := (eB false)) rfl rfl rfl (o_mv tk rfl (Wk.refl _)) ?_
      refine wpo_skip rfl rfl rfl ?_
      refine wpo_skip rfl rfl rfl ?_
      refine wpo_skip rfl rfl rfl ?_
      refine wpo_skip rfl rfl rfl ?_
      refine wpo_skip rfl rfl rfl ?_
      refine wpo_mv (a := (eB false)) rfl rfl rfl (o_pick_f tk rfl rfl (Wk.refl _)) ?_
      refine wpo_mv (a := (eB false)) rfl rfl rfl (o_as tk rfl (Wk.refl _)) ?_
      refine wpo_nil ?_
      refine awp_ret ?_
      obtain rfl := Option.some.inj H6
      exact ⟨_, (eB false), rfl, (.of_eq rfl), .of_eq ((enc_b td4 sz4).cut _ _ _), hH.noT⟩
  · subst hb
    refine wpo_skip rfl rfl rfl ?_
    refine wpo_skip rfl rfl rfl ?_
    refine wpo_skip rfl rfl rfl ?_
    refine wpo_skip rfl rfl rfl ?_
    refine wpo_skip rfl rfl rfl ?_
    refine wpo_mv (a := (eB false)) rfl rfl rfl (o_pick_f tk rfl rfl (Wk.refl _)) ?_
    refine wpo_mv (a := (eB false)) rfl rfl rfl (o_mv tk rfl (Wk.refl _)) ?_
    refine wpo_skip rfl rfl rfl ?_
    refine wpo_skip rfl rfl rfl ?_
    refine wpo_skip rfl rfl rfl ?_
    refine wpo_skip rfl rfl rfl ?_
    refine wpo_skip rfl rfl rfl ?_
    refine wpo_mv (a := (eB false)) rfl rfl rfl (o_pick_f tk rfl rfl (Wk.refl _)) ?_
    refine wpo_mv (a := (eB false)) rfl rfl rfl (o_mv tk rfl (Wk.refl _)) ?_
    refine wpo_skip rfl rfl rfl ?_
    refine wpo_skip rfl rfl rfl ?_
    refine wpo_skip rfl rfl rfl ?_
    refine wpo_skip rfl rfl rfl ?_
    refine wpo_skip rfl rfl rfl ?_
    refine wpo_mv (a := (eB false)) rfl rfl rfl (o_pick_f tk rfl rfl (Wk.refl _)) ?_
    refine wpo_mv (a := (eB false)) rfl rfl rfl (o_mv tk rfl (Wk.refl _)) ?_
    refine wpo_skip rfl rfl rfl ?_
    refine wpo_skip rfl rfl rfl ?_
    refine wpo_skip rfl rfl rfl ?_
    refine wpo_skip rfl rfl rfl ?_
    refine wpo_skip rfl rfl rfl ?_
    refine wpo_mv (a := (eB false)) rfl rfl rfl (o_pick_f tk rfl rfl (Wk.refl _)) ?_
    refine wpo_mv (a := (eB false)) rfl rfl rfl (o_as tk rfl (Wk.refl _)) ?_
    refine wpo_nil ?_
    refine awp_ret ?_
    obtain rfl := Option.some.inj H3
    exact ⟨_, (eB false), rfl, (.of_eq rfl), .of_eq ((enc_b td4 sz4).cut _ _ _), hH.noT⟩
end Go.Proofs.YtkmlinaofbcbaaaDoor
namespace Go.Proofs.YtkmlinaofbcbaaaDoor
open Go Go.Va
set_option linter.unusedVariables false
set_option linter.unusedSimpArgs false
set_option maxRecDepth 20000
theorem butteryref06_SameAll_ok {x0 : List api_Entry} {x1 : List api_Entry} {r : Bool} (H : butteryref06_SameAll x0 x1 = some r) (σ : St)  : ACall Tryd.prog 35 [((eL 5 e_api_Entry) x0), ((eL 5 e_api_Entry) x1)] σ (fun a τ => a = eB r ∧ τ = σ) := by
  unfold butteryref06_SameAll at H
  refine ACall.pure (acall_start tk Tryd.func35 (by decide) rfl (Nat.le_of_ble_eq_true rfl) ?_)
  have hH := Holds.init σ
  refine awp_seq ?_
  refine awp_region rfl ?_
  refine wpo_mv (a := (eB false)) rfl rfl rfl (o_as tk rfl (Wk.refl _)) ?_
  refine wpo_nil ?_
  refine awp_seq ?_
  refine awp_seq ?_
  refine awp_region rfl ?_
  refine wpo_mv (a := ((eL 5 e_api_Entry) x0)) rfl rfl rfl (o_mv tk rfl (Wk.refl _)) ?_
  refine wpo_lt H eI rfl rfl rfl (o_len tk td60 rfl) fun v2 H1 => ?_
  refine wpo_mv (a := ((eL 5 e_api_Entry) x1)) rfl rfl rfl (o_mv tk rfl (Wk.refl _)) ?_
  refine wpo_lt H1 eI rfl rfl rfl (o_len tk td60 rfl) fun v4 H3 => ?_
  refine wpo_lt H3 eB rfl rfl rfl (o_ar tk rfl rfl rfl) fun v6 H5 => ?_
  refine wpo_nil ?_
  refine awp_if H5 rfl (fun H7 => ?_) (fun H7 => ?_)
  · refine awp_seq ?_
    refine awp_region rfl ?_
    refine wpo_mv (a := (eB false)) rfl rfl rfl (o_as tk rfl (Wk.refl _)) ?_
    refine wpo_nil ?_
    refine awp_ret ?_
    obtain rfl := Option.some.inj H7
    exact ⟨_, (eB false), rfl, (.of_eq rfl), .of_eq ((enc_b td4 sz4).cut _ _ _), hH.noT⟩
  · refine awp_skip ?_
    refine awp_seq ?_
    refine awp_seq ?_
    refine awp_region rfl ?_
    refine wpo_mv (a := (eI (0 : Int))) rfl rfl rfl (o_as tk rfl (Wk.refl _)) ?_
    refine wpo_nil ?_
    refine awp_block ?_
    obtain ⟨o9, hs10, hj11⟩ := Option.bind_eq_some_iff.1 H7
    refine awp_cutx 0 (fun fr τ => ∃ s16 : Unit, o9 = .inl s16 ∧ WkF fr (fm []) ∧ Holds σ [] [] τ) ?_ ?_
    · rintro fr τ ⟨s16, rfl, hfr, hH⟩
      have H35 := hj11
      simp only [Sum.elim_inl] at H35
      refine AWP.fm [] hfr ?_
      refine awp_seq ?_
      refine awp_region rfl ?_
      refine wpo_mv (a := (eB true)) rfl rfl rfl (o_as tk rfl (Wk.refl _)) ?_
      refine wpo_nil ?_
      refine awp_ret ?_
      obtain rfl := Option.some.inj H35
      exact ⟨_, (eB true), rfl, (.of_eq rfl), .of_eq ((enc_b td4 sz4).cut _ _ _), hH.noT⟩
    · refine awp_loopO (body := fun s => butteryref06_SameAll_b0 x0 x1 s) hs10 (fun (s : Int) fr τ => WkF fr (fm [(0, ((eL 5 e_api_Entry) x0)), (1, ((eL 5 e_api_Entry) x1)), (5, (eI s))]) ∧ Holds σ [] [] τ) ⟨(wkf_cons (.of_eq rfl) (wkf_cons (.of_eq rfl) (wkf_cons (.of_eq rfl) (wkf_nil _)))), hH⟩ ?_
      rintro c8 fr τ y12 ⟨hfr, hH⟩ hb14 hy15
      have H17 : butteryref06_SameAll_b0 x0 x1 c8 = some y12 := hb14
      unfold butteryref06_SameAll_b0 at H17
      refine AWP.fm [(0, ((eL 5 e_api_Entry) x0)), (1, ((eL 5 e_api_Entry) x1)), (5, (eI c8))] hfr ?_
      have hH : Holds σ [] [] τ := hH
      refine awp_seq ?_
      refine awp_seq ?_
      refine awp_region rfl ?_
      refine wpo_mv (a := (eI c8)) rfl rfl rfl (o_mv tk rfl (Wk.refl _)) ?_
      refine wpo_mv (a := ((eL 5 e_api_Entry) x0)) rfl rfl rfl (o_mv tk rfl (Wk.refl _)) ?_
      refine wpo_lt H17 eI rfl rfl rfl (o_len tk td60 rfl) fun v19 H18 => ?_
      refine wpo_lt H18 eB rfl rfl rfl (o_ar tk rfl rfl rfl) fun v21 H20 => ?_
      refine wpo_nil ?_
      refine awp_if H20 rfl (fun H22 => ?_) (fun H22 => ?_)
      · refine awp_skip ?_
        refine awp_seq ?_
        refine awp_block ?_
        refine awp_seq ?_
        refine awp_drawS mixed [] rfl (by decide +kernel) rfl rfl ?_
        refine wpdS_mv (a := ((eL 5 e_api_Entry) x0)) rfl rfl rfl (o_mv tk rfl (Wk.refl _)) ?_
        refine wpdS_mv (a := (eI c8)) rfl rfl rfl (o_mv tk rfl (Wk.refl _)) ?_
        refine wpdS_bd H22 (fun y => .fptr (e_api_Entry y).cells 0) rfl rfl rfl (fun v24 hv => o_ixa tk hv td60 enc24 rfl rfl) fun v24 hv24 H23 => ?_
        refine wpdS_mv (a := (e_api_Entry v24)) rfl rfl rfl (o_ld_e tk enc24 rfl rfl) ?_
        refine wpdS_mv (a := ((eL 5 e_api_Entry) x1)) rfl rfl rfl (o_mv tk rfl (Wk.refl _)) ?_
        refine wpdS_mv (a := (eI c8)) rfl rfl rfl (o_mv tk rfl (Wk.refl _)) ?_
        refine wpdS_bd H23 (fun y => .fptr (e_api_Entry y).cells 0) rfl rfl rfl (fun v26 hv => o_ixa tk hv td60 enc24 rfl rfl) fun v26 hv26 H25 => ?_
        refine wpdS_mv (a := (e_api_Entry v26)) rfl rfl rfl (o_ld_e tk enc24 rfl rfl) ?_
        refine wpdS_bd H25 eB rfl rfl rfl (fun v28 hv => OpP.of_call rfl rfl (.cons (.of_eq rfl) (.cons (.of_eq rfl) .nil)) (butteryref06_Same_ok hv)) fun v28 hv28 H27 => ?_
        refine wpdS_lt H27 eB rfl rfl rfl (o_un tk rfl rfl) fun v30 H29 => ?_
        refine wpdS_nil ?_
        refine awp_if H29 rfl (fun H31 => ?_) (fun H31 => ?_)
        · refine awp_seq ?_
          refine awp_region rfl ?_
          refine wpo_mv (a := (eB false)) rfl rfl rfl (o_as tk rfl (Wk.refl _)) ?_
          refine wpo_nil ?_
          refine awp_ret ?_
          have hz := hy15 _ (inj_inr H31)
          refine ⟨⟨_, inj_inr H31⟩, ?_⟩
          rw [← hz] at hj11
          have H32 := (show some _ = some _ from hj11)
          obtain rfl := Option.some.inj H32
          exact ⟨_, (eB false), rfl, (.of_eq rfl), .of_eq ((enc_b td4 sz4).cut _ _ _), hH.noT⟩
        · refine awp_skip ?_
          refine awp_region rfl ?_
          refine wpo_mv (a := (eI c8)) rfl rfl rfl (o_mv tk rfl (Wk.refl _)) ?_
          refine wpo_lt H31 eI rfl rfl rfl (o_ar tk rfl rfl rfl) fun v34 H33 => ?_
          refine wpo_mv (a := (eI v34)) rfl rfl rfl (o_as tk rfl (Wk.refl _)) ?_
          refine wpo_nil ?_
          exact ⟨v34, inj_inl H33, (wkf_cons (.of_eq rfl) (wkf_cons (.of_eq rfl) (wkf_cons (.of_eq rfl) (wkf_nil _)))), hH⟩
      · refine awp_exit ?_
        have hz := hy15 _ (inj_inr H22)
        exact ⟨⟨_, inj_inr H22⟩, (), hz.symm, (wkf_nil _), hH⟩
end Go.Proofs.YtkmlinaofbcbaaaDoor
namespace Go.Proofs.YtkmlinaofbcbaaaDoor
open Go Go.Va
set_option linter.unusedVariables false
set_option linter.unusedSimpArgs false
set_option maxRecDepth 20000
theorem octets_Len_n_ok : ∀ (k : Nat) {x0 : Int} {r : Int} (H : octets_Len_n k x0 = some r) (σ : St) , ACall Tryd.prog 128 [(eI x0)] σ (fun a τ => a = eI r ∧ τ = σ) := by
  intro k
  induction k with
  | zero => intro x0 r H; cases H
  | succ k ih =>
    intro x0 r H σ
    replace H : octets_Len_F (octets_Len_n k) x0 = some r := H
    unfold octets_Len_F at H
    refine ACall.pure (acall_start tk Tryd.func128 (by decide) rfl (Nat.le_of_ble_eq_true rfl) ?_)
    have hH := Holds.init σ
    refine awp_seq ?_
    refine awp_region rfl ?_
    refine wpo_mv (a := (eI (0 : Int))) rfl rfl rfl (o_as tk rfl (Wk.refl _)) ?_
    refine wpo_nil ?_
    refine awp_seq ?_
    refine awp_region rfl ?_
    refine wpo_mv (a := (eI (1 : Int))) rfl rfl rfl (o_as tk rfl (Wk.refl _)) ?_
    refine wpo_nil ?_
    refine awp_seq ?_
    refine awp_block ?_
    refine awp_seq ?_
    refine awp_block ?_
    refine awp_seq ?_
    refine awp_block ?_
    refine awp_seq ?_
    refine awp_block ?_
    refine awp_seq ?_
    refine awp_block ?_
    refine awp_seq ?_
    refine awp_block ?_
    refine awp_seq ?_
    refine awp_seq ?_
    refine awp_seq ?_
    refine awp_region rfl ?_
    refine wpo_mv (a := (eI x0)) rfl rfl rfl (o_mv tk rfl (Wk.refl _)) ?_
    refine wpo_lt H eB rfl rfl rfl (o_ar tk rfl rfl rfl) fun v2 H1 => ?_
    refine wpo_mv (a := (eB v2)) rfl rfl rfl (o_as tk rfl (Wk.refl _)) ?_
    refine wpo_nil ?_
    refine awp_if H1 rfl (fun H3 => ?_) (fun H3 => ?_)
    · refine awp_exit ?_
      refine awp_seq ?_
      refine awp_seq ?_
      refine awp_region rfl ?_
      refine wpo_mv (a := (eI x0)) rfl rfl rfl (o_mv tk rfl (Wk.refl _)) ?_
      refine wpo_lt H3 eI rfl rfl rfl (o_shr tk (y := (35 : Int)) rfl rfl rfl) fun v5 H4 => ?_
      refine wpo_bd H4 eI rfl rfl rfl (fun v7 hv => OpP.of_call rfl rfl (.cons (.of_eq rfl) .nil) (ih hv)) fun v7 hv7 H6 => ?_
      refine wpo_lt H6 eI rfl rfl rfl (o_ar tk rfl rfl rfl) fun v9 H8 => ?_
      refine wpo_mv (a := (eI v9)) rfl rfl rfl (o_as tk rfl (Wk.refl _)) ?_
      refine wpo_nil ?_
      refine awp_ret ?_
      obtain rfl := Option.some.inj H8
      exact ⟨_, (eI v9), rfl, (.of_eq rfl), .of_eq ((enc_i64 td3 sz3).cut _ _ _), hH.noT⟩
    · refine awp_skip ?_
      refine awp_seq ?_
      refine awp_seq ?_
      refine awp_region rfl ?_
      refine wpo_mv (a := (eI x0)) rfl rfl rfl (o_mv tk rfl (Wk.refl _)) ?_
      refine wpo_lt H3 eB rfl rfl rfl (o_ar tk rfl rfl rfl) fun v11 H10 => ?_
      refine wpo_mv (a := (eB v11)) rfl rfl rfl (o_as tk rfl (Wk.refl _)) ?_
      refine wpo_nil ?_
      refine awp_if H10 rfl (fun H12 => ?_) (fun H12 => ?_)
      · refine awp_exit ?_
        refine awp_region rfl ?_
        refine wpo_mv (a := (eI (1 : Int))) rfl rfl rfl (o_mv tk rfl (Wk.refl _)) ?_
        refine wpo_lt H12 eI rfl rfl rfl (o_ar tk rfl rfl rfl) fun v14 H13 => ?_
        refine wpo_mv (a := (eI v14)) rfl rfl rfl (o_as tk rfl (Wk.refl _)) ?_
        refine wpo_nil ?_
        refine awp_region rfl ?_
        refine wpo_mv (a := (eI v14)) rfl rfl rfl (o_mv tk rfl (Wk.refl _)) ?_
        refine wpo_lt H13 eI rfl rfl rfl (o_ar tk rfl rfl rfl) fun v16 H15 => ?_
        refine wpo_mv (a := (eI v16)) rfl rfl rfl (o_as tk rfl (Wk.refl _)) ?_
        refine wpo_nil ?_
        refine awp_region rfl ?_
        refine wpo_mv (a := (eI v16)) rfl rfl rfl (o_mv tk rfl (Wk.refl _)) ?_
        refine wpo_lt H15 eI rfl rfl rfl (o_ar tk rfl rfl rfl) fun v18 H17 => ?_
        refine wpo_mv (a := (eI v18)) rfl rfl rfl (o_as tk rfl (Wk.refl _)) ?_
        refine wpo_nil ?_
        refine awp_seq ?_
        refine awp_region rfl ?_
        refine wpo_mv (a := (eI v18)) rfl rfl rfl (o_mv tk rfl (Wk.refl _)) ?_
        refine wpo_lt H17 eI rfl rfl rfl (o_ar tk rfl rfl rfl) fun v20 H19 => ?_
        refine wpo_mv (a := (eI v20)) rfl rfl rfl (o_as tk rfl (Wk.refl _)) ?_
        refine wpo_nil ?_
        refine awp_exit ?_
        refine awp_seq ?_
        refine awp_region rfl ?_
        refine wpo_mv (a := (eI v20)) rfl rfl rfl (o_mv tk rfl (Wk.refl _)) ?_
        refine wpo_mv (a := (eI v20)) rfl rfl rfl (o_as tk rfl (Wk.refl _)) ?_
        refine wpo_nil ?_
        refine awp_ret ?_
        obtain rfl := Option.some.inj H19
        exact ⟨_, (eI v20), rfl, (.of_eq rfl), .of_eq ((enc_i64 td3 sz3).cut _ _ _), hH.noT⟩
      · refine awp_skip ?_
        refine awp_seq ?_
        refine awp_seq ?_
        refine awp_region rfl ?_
        refine wpo_mv (a := (eI x0)) rfl rfl rfl (o_mv tk rfl (Wk.refl _)) ?_
        refine wpo_lt H12 eB rfl rfl rfl (o_ar tk rfl rfl rfl) fun v22 H21 => ?_
        refine wpo_mv (a := (eB v22)) rfl rfl rfl (o_as tk rfl (Wk.refl _)) ?_
        refine wpo_nil ?_
        refine awp_if H21 rfl (fun H23 => ?_) (fun H23 => ?_)
        · refine awp_exit ?_
          refine awp_region rfl ?_
          refine wpo_mv (a := (eI (1 : Int))) rfl rfl rfl (o_mv tk rfl (Wk.refl _)) ?_
          refine wpo_lt H23 eI rfl rfl rfl (o_ar tk rfl rfl rfl) fun v25 H24 => ?_
          refine wpo_mv (a := (eI v25)) rfl rfl rfl (o_as tk rfl (Wk.refl _)) ?_
          refine wpo_nil ?_
          refine awp_region rfl ?_
          refine wpo_mv (a := (eI v25)) rfl rfl rfl (o_mv tk rfl (Wk.refl _)) ?_
          refine wpo_lt H24 eI rfl rfl rfl (o_ar tk rfl rfl rfl) fun v27 H26 => ?_
          refine wpo_mv (a := (eI v27)) rfl rfl rfl (o_as tk rfl (Wk.refl _)) ?_
          refine wpo_nil ?_
          refine awp_seq ?_
          refine awp_region rfl ?_
          refine wpo_mv (a := (eI v27)) rfl rfl rfl (o_mv tk rfl (Wk.refl _)) ?_
          refine wpo_lt H26 eI rfl rfl rfl (o_ar tk rfl rfl rfl) fun v29 H28 => ?_
          refine wpo_mv (a := (eI v29)) rfl rfl rfl (o_as tk rfl (Wk.refl _)) ?_
          refine wpo_nil ?_
          refine awp_exit ?_
          refine awp_seq ?_
          refine awp_region rfl ?_
          refine wpo_mv (a := (eI v29)) rfl rfl rfl (o_mv tk rfl (Wk.refl _)) ?_
          refine wpo_mv (a := (eI v29)) rfl rfl rfl (o_as tk rfl (Wk.refl _)) ?_
          refine wpo_nil ?_
          refine awp_ret ?_
          obtain rfl := Option.some.inj H28
          exact ⟨_, (eI v29), rfl, (.of_eq rfl), .of_eq ((enc_i64 td3 sz3).cut _ _ _), hH.noT⟩
        · refine awp_skip ?_
          refine awp_seq ?_
          refine awp_seq ?_
          refine awp_region rfl ?_
          refine wpo_mv (a := (eI x0)) rfl rfl rfl (o_mv tk rfl (Wk.refl _)) ?_
          refine wpo_lt H23 eB rfl rfl rfl (o_ar tk rfl rfl rfl) fun v31 H30 => ?_
          refine wpo_mv (a := (eB v31)) rfl rfl rfl (o_as tk rfl (Wk.refl _)) ?_
          refine wpo_nil ?_
          refine awp_if H30 rfl (fun H32 => ?_) (fun H32 => ?_)
          · refine awp_exit ?_
            refine awp_region rfl ?_
            refine wpo_mv (a := (eI (1 : Int))) rfl rfl rfl (o_mv tk rfl (Wk.refl _)) ?_
            refine wpo_lt H32 eI rfl rfl rfl (o_ar tk rfl rfl rfl) fun v34 H33 => ?_
            refine wpo_mv (a := (eI v34)) rfl rfl rfl (o_as tk rfl (Wk.refl _)) ?_
            refine wpo_nil ?_
            refine awp_seq ?_
            refine awp_region rfl ?_
            refine wpo_mv (a := (eI v34)) rfl rfl rfl (o_mv tk rfl (Wk.refl _)) ?_
            refine wpo_lt H33 eI rfl rfl rfl (o_ar tk rfl rfl rfl) fun v36 H35 => ?_
            refine wpo_mv (a := (eI v36)) rfl rfl rfl (o_as tk rfl (Wk.refl _)) ?_
            refine wpo_nil ?_
            refine awp_exit ?_
            refine awp_seq ?_
            refine awp_region rfl ?_
            refine wpo_mv (a := (eI v36)) rfl rfl rfl (o_mv tk rfl (Wk.refl _)) ?_
            refine wpo_mv (a := (eI v36)) rfl rfl rfl (o_as tk rfl (Wk.refl _)) ?_
            refine wpo_nil ?_
            refine awp_ret ?_
            obtain rfl := Option.some.inj H35
            exact ⟨_, (eI v36), rfl, (.of_eq rfl), .of_eq ((enc_i64 td3 sz3).cut _ _ _), hH.noT⟩
          · refine awp_skip ?_
            refine awp_seq ?_
            refine awp_region rfl ?_
            refine wpo_mv (a := (eI x0)) rfl rfl rfl (o_mv tk rfl (Wk.refl _)) ?_
            refine wpo_lt H32 eB rfl rfl rfl (o_ar tk rfl rfl rfl) fun v38 H37 => ?_
            refine wpo_mv (a := (eB v38)) rfl rfl rfl (o_as tk rfl (Wk.refl _)) ?_
            refine wpo_nil ?_
            refine awp_if H37 rfl (fun H39 => ?_) (fun H39 => ?_)
            · refine awp_exit ?_
              refine awp_seq ?_
              refine awp_region rfl ?_
              refine wpo_mv (a := (eI (1 : Int))) rfl rfl rfl (o_mv tk rfl (Wk.refl _)) ?_
              refine wpo_lt H39 eI rfl rfl rfl (o_ar tk rfl rfl rfl) fun v41 H40 => ?_
              refine wpo_mv (a := (eI v41)) rfl rfl rfl (o_as tk rfl (Wk.refl _)) ?_
              refine wpo_nil ?_
              refine awp_exit ?_
              refine awp_seq ?_
              refine awp_region rfl ?_
              refine wpo_mv (a := (eI v41)) rfl rfl rfl (o_mv tk rfl (Wk.refl _)) ?_
              refine wpo_mv (a := (eI v41)) rfl rfl rfl (o_as tk rfl (Wk.refl _)) ?_
              refine wpo_nil ?_
              refine awp_ret ?_
              obtain rfl := Option.some.inj H40
              exact ⟨_, (eI v41), rfl, (.of_eq rfl), .of_eq ((enc_i64 td3 sz3).cut _ _ _), hH.noT⟩
            · refine awp_skip ?_
              refine awp_exit ?_
              refine awp_seq ?_
              refine awp_region rfl ?_
              refine wpo_mv (a := (eI (1 : Int))) rfl rfl rfl (o_mv tk rfl (Wk.refl _)) ?_
              refine wpo_mv (a := (eI (1 : Int))) rfl rfl rfl (o_as tk rfl (Wk.refl _)) ?_
              refine wpo_nil ?_
              refine awp_ret ?_
              obtain rfl := Option.some.inj H39
              exact ⟨_, (eI (1 : Int)), rfl, (.of_eq rfl), .of_eq ((enc_i64 td3 sz3).cut _ _ _), hH.noT⟩
theorem octets_Len_ok {x0 : Int} {r : Int} (H : octets_Len x0 = some r) (σ : St)  : ACall Tryd.prog 128 [(eI x0)] σ (fun a τ => a = eI r ∧ τ = σ) := octets_Len_n_ok _ H σ
end Go.Proofs.YtkmlinaofbcbaaaDoor
namespace Go.Proofs.YtkmlinaofbcbaaaDoor
open Go Go.Va
set_option linter.unusedVariables false
set_option linter.unusedSimpArgs false
set_option maxRecDepth 20000
theorem item_Size_ok {x0 : api_Entry} {r : Int} (H : item_Size x0 = some r) (σ : St)  : ACall Tryd.prog 100 [(e_api_Entry x0)] σ (fun a τ => a = eI r ∧ τ = σ) := by
  unfold item_Size at H
  refine ACall.pure (acall_start tk Tryd.func100 (by decide) rfl (Nat.le_of_ble_eq_true rfl) ?_)
  have hH := Holds.init σ
  refine awp_seq ?_
  refine awp_region rfl ?_
  refine wpo_mv (a := (.fptr (c_api_Entry x0) 0)) rfl rfl rfl (o_boxf tk rfl (.of_eq rfl) (b := (e_api_Entry x0)) (enc24.flat _)) ?_
  refine wpo_mv (a := (eI (0 : Int))) rfl rfl rfl (o_as tk rfl (Wk.refl _)) ?_
  refine wpo_nil ?_
  refine awp_seq ?_
  refine awp_drawS mixed [] rfl (by decide +kernel) rfl rfl ?_
  refine wpdS_mv (a := (.fptr (c_api_Entry x0) 0)) rfl rfl rfl (o_c tk false rfl (fun _ => rfl)) ?_
  refine wpdS_mv (a := (eS x0.Key)) rfl rfl rfl (o_ld tk rfl rfl) ?_
  refine wpdS_lt H eI rfl rfl rfl (o_len_s tk td9 rfl) fun v2 H1 => ?_
  refine wpdS_bd H1 eI rfl rfl rfl (fun v4 hv => OpP.of_call rfl rfl (.cons (.of_eq rfl) .nil) (octets_Len_ok hv)) fun v4 hv4 H3 => ?_
  refine wpdS_mv (a := (.fptr (c_api_Entry x0) 0)) rfl rfl rfl (o_c tk false rfl (fun _ => rfl)) ?_
  refine wpdS_mv (a := (eS x0.Key)) rfl rfl rfl (o_ld tk rfl rfl) ?_
  refine wpdS_lt H3 eI rfl rfl rfl (o_len_s tk td9 rfl) fun v6 H5 => ?_
  refine wpdS_lt H5 eI rfl rfl rfl (o_ar tk rfl rfl rfl) fun v8 H7 => ?_
  refine wpdS_mv (a := (.fptr (c_api_Entry x0) 4)) rfl rfl rfl (o_c tk false rfl (fun _ => rfl)) ?_
  refine wpdS_mv (a := ((eL 1 (@eU .u8 8)) x0.Value)) rfl rfl rfl (o_ld tk rfl rfl) ?_
  refine wpdS_lt H7 eI rfl rfl rfl (o_len tk td22 rfl) fun v10 H9 => ?_
  refine wpdS_bd H9 eI rfl rfl rfl (fun v12 hv => OpP.of_call rfl rfl (.cons (.of_eq rfl) .nil) (octets_Len_ok hv)) fun v12 hv12 H11 => ?_
  refine wpdS_lt H11 eI rfl rfl rfl (o_ar tk rfl rfl rfl) fun v14 H13 => ?_
  refine wpdS_mv (a := (.fptr (c_api_Entry x0) 4)) rfl rfl rfl (o_c tk false rfl (fun _ => rfl)) ?_
  refine wpdS_mv (a := ((eL 1 (@eU .u8 8)) x0.Value)) rfl rfl rfl (o_ld tk rfl rfl) ?_
  refine wpdS_lt H13 eI rfl rfl rfl (o_len tk td22 rfl) fun v16 H15 => ?_
  refine wpdS_lt H15 eI rfl rfl rfl (o_ar tk rfl rfl rfl) fun v18 H17 => ?_
  refine wpdS_mv (a := (eI v18)) rfl rfl rfl (o_as tk rfl (Wk.refl _)) ?_
  refine wpdS_nil ?_
  refine awp_seq ?_
  refine awp_drawS mixed [] rfl (by decide +kernel) rfl rfl ?_
  refine wpdS_mv (a := (eI v18)) rfl rfl rfl (o_mv tk rfl (Wk.refl _)) ?_
  refine wpdS_mv (a := (.fptr (c_api_Entry x0) 1)) rfl rfl rfl (o_c tk false rfl (fun _ => rfl)) ?_
  refine wpdS_mv (a := (eI x0.Version)) rfl rfl rfl (o_ld tk rfl rfl) ?_
  refine wpdS_bd H17 eI rfl rfl rfl (fun v20 hv => OpP.of_call rfl rfl (.cons (.of_eq rfl) .nil) (octets_Len_ok hv)) fun v20 hv20 H19 => ?_
  refine wpdS_lt H19 eI rfl rfl rfl (o_ar tk rfl rfl rfl) fun v22 H21 => ?_
  refine wpdS_mv (a := (.fptr (c_api_Entry x0) 2)) rfl rfl rfl (o_c tk false rfl (fun _ => rfl)) ?_
  refine wpdS_mv (a := (eI x0.AsOf)) rfl rfl rfl (o_ld tk rfl rfl) ?_
  refine wpdS_bd H21 eI rfl rfl rfl (fun v24 hv => OpP.of_call rfl rfl (.cons (.of_eq rfl) .nil) (octets_Len_ok hv)) fun v24 hv24 H23 => ?_
  refine wpdS_lt H23 eI rfl rfl rfl (o_ar tk rfl rfl rfl) fun v26 H25 => ?_
  refine wpdS_mv (a := (.fptr (c_api_Entry x0) 3)) rfl rfl rfl (o_c tk false rfl (fun _ => rfl)) ?_
  refine wpdS_mv (a := (eI x0.Ends)) rfl rfl rfl (o_ld tk rfl rfl) ?_
  refine wpdS_bd H25 eI rfl rfl rfl (fun v28 hv => OpP.of_call rfl rfl (.cons (.of_eq rfl) .nil) (octets_Len_ok hv)) fun v28 hv28 H27 => ?_
  refine wpdS_lt H27 eI rfl rfl rfl (o_ar tk rfl rfl rfl) fun v30 H29 => ?_
  refine wpdS_mv (a := (eI v30)) rfl rfl rfl (o_as tk rfl (Wk.refl _)) ?_
  refine wpdS_nil ?_
  refine awp_ret ?_
  obtain rfl := Option.some.inj H29
  exact ⟨_, (eI v30), rfl, (.of_eq rfl), .of_eq ((enc_i64 td3 sz3).cut _ _ _), hH.noT⟩
end Go.Proofs.YtkmlinaofbcbaaaDoor
namespace Go.Proofs.YtkmlinaofbcbaaaDoor
open Go Go.Va
set_option linter.unusedVariables false
set_option linter.unusedSimpArgs false
set_option maxRecDepth 20000
theorem bloom_Mix_ok {x0 : BitVec 64} {r : (BitVec 64)} (H : bloom_Mix x0 = some r) (σ : St)  : ACall Tryd.prog 107 [((@eU .u64 64) x0)] σ (fun a τ => a = (@eU .u64 64) r ∧ τ = σ) := by
  unfold bloom_Mix at H
  refine ACall.pure (acall_start tk Tryd.func107 (by decide) rfl (Nat.le_of_ble_eq_true rfl) ?_)
  have hH := Holds.init σ
  refine awp_seq ?_
  refine awp_region rfl ?_
  refine wpo_mv (a := ((@eU .u64 64) 0#64)) rfl rfl rfl (o_as tk rfl (Wk.refl _)) ?_
  refine wpo_nil ?_
  refine awp_seq ?_
  refine awp_region rfl ?_
  refine wpo_mv (a := ((@eU .u64 64) x0)) rfl rfl rfl (o_mv tk rfl (Wk.refl _)) ?_
  refine wpo_mv (a := ((@eU .u64 64) x0)) rfl rfl rfl (o_mv tk rfl (Wk.refl _)) ?_
  refine wpo_lt H (@eU .u64 64) rfl rfl rfl (o_shr_u tk rfl (y := (33 : Int)) rfl rfl rfl) fun v2 H1 => ?_
  refine wpo_lt H1 (@eU .u64 64) rfl rfl rfl (o_xor_u tk rfl rfl rfl) fun v4 H3 => ?_
  refine wpo_mv (a := ((@eU .u64 64) v4)) rfl rfl rfl (o_as tk rfl (Wk.refl _)) ?_
  refine wpo_nil ?_
  refine awp_seq ?_
  refine awp_region rfl ?_
  refine wpo_mv (a := ((@eU .u64 64) v4)) rfl rfl rfl (o_mv tk rfl (Wk.refl _)) ?_
  refine wpo_lt H3 (@eU .u64 64) rfl rfl rfl (o_mul_u tk rfl rfl rfl) fun v6 H5 => ?_
  refine wpo_mv (a := ((@eU .u64 64) v6)) rfl rfl rfl (o_as tk rfl (Wk.refl _)) ?_
  refine wpo_nil ?_
  refine awp_seq ?_
  refine awp_region rfl ?_
  refine wpo_mv (a := ((@eU .u64 64) v6)) rfl rfl rfl (o_mv tk rfl (Wk.refl _)) ?_
  refine wpo_mv (a := ((@eU .u64 64) v6)) rfl rfl rfl (o_mv tk rfl (Wk.refl _)) ?_
  refine wpo_lt H5 (@eU .u64 64) rfl rfl rfl (o_shr_u tk rfl (y := (33 : Int)) rfl rfl rfl) fun v8 H7 => ?_
  refine wpo_lt H7 (@eU .u64 64) rfl rfl rfl (o_xor_u tk rfl rfl rfl) fun v10 H9 => ?_
  refine wpo_mv (a := ((@eU .u64 64) v10)) rfl rfl rfl (o_as tk rfl (Wk.refl _)) ?_
  refine wpo_nil ?_
  refine awp_seq ?_
  refine awp_region rfl ?_
  refine wpo_mv (a := ((@eU .u64 64) v10)) rfl rfl rfl (o_mv tk rfl (Wk.refl _)) ?_
  refine wpo_lt H9 (@eU .u64 64) rfl rfl rfl (o_mul_u tk rfl rfl rfl) fun v12 H11 => ?_
  refine wpo_mv (a := ((@eU .u64 64) v12)) rfl rfl rfl (o_as tk rfl (Wk.refl _)) ?_
  refine wpo_nil ?_
  refine awp_seq ?_
  refine awp_region rfl ?_
  refine wpo_mv (a := ((@eU .u64 64) v12)) rfl rfl rfl (o_mv tk rfl (Wk.refl _)) ?_
  refine wpo_mv (a := ((@eU .u64 64) v12)) rfl rfl rfl (o_mv tk rfl (Wk.refl _)) ?_
  refine wpo_lt H11 (@eU .u64 64) rfl rfl rfl (o_shr_u tk rfl (y := (33 : Int)) rfl rfl rfl) fun v14 H13 => ?_
  refine wpo_lt H13 (@eU .u64 64) rfl rfl rfl (o_xor_u tk rfl rfl rfl) fun v16 H15 => ?_
  refine wpo_mv (a := ((@eU .u64 64) v16)) rfl rfl rfl (o_as tk rfl (Wk.refl _)) ?_
  refine wpo_nil ?_
  refine awp_ret ?_
  obtain rfl := Option.some.inj H15
  exact ⟨_, ((@eU .u64 64) v16), rfl, (.of_eq rfl), .of_eq ((enc_u td72 sz72).cut _ _ _), hH.noT⟩
end Go.Proofs.YtkmlinaofbcbaaaDoor
namespace Go.Proofs.YtkmlinaofbcbaaaDoor
open Go Go.Va
set_option linter.unusedVariables false
set_option linter.unusedSimpArgs false
set_option maxRecDepth 20000
theorem bloom_Hash_ok {x0 : List (BitVec 8)} {r : (BitVec 64)} (H : bloom_Hash x0 = some r) (σ : St)  : ACall Tryd.prog 47 [(eS x0)] σ (fun a τ => a = (@eU .u64 64) r ∧ τ = σ) := by
  unfold bloom_Hash at H
  refine ACall.pure (acall_start tk Tryd.func47 (by decide) rfl (Nat.le_of_ble_eq_true rfl) ?_)
  have hH := Holds.init σ
  refine awp_seq ?_
  refine awp_region rfl ?_
  refine wpo_mv (a := ((@eU .u64 64) 0#64)) rfl rfl rfl (o_as tk rfl (Wk.refl _)) ?_
  refine wpo_nil ?_
  refine awp_seq ?_
  refine awp_region rfl ?_
  refine wpo_mv (a := ((@eU .u64 64) 14695981039346656037#64)) rfl rfl rfl (o_as tk rfl (Wk.refl _)) ?_
  refine wpo_nil ?_
  refine awp_seq ?_
  refine awp_seq ?_
  refine awp_region rfl ?_
  refine wpo_mv (a := (eS x0)) rfl rfl rfl (o_mv tk rfl (Wk.refl _)) ?_
  refine wpo_lt H eI rfl rfl rfl (o_len_s tk td9 rfl) fun v2 H1 => ?_
  refine wpo_mv (a := (eI (0 : Int))) rfl rfl rfl (o_mv tk rfl (Wk.refl _)) ?_
  refine wpo_nil ?_
  refine awp_block ?_
  obtain ⟨s12, hs6, hj7⟩ := Option.bind_eq_some_iff.1 H1
  refine awp_cutx 0 (fun fr τ => WkF fr (fm [(3, ((@eU .u64 64) s12))]) ∧ Holds σ [] [] τ) ?_ ?_
  · rintro fr τ ⟨hfr, hH⟩
    have H27 := hj7
    refine AWP.fm [(3, ((@eU .u64 64) s12))] hfr ?_
    refine awp_seq ?_
    refine awp_region rfl ?_
    refine wpo_mv (a := ((@eU .u64 64) s12)) rfl rfl rfl (o_mv tk rfl (Wk.refl _)) ?_
    refine wpo_bd H27 (@eU .u64 64) rfl rfl rfl (fun v29 hv => OpP.of_call rfl rfl (.cons (.of_eq rfl) .nil) (bloom_Mix_ok hv)) fun v29 hv29 H28 => ?_
    refine wpo_mv (a := ((@eU .u64 64) v29)) rfl rfl rfl (o_as tk rfl (Wk.refl _)) ?_
    refine wpo_nil ?_
    refine awp_ret ?_
    obtain rfl := Option.some.inj H28
    exact ⟨_, ((@eU .u64 64) v29), rfl, (.of_eq rfl), .of_eq ((enc_u td72 sz72).cut _ _ _), hH.noT⟩
  · refine awp_loopO (body := fun s => bloom_Hash_b0 x0 v2 s.1 s.2) hs6 (fun (s : (BitVec 64) × Int) fr τ => WkF fr (fm [(0, (eS x0)), (3, ((@eU .u64 64) s.1)), (6, (eI v2)), (7, (eI s.2))]) ∧ Holds σ [] [] τ) ⟨(wkf_cons (.of_eq rfl) (wkf_cons (.of_eq rfl) (wkf_cons (.of_eq rfl) (wkf_cons (.of_eq rfl) (wkf_nil _))))), hH⟩ ?_
    rintro ⟨c3, c4⟩ fr τ y8 ⟨hfr, hH⟩ hb10 hy11
    have H13 : bloom_Hash_b0 x0 v2 c3 c4 = some y8 := hb10
    unfold bloom_Hash_b0 at H13
    refine AWP.fm [(0, (eS x0)), (3, ((@eU .u64 64) c3)), (6, (eI v2)), (7, (eI c4))] hfr ?_
    have hH : Holds σ [] [] τ := hH
    refine awp_seq ?_
    refine awp_region rfl ?_
    refine wpo_lt H13 eB rfl rfl rfl (o_ar tk rfl rfl rfl) fun v15 H14 => ?_
    refine wpo_nil ?_
    refine awp_seq ?_
    refine awp_if H14 rfl (fun H16 => ?_) (fun H16 => ?_)
    · refine awp_skip ?_
      refine awp_seq ?_
      refine awp_block ?_
      refine awp_seq ?_
      refine awp_region rfl ?_
      refine wpo_mv (a := (eI c4)) rfl rfl rfl (o_mv tk rfl (Wk.refl _)) ?_
      refine wpo_mv (a := (eI c4)) rfl rfl rfl (o_as tk rfl (Wk.refl _)) ?_
      refine wpo_nil ?_
      refine awp_region rfl ?_
      refine wpo_mv (a := ((@eU .u64 64) c3)) rfl rfl rfl (o_mv tk rfl (Wk.refl _)) ?_
      refine wpo_mv (a := (eS x0)) rfl rfl rfl (o_mv tk rfl (Wk.refl _)) ?_
      refine wpo_mv (a := (eI c4)) rfl rfl rfl (o_mv tk rfl (Wk.refl _)) ?_
      refine wpo_bd H16 (@eU .u8 8) rfl rfl rfl (fun v18 hv => o_six tk hv td9 rfl rfl) fun v18 hv18 H17 => ?_
      refine wpo_lt H17 (@eU .u64 64) rfl rfl rfl (o_cv_uu tk td5 td72 rfl rfl) fun v20 H19 => ?_
      refine wpo_lt H19 (@eU .u64 64) rfl rfl rfl (o_xor_u tk rfl rfl rfl) fun v22 H21 => ?_
      refine wpo_lt H21 (@eU .u64 64) rfl rfl rfl (o_mul_u tk rfl rfl rfl) fun v24 H23 => ?_
      refine wpo_mv (a := ((@eU .u64 64) v24)) rfl rfl rfl (o_as tk rfl (Wk.refl _)) ?_
      refine wpo_nil ?_
      refine awp_region rfl ?_
      refine wpo_lt H23 eI rfl rfl rfl (o_ar tk rfl rfl rfl) fun v26 H25 => ?_
      refine wpo_mv (a := (eI v26)) rfl rfl rfl (o_mv tk rfl (Wk.refl _)) ?_
      refine wpo_nil ?_
      exact ⟨(v24, v26), inj_inl H25, (wkf_cons (.of_eq rfl) (wkf_cons (.of_eq rfl) (wkf_cons (.of_eq rfl) (wkf_cons (.of_eq rfl) (wkf_nil _))))), hH⟩
    · refine awp_exit ?_
      have hz := hy11 _ (inj_inr H16)
      subst hz
      exact ⟨⟨_, inj_inr H16⟩, (wkf_cons (.of_eq rfl) (wkf_nil _)), hH⟩
end Go.Proofs.YtkmlinaofbcbaaaDoor
namespace Go.Proofs.YtkmlinaofbcbaaaDoor
open Go Go.Va
set_option linter.unusedVariables false
set_option linter.unusedSimpArgs false
set_option maxRecDepth 20000
theorem region_Marks_app {x0 : List api_Entry} {r : (List api_Mark)} (H : region_Marks x0 = some r) (σ : St)  : ACall Tryd.prog 37 [((eL 5 e_api_Entry) x0)] σ (fun a τ => a = .sl (.own σ.opn.length) 3 (r.map e_api_Mark) ∧ τ = σ.more) := by
  unfold region_Marks at H
  refine ACall.app (fun ρ κ => cutL_enc enc74.cut ρ κ r) (acall_start tk Tryd.func37 (by decide) rfl (Nat.le_of_ble_eq_true rfl) ?_)
  have hH := Holds.init σ
  refine awp_seq ?_
  refine awp_region rfl ?_
  refine wpo_mv (a := AV.nils) rfl rfl rfl (o_as tk rfl (Wk.refl _)) ?_
  refine wpo_nil ?_
  refine awp_seq ?_
  refine awp_region rfl ?_
  refine wpo_mv (a := AV.nils) rfl rfl rfl (o_as tk rfl (Wk.refl _)) ?_
  refine wpo_nil ?_
  refine awp_seq ?_
  refine awp_region rfl ?_
  refine wpo_mv (a := (eI (0 : Int))) rfl rfl rfl (o_as tk rfl (Wk.refl _)) ?_
  refine wpo_nil ?_
  refine awp_seq ?_
  refine awp_seq ?_
  refine awp_region rfl ?_
  refine wpo_mv (a := ((eL 5 e_api_Entry) x0)) rfl rfl rfl (o_mv tk rfl (Wk.refl _)) ?_
  refine wpo_lt H eI rfl rfl rfl (o_len tk td60 rfl) fun v2 H1 => ?_
  refine wpo_mv (a := (eI (0 : Int))) rfl rfl rfl (o_mv tk rfl (Wk.refl _)) ?_
  refine wpo_nil ?_
  refine awp_block ?_
  refine AWP.tokN hH 3 3 rfl fun tk6 τ hH => ?_
  obtain ⟨s14, hs8, hj9⟩ := Option.bind_eq_some_iff.1 H1
  refine awp_cutx 0 (fun fr τ => ∃ tk_3, WkF fr (fm [(3, (eT tk_3 3 e_api_Mark s14))]) ∧ Holds σ [] [tk_3] τ) ?_ ?_
  · rintro fr τ ⟨tk_3, hfr, hH⟩
    have H40 := hj9
    refine AWP.fm [(3, (eT tk_3 3 e_api_Mark s14))] hfr ?_
    refine awp_seq ?_
    refine awp_region rfl ?_
    refine wpo_mv (a := (eT tk_3 3 e_api_Mark s14)) rfl rfl rfl (o_mv tk rfl (Wk.refl _)) ?_
    refine wpo_mv (a := (eT tk_3 3 e_api_Mark s14)) rfl rfl rfl (o_as tk rfl (Wk.refl _)) ?_
    refine wpo_nil ?_
    refine awp_ret ?_
    obtain rfl := Option.some.inj H40
    exact ⟨_, (eT tk_3 3 e_api_Mark s14), rfl, .of_eq rfl, tk_3, rfl, hH⟩
  · refine awp_loopO (body := fun s => region_Marks_b0 x0 v2 s.1 s.2.1 s.2.2) hs8 (fun (s : (List api_Mark) × Int × Int) fr τ => ∃ tk_3, WkF fr (fm [(3, (eT tk_3 3 e_api_Mark s.1)), (4, (eI s.2.1)), (8, ((eL 5 e_api_Entry) x0)), (9, (eI v2)), (10, (eI s.2.2))]) ∧ Holds σ [] [tk_3] τ) ⟨tk6, (wkf_cons (.of_eq rfl) (wkf_cons (.of_eq rfl) (wkf_cons (.of_eq rfl) (wkf_cons (.of_eq rfl) (wkf_cons (.of_eq rfl) (wkf_nil _)))))), hH⟩ ?_
    rintro ⟨c3, c4, c5⟩ fr τ y10 ⟨tk_3, hfr, hH⟩ hb12 hy13
    have H15 : region_Marks_b0 x0 v2 c3 c4 c5 = some y10 := hb12
    unfold region_Marks_b0 at H15
    refine AWP.fm [(3, (eT tk_3 3 e_api_Mark c3)), (4, (eI c4)), (8, ((eL 5 e_api_Entry) x0)), (9, (eI v2)), (10, (eI c5))] hfr ?_
    have hH : Holds σ [] [tk_3] τ := hH
    refine awp_seq ?_
    refine awp_region rfl ?_
    refine wpo_lt H15 eB rfl rfl rfl (o_ar tk rfl rfl rfl) fun v17 H16 => ?_
    refine wpo_nil ?_
    refine awp_seq ?_
    refine awp_if H16 rfl (fun H18 => ?_) (fun H18 => ?_)
    · refine awp_skip ?_
      refine awp_seq ?_
      refine awp_block ?_
      refine awp_seq ?_
      refine awp_region rfl ?_
      refine wpo_bd H18 (fun y => .fptr (e_api_Entry y).cells 0) rfl rfl rfl (fun v20 hv => o_ixa tk hv td60 enc24 rfl rfl) fun v20 hv20 H19 => ?_
      refine wpo_mv (a := (e_api_Entry v20)) rfl rfl rfl (o_ld_e tk enc24 rfl rfl) ?_
      refine wpo_a (av := fun id => .ref id 0) rfl rfl rfl (h_alloc tk hH ty24 [(eS z_api_Entry.Key), (eI z_api_Entry.Version), (eI z_api_Entry.AsOf), (eI z_api_Entry.Ends), AV.nils] rfl) fun id21 τ ⟨hH, n22⟩ => ?_
      refine wpo_z rfl rfl (h_st tk hH 0 rfl ty24 (by simp) rfl rfl (.of_eq rfl) (b := (e_api_Entry v20)) (enc24.flat _) rfl (Nat.le_of_ble_eq_true rfl) (c_api_Entry (v20 : api_Entry)) rfl) fun τ hH => ?_
      refine wpo_nil ?_
      refine awp_seq ?_
      refine awp_region rfl ?_
      refine wpo_rd (a := (e_api_Entry (v20 : api_Entry))) rfl rfl rfl (h_ld tk hH 0 rfl rfl rfl) ?_
      refine wpo_bd H19 eI rfl rfl rfl (fun v25 hv => OpP.of_call rfl rfl (.cons (.of_eq rfl) .nil) (item_Size_ok hv)) fun v25 hv25 H24 => ?_
      refine wpo_mv (a := (eI v25)) rfl rfl rfl (o_as tk rfl (Wk.refl _)) ?_
      refine wpo_nil ?_
      refine awp_seq ?_
      refine awp_region rfl ?_
      refine wpo_mv (a := (eT tk_3 3 e_api_Mark c3)) rfl rfl rfl (o_mv tk rfl (Wk.refl _)) ?_
      refine wpo_mv (a := (.ref id21 0)) rfl rfl rfl (o_c tk false rfl (fun _ => rfl)) ?_
      refine wpo_rd (a := (eS (v20 : api_Entry).Key)) rfl rfl rfl (h_ld tk hH 0 rfl rfl rfl) ?_
      refine wpo_bd H24 (@eU .u64 64) rfl rfl rfl (fun v27 hv => OpP.of_call rfl rfl (.cons (.of_eq rfl) .nil) (bloom_Hash_ok hv)) fun v27 hv27 H26 => ?_
      refine wpo_mv (a := (eI c4)) rfl rfl rfl (o_mv tk rfl (Wk.refl _)) ?_
      refine wpo_mv (a := (eI v25)) rfl rfl rfl (o_mv tk rfl (Wk.refl _)) ?_
      refine wpo_lt H26 e_api_Mark rfl rfl rfl (o_c tk false rfl (fun _ => rfl)) fun v29 H28 => ?_
      refine wpo_lt H28 (eF 3 e_api_Mark) rfl rfl rfl (o_c tk false rfl (fun _ => rfl)) fun v31 H30 => ?_
      obtain ⟨v33, hv34, H32⟩ := Option.bind_eq_some_iff.1 H30
      refine wpo_a (av := fun t => eT t 3 e_api_Mark v33) rfl rfl rfl (h_app tk hH 0 hv34 rfl td70 ty74 rfl (by decide) rfl (src_l td70 rfl)) fun tk35 τ hH => ?_
      refine wpo_mv (a := (eT tk35 3 e_api_Mark v33)) rfl rfl rfl (o_as tk rfl (Wk.refl _)) ?_
      refine wpo_nil ?_
      refine awp_region rfl ?_
      refine wpo_mv (a := (eI c4)) rfl rfl rfl (o_mv tk rfl (Wk.refl _)) ?_
      refine wpo_mv (a := (eI v25)) rfl rfl rfl (o_mv tk rfl (Wk.refl _)) ?_
      refine wpo_lt H32 eI rfl rfl rfl (o_ar tk rfl rfl rfl) fun v37 H36 => ?_
      refine wpo_mv (a := (eI v37)) rfl rfl rfl (o_as tk rfl (Wk.refl _)) ?_
      refine wpo_nil ?_
      refine awp_region rfl ?_
      refine wpo_lt H36 eI rfl rfl rfl (o_ar tk rfl rfl rfl) fun v39 H38 => ?_
      refine wpo_mv (a := (eI v39)) rfl rfl rfl (o_mv tk rfl (Wk.refl _)) ?_
      refine wpo_nil ?_
      exact ⟨(v33, v37, v39), inj_inl H38, tk35, (wkf_cons (.of_eq rfl) (wkf_cons (.of_eq rfl) (wkf_cons (.of_eq rfl) (wkf_cons (.of_eq rfl) (wkf_cons (.of_eq rfl) (wkf_nil _)))))), (hH.drop n22)⟩
    · refine awp_exit ?_
      have hz := hy13 _ (inj_inr H18)
      subst hz
      exact ⟨⟨_, inj_inr H18⟩, tk_3, (wkf_cons (.of_eq rfl) (wkf_nil _)), hH⟩
theorem region_Marks_ok {x0 : List api_Entry} {r : (List api_Mark)} (H : region_Marks x0 = some r) (σ : St) : ACall Tryd.prog 37 [((eL 5 e_api_Entry) x0)] σ (fun a τ => a = (eL 3 e_api_Mark) r ∧ τ = σ) := (region_Marks_app H σ).unapp (fun ρ κ => cutL_enc enc74.cut ρ κ r)
end Go.Proofs.YtkmlinaofbcbaaaDoor
namespace Go.Proofs.YtkmlinaofbcbaaaDoor
open Go Go.Va
set_option linter.unusedVariables false
set_option linter.unusedSimpArgs false
set_option maxRecDepth 20000
theorem octets_Bytes_app {x0 : List (BitVec 8)} {x1 : List (BitVec 8)} {r : (List (BitVec 8))} (H : octets_Bytes x0 x1 = some r) (σ : St)  : ACall Tryd.prog 62 [((eL 1 (@eU .u8 8)) x0), ((eL 1 (@eU .u8 8)) x1)] σ (fun a τ => a = .sl (.own σ.opn.length) 1 (r.map (@eU .u8 8)) ∧ τ = σ.more) := by
  unfold octets_Bytes at H
  refine ACall.app (fun ρ κ => cutL_enc (enc_u td5 sz5).cut ρ κ r) (acall_start tk Tryd.func62 (by decide) rfl (Nat.le_of_ble_eq_true rfl) ?_)
  have hH := Holds.init σ
  refine awp_seq ?_
  refine awp_region rfl ?_
  refine wpo_mv (a := AV.nils) rfl rfl rfl (o_as tk rfl (Wk.refl _)) ?_
  refine wpo_nil ?_
  refine awp_seq ?_
  refine awp_region rfl ?_
  refine wpo_mv (a := ((eL 1 (@eU .u8 8)) x0)) rfl rfl rfl (o_mv tk rfl (Wk.refl _)) ?_
  refine wpo_mv (a := ((eL 1 (@eU .u8 8)) x1)) rfl rfl rfl (o_mv tk rfl (Wk.refl _)) ?_
  refine wpo_lt H eI rfl rfl rfl (o_len tk td22 rfl) fun v2 H1 => ?_
  refine wpo_lt H1 (eF 1 eI) rfl rfl rfl (o_c tk false rfl (fun _ => rfl)) fun v4 H3 => ?_
  refine wpo_cb H3 (fun x t => eT t 1 (@eU .u8 8) x) rfl rfl rfl (fun v6 hv => h_calla hH rfl rfl (.cons (.of_eq rfl) (.cons wk_no .nil)) (octets_Put_app hv _)) fun v6 tk7 τ hv6 H5 hH => ?_
  refine wpo_mv (a := ((eL 1 (@eU .u8 8)) x1)) rfl rfl rfl (o_mv tk rfl (Wk.refl _)) ?_
  obtain ⟨v9, hv10, H8⟩ := Option.bind_eq_some_iff.1 H5
  refine wpo_a (av := fun t => eT t 1 (@eU .u8 8) v9) rfl rfl rfl (h_app tk hH 0 hv10 rfl td22 ty5 rfl (by decide) rfl (src_l td22 rfl)) fun tk11 τ hH => ?_
  refine wpo_mv (a := (eT tk11 1 (@eU .u8 8) v9)) rfl rfl rfl (o_as tk rfl (Wk.refl _)) ?_
  refine wpo_nil ?_
  refine awp_ret ?_
  obtain rfl := Option.some.inj H8
  exact ⟨_, (eT tk11 1 (@eU .u8 8) v9), rfl, .of_eq rfl, tk11, rfl, hH⟩
theorem octets_Bytes_ok {x0 : List (BitVec 8)} {x1 : List (BitVec 8)} {r : (List (BitVec 8))} (H : octets_Bytes x0 x1 = some r) (σ : St) : ACall Tryd.prog 62 [((eL 1 (@eU .u8 8)) x0), ((eL 1 (@eU .u8 8)) x1)] σ (fun a τ => a = (eL 1 (@eU .u8 8)) r ∧ τ = σ) := (octets_Bytes_app H σ).unapp (fun ρ κ => cutL_enc (enc_u td5 sz5).cut ρ κ r)
end Go.Proofs.YtkmlinaofbcbaaaDoor
namespace Go.Proofs.YtkmlinaofbcbaaaDoor
open Go Go.Va
set_option linter.unusedVariables false
set_option linter.unusedSimpArgs false
set_option maxRecDepth 20000
theorem item_Put_app {x0 : List (BitVec 8)} {x1 : api_Entry} {r : (List (BitVec 8))} (H : item_Put x0 x1 = some r) (σ : St)  : ACall Tryd.prog 103 [((eL 1 (@eU .u8 8)) x0), (e_api_Entry x1)] σ (fun a τ => a = .sl (.own σ.opn.length) 1 (r.map (@eU .u8 8)) ∧ τ = σ.more) := by
  unfold item_Put at H
  refine ACall.app (fun ρ κ => cutL_enc (enc_u td5 sz5).cut ρ κ r) (acall_start tk Tryd.func103 (by decide) rfl (Nat.le_of_ble_eq_true rfl) ?_)
  have hH := Holds.init σ
  refine awp_seq ?_
  refine awp_region rfl ?_
  refine wpo_mv (a := (.fptr (c_api_Entry x1) 0)) rfl rfl rfl (o_boxf tk rfl (.of_eq rfl) (b := (e_api_Entry x1)) (enc24.flat _)) ?_
  refine wpo_mv (a := AV.nils) rfl rfl rfl (o_as tk rfl (Wk.refl _)) ?_
  refine wpo_nil ?_
  refine awp_seq ?_
  refine awp_region rfl ?_
  refine wpo_mv (a := ((eL 1 (@eU .u8 8)) x0)) rfl rfl rfl (o_mv tk rfl (Wk.refl _)) ?_
  refine wpo_mv (a := (.fptr (c_api_Entry x1) 0)) rfl rfl rfl (o_c tk false rfl (fun _ => rfl)) ?_
  refine wpo_mv (a := (eS x1.Key)) rfl rfl rfl (o_ld tk rfl rfl) ?_
  refine wpo_bd H (eL 1 (@eU .u8 8)) rfl rfl rfl (fun v2 hv => o_s2b tk hv td9 td22 td5 rfl) fun v2 hv2 H1 => ?_
  refine wpo_bd H1 (eL 1 (@eU .u8 8)) rfl rfl rfl (fun v4 hv => OpP.of_call rfl rfl (.cons (.of_eq rfl) (.cons (.of_eq rfl) .nil)) (octets_Bytes_ok hv)) fun v4 hv4 H3 => ?_
  refine wpo_mv (a := ((eL 1 (@eU .u8 8)) v4)) rfl rfl rfl (o_as tk rfl (Wk.refl _)) ?_
  refine wpo_nil ?_
  refine awp_seq ?_
  refine awp_drawS mixed [11] rfl (by decide +kernel) rfl rfl ?_
  refine wpdS_mv (a := ((eL 1 (@eU .u8 8)) v4)) rfl rfl rfl (o_mv tk rfl (Wk.refl _)) ?_
  refine wpdS_mv (a := (.fptr (c_api_Entry x1) 1)) rfl rfl rfl (o_c tk false rfl (fun _ => rfl)) ?_
  refine wpdS_mv (a := (eI x1.Version)) rfl rfl rfl (o_ld tk rfl rfl) ?_
  refine wpdS_mv (a := (.fptr (c_api_Entry x1) 2)) rfl rfl rfl (o_c tk false rfl (fun _ => rfl)) ?_
  refine wpdS_mv (a := (eI x1.AsOf)) rfl rfl rfl (o_ld tk rfl rfl) ?_
  refine wpdS_mv (a := (.fptr (c_api_Entry x1) 3)) rfl rfl rfl (o_c tk false rfl (fun _ => rfl)) ?_
  refine wpdS_mv (a := (eI x1.Ends)) rfl rfl rfl (o_ld tk rfl rfl) ?_
  refine wpdS_lt H3 (eF 1 eI) rfl rfl rfl (o_c tk false rfl (fun _ => rfl)) fun v6 H5 => ?_
  refine wpdS_bd H5 (eL 1 (@eU .u8 8)) rfl rfl rfl (fun v8 hv => OpP.of_call rfl rfl (.cons (.of_eq rfl) (.cons wk_no .nil)) (octets_Put_ok hv)) fun v8 hv8 H7 => ?_
  refine wpdS_mv (a := (.fptr (c_api_Entry x1) 4)) rfl rfl rfl (o_c tk false rfl (fun _ => rfl)) ?_
  refine wpdS_mv (a := ((eL 1 (@eU .u8 8)) x1.Value)) rfl rfl rfl (o_ld tk rfl rfl) ?_
  refine wpdS_cb H7 (fun x t => eT t 1 (@eU .u8 8) x) rfl rfl rfl (fun v10 hv => h_calla hH rfl rfl (.cons (.of_eq rfl) (.cons (.of_eq rfl) .nil)) (octets_Bytes_app hv _)) fun v10 tk11 τ hv10 H9 hH => ?_
  refine wpdS_mv (a := (eT tk11 1 (@eU .u8 8) v10)) rfl rfl rfl (o_as tk rfl (Wk.refl _)) ?_
  refine wpdS_nil ?_
  refine awp_ret ?_
  obtain rfl := Option.some.inj H9
  exact ⟨_, (eT tk11 1 (@eU .u8 8) v10), rfl, .of_eq rfl, tk11, rfl, hH⟩
theorem item_Put_ok {x0 : List (BitVec 8)} {x1 : api_Entry} {r : (List (BitVec 8))} (H : item_Put x0 x1 = some r) (σ : St) : ACall Tryd.prog 103 [((eL 1 (@eU .u8 8)) x0), (e_api_Entry x1)] σ (fun a τ => a = (eL 1 (@eU .u8 8)) r ∧ τ = σ) := (item_Put_app H σ).unapp (fun ρ κ => cutL_enc (enc_u td5 sz5).cut ρ κ r)
end Go.Proofs.YtkmlinaofbcbaaaDoor
namespace Go.Proofs.YtkmlinaofbcbaaaDoor
open Go Go.Va
set_option linter.unusedVariables false
set_option linter.unusedSimpArgs false
set_option maxRecDepth 20000
theorem item_All_app {x0 : List api_Entry} {r : (List (BitVec 8))} (H : item_All x0 = some r) (σ : St)  : ACall Tryd.prog 43 [((eL 5 e_api_Entry) x0)] σ (fun a τ => a = .sl (.own σ.opn.length) 1 (r.map (@eU .u8 8)) ∧ τ = σ.more) := by
  unfold item_All at H
  refine ACall.app (fun ρ κ => cutL_enc (enc_u td5 sz5).cut ρ κ r) (acall_start tk Tryd.func43 (by decide) rfl (Nat.le_of_ble_eq_true rfl) ?_)
  have hH := Holds.init σ
  refine awp_seq ?_
  refine awp_region rfl ?_
  refine wpo_mv (a := AV.nils) rfl rfl rfl (o_as tk rfl (Wk.refl _)) ?_
  refine wpo_nil ?_
  refine awp_seq ?_
  refine awp_region rfl ?_
  refine wpo_mv (a := AV.nils) rfl rfl rfl (o_as tk rfl (Wk.refl _)) ?_
  refine wpo_nil ?_
  refine awp_seq ?_
  refine awp_seq ?_
  refine awp_region rfl ?_
  refine wpo_mv (a := ((eL 5 e_api_Entry) x0)) rfl rfl rfl (o_mv tk rfl (Wk.refl _)) ?_
  refine wpo_lt H eI rfl rfl rfl (o_len tk td60 rfl) fun v2 H1 => ?_
  refine wpo_mv (a := (eI (0 : Int))) rfl rfl rfl (o_mv tk rfl (Wk.refl _)) ?_
  refine wpo_nil ?_
  refine awp_block ?_
  refine AWP.tokN hH 3 1 rfl fun tk5 τ hH => ?_
  obtain ⟨s13, hs7, hj8⟩ := Option.bind_eq_some_iff.1 H1
  refine awp_cutx 0 (fun fr τ => ∃ tk_3, WkF fr (fm [(3, (eT tk_3 1 (@eU .u8 8) s13))]) ∧ Holds σ [] [tk_3] τ) ?_ ?_
  · rintro fr τ ⟨tk_3, hfr, hH⟩
    have H28 := hj8
    refine AWP.fm [(3, (eT tk_3 1 (@eU .u8 8) s13))] hfr ?_
    refine awp_seq ?_
    refine awp_region rfl ?_
    refine wpo_mv (a := (eT tk_3 1 (@eU .u8 8) s13)) rfl rfl rfl (o_mv tk rfl (Wk.refl _)) ?_
    refine wpo_mv (a := (eT tk_3 1 (@eU .u8 8) s13)) rfl rfl rfl (o_as tk rfl (Wk.refl _)) ?_
    refine wpo_nil ?_
    refine awp_ret ?_
    obtain rfl := Option.some.inj H28
    exact ⟨_, (eT tk_3 1 (@eU .u8 8) s13), rfl, .of_eq rfl, tk_3, rfl, hH⟩
  · refine awp_loopO (body := fun s => item_All_b0 x0 v2 s.1 s.2) hs7 (fun (s : (List (BitVec 8)) × Int) fr τ => ∃ tk_3, WkF fr (fm [(3, (eT tk_3 1 (@eU .u8 8) s.1)), (6, ((eL 5 e_api_Entry) x0)), (7, (eI v2)), (8, (eI s.2))]) ∧ Holds σ [] [tk_3] τ) ⟨tk5, (wkf_cons (.of_eq rfl) (wkf_cons (.of_eq rfl) (wkf_cons (.of_eq rfl) (wkf_cons (.of_eq rfl) (wkf_nil _))))), hH⟩ ?_
    rintro ⟨c3, c4⟩ fr τ y9 ⟨tk_3, hfr, hH⟩ hb11 hy12
    have H14 : item_All_b0 x0 v2 c3 c4 = some y9 := hb11
    unfold item_All_b0 at H14
    refine AWP.fm [(3, (eT tk_3 1 (@eU .u8 8) c3)), (6, ((eL 5 e_api_Entry) x0)), (7, (eI v2)), (8, (eI c4))] hfr ?_
    have hH : Holds σ [] [tk_3] τ := hH
    refine awp_seq ?_
    refine awp_region rfl ?_
    refine wpo_lt H14 eB rfl rfl rfl (o_ar tk rfl rfl rfl) fun v16 H15 => ?_
    refine wpo_nil ?_
    refine awp_seq ?_
    refine awp_if H15 rfl (fun H17 => ?_) (fun H17 => ?_)
    · refine awp_skip ?_
      refine awp_seq ?_
      refine awp_block ?_
      refine awp_seq ?_
      refine awp_region rfl ?_
      refine wpo_bd H17 (fun y => .fptr (e_api_Entry y).cells 0) rfl rfl rfl (fun v19 hv => o_ixa tk hv td60 enc24 rfl rfl) fun v19 hv19 H18 => ?_
      refine wpo_mv (a := (e_api_Entry v19)) rfl rfl rfl (o_ld_e tk enc24 rfl rfl) ?_
      refine wpo_a (av := fun id => .ref id 0) rfl rfl rfl (h_alloc tk hH ty24 [(eS z_api_Entry.Key), (eI z_api_Entry.Version), (eI z_api_Entry.AsOf), (eI z_api_Entry.Ends), AV.nils] rfl) fun id20 τ ⟨hH, n21⟩ => ?_
      refine wpo_z rfl rfl (h_st tk hH 0 rfl ty24 (by simp) rfl rfl (.of_eq rfl) (b := (e_api_Entry v19)) (enc24.flat _) rfl (Nat.le_of_ble_eq_true rfl) (c_api_Entry (v19 : api_Entry)) rfl) fun τ hH => ?_
      refine wpo_nil ?_
      refine awp_region rfl ?_
      refine wpo_mv (a := (eT tk_3 1 (@eU .u8 8) c3)) rfl rfl rfl (o_mv tk rfl (Wk.refl _)) ?_
      refine wpo_rd (a := (e_api_Entry (v19 : api_Entry))) rfl rfl rfl (h_ld tk hH 0 rfl rfl rfl) ?_
      refine wpo_cb H18 (fun x t => eT t 1 (@eU .u8 8) x) rfl rfl rfl (fun v24 hv => h_calla hH rfl rfl (.cons wk_no (.cons (.of_eq rfl) .nil)) (item_Put_app hv _)) fun v24 tk25 τ hv24 H23 hH => ?_
      refine wpo_mv (a := (eT tk25 1 (@eU .u8 8) v24)) rfl rfl rfl (o_as tk rfl (Wk.refl _)) ?_
      refine wpo_nil ?_
      refine awp_region rfl ?_
      refine wpo_lt H23 eI rfl rfl rfl (o_ar tk rfl rfl rfl) fun v27 H26 => ?_
      refine wpo_mv (a := (eI v27)) rfl rfl rfl (o_mv tk rfl (Wk.refl _)) ?_
      refine wpo_nil ?_
      exact ⟨(v24, v27), inj_inl H26, tk25, (wkf_cons (.of_eq rfl) (wkf_cons (.of_eq rfl) (wkf_cons (.of_eq rfl) (wkf_cons (.of_eq rfl) (wkf_nil _))))), ((hH.drop n21).sub (.cons_cons _ (.cons _ .slnil)))⟩
    · refine awp_exit ?_
      have hz := hy12 _ (inj_inr H17)
      subst hz
      exact ⟨⟨_, inj_inr H17⟩, tk_3, (wkf_cons (.of_eq rfl) (wkf_nil _)), hH⟩
theorem item_All_ok {x0 : List api_Entry} {r : (List (BitVec 8))} (H : item_All x0 = some r) (σ : St) : ACall Tryd.prog 43 [((eL 5 e_api_Entry) x0)] σ (fun a τ => a = (eL 1 (@eU .u8 8)) r ∧ τ = σ) := (item_All_app H σ).unapp (fun ρ κ => cutL_enc (enc_u td5 sz5).cut ρ κ r)
end Go.Proofs.YtkmlinaofbcbaaaDoor
namespace Go.Proofs.YtkmlinaofbcbaaaDoor
open Go Go.Va
set_option linter.unusedVariables false
set_option linter.unusedSimpArgs false
set_option maxRecDepth 20000
theorem item_Same_ok {x0 : api_Entry} {x1 : api_Entry} {r : Bool} (H : item_Same x0 x1 = some r) (σ : St)  : ACall Tryd.prog 75 [(e_api_Entry x0), (e_api_Entry x1)] σ (fun a τ => a = eB r ∧ τ = σ) := by
  unfold item_Same at H
  refine ACall.pure (acall_start tk Tryd.func75 (by decide) rfl (Nat.le_of_ble_eq_true rfl) ?_)
  have hH := Holds.init σ
  refine awp_seq ?_
  refine awp_region rfl ?_
  refine wpo_mv (a := (.fptr (c_api_Entry x0) 0)) rfl rfl rfl (o_boxf tk rfl (.of_eq rfl) (b := (e_api_Entry x0)) (enc24.flat _)) ?_
  refine wpo_mv (a := (.fptr (c_api_Entry x1) 0)) rfl rfl rfl (o_boxf tk rfl (.of_eq rfl) (b := (e_api_Entry x1)) (enc24.flat _)) ?_
  refine wpo_mv (a := (eB false)) rfl rfl rfl (o_as tk rfl (Wk.refl _)) ?_
  refine wpo_nil ?_
  refine awp_seq ?_
  refine awp_region rfl ?_
  refine wpo_mv (a := (.fptr (c_api_Entry x0) 0)) rfl rfl rfl (o_c tk false rfl (fun _ => rfl)) ?_
  refine wpo_mv (a := (eS x0.Key)) rfl rfl rfl (o_ld tk rfl rfl) ?_
  refine wpo_mv (a := (.fptr (c_api_Entry x1) 0)) rfl rfl rfl (o_c tk false rfl (fun _ => rfl)) ?_
  refine wpo_mv (a := (eS x1.Key)) rfl rfl rfl (o_ld tk rfl rfl) ?_
  refine wpo_lt H eB rfl rfl rfl (o_eql_s tk rfl rfl) fun v2 H1 => ?_
  refine wpo_mv (a := (eB v2)) rfl rfl rfl (o_mv tk rfl (Wk.refl _)) ?_
  refine if_split H1 (fun hb H3 => ?_) (fun hb H3 => ?_)
  · subst hb
    refine wpo_mv (a := (.fptr (c_api_Entry x0) 1)) rfl rfl rfl (o_c tk false rfl (fun _ => rfl)) ?_
    refine wpo_mv (a := (eI x0.Version)) rfl rfl rfl (o_ld tk rfl rfl) ?_
    refine wpo_mv (a := (.fptr (c_api_Entry x1) 1)) rfl rfl rfl (o_c tk false rfl (fun _ => rfl)) ?_
    refine wpo_mv (a := (eI x1.Version)) rfl rfl rfl (o_ld tk rfl rfl) ?_
    refine wpo_lt H3 eB rfl rfl rfl (o_ar tk rfl rfl rfl) fun v5 H4 => ?_
    refine wpo_mv (a := (eB v5)) rfl rfl rfl (o_pick_t tk rfl rfl (Wk.refl _)) ?_
    refine wpo_mv (a := (eB v5)) rfl rfl rfl (o_mv tk rfl (Wk.refl _)) ?_
    refine if_split H4 (fun hb H6 => ?_) (fun hb H6 => ?_)
    · subst hb
      refine wpo_mv (a := (.fptr (c_api_Entry x0) 2)) rfl rfl rfl (o_c tk false rfl (fun _ => rfl)) ?_
      refine wpo_mv (a := (eI x0.AsOf)) rfl rfl rfl (o_ld tk rfl rfl) ?_
      refine wpo_mv (a := (.fptr (c_api_Entry x1) 2)) rfl rfl rfl (o_c tk false rfl (fun _ => rfl)) ?_
      refine wpo_mv (a := (eI x1.AsOf)) rfl rfl rfl (o_ld tk rfl rfl) ?_
      refine wpo_lt H6 eB rfl rfl rfl (o_ar tk rfl rfl rfl) fun v8 H7 => ?_
      refine wpo_mv (a := (eB v8)) rfl rfl rfl (o_pick_t tk rfl rfl (Wk.refl _)) ?_
      refine wpo_mv (a := (eB v8)) rfl rfl rfl (o_mv tk rfl (Wk.refl _)) ?_
      refine if_split H7 (fun hb H9 => ?_) (fun hb H9 => ?_)
      · subst hb
        refine wpo_mv (a := (.fptr (c_api_Entry x0) 3)) rfl rfl rfl (o_c tk false rfl (fun _ => rfl)) ?_
        refine wpo_mv (a := (eI x0.Ends)) rfl rfl rfl (o_ld tk rfl rfl) ?_
        refine wpo_mv (a := (.fptr (c_api_Entry x1) 3)) rfl rfl rfl (o_c tk false rfl (fun _ => rfl)) ?_
        refine wpo_mv (a := (eI x1.Ends)) rfl rfl rfl (o_ld tk rfl rfl) ?_
        refine wpo_lt H9 eB rfl rfl rfl (o_ar tk rfl rfl rfl) fun v11 H10 => ?_
        refine wpo_mv (a := (eB v11)) rfl rfl rfl (o_pick_t tk rfl rfl (Wk.refl _)) ?_
        refine wpo_mv (a := (eB v11)) rfl rfl rfl (o_mv tk rfl (Wk.refl _)) ?_
        refine if_split H10 (fun hb H12 => ?_) (fun hb H12 => ?_)
        · subst hb
          refine wpo_mv (a := (.fptr (c_api_Entry x0) 4)) rfl rfl rfl (o_c tk false rfl (fun _ => rfl)) ?_
          refine wpo_mv (a := ((eL 1 (@eU .u8 8)) x0.Value)) rfl rfl rfl (o_ld tk rfl rfl) ?_
          refine wpo_mv (a := (eS x0.Value)) rfl rfl rfl (o_b2s tk td22 td9 td5 rfl) ?_
          refine wpo_mv (a := (.fptr (c_api_Entry x1) 4)) rfl rfl rfl (o_c tk false rfl (fun _ => rfl)) ?_
          refine wpo_mv (a := ((eL 1 (@eU .u8 8)) x1.Value)) rfl rfl rfl (o_ld tk rfl rfl) ?_
          refine wpo_mv (a := (eS x1.Value)) rfl rfl rfl (o_b2s tk td22 td9 td5 rfl) ?_
          refine wpo_lt H12 eB rfl rfl rfl (o_eql_s tk rfl rfl) fun v14 H13 => ?_
          refine wpo_mv (a := (eB v14)) rfl rfl rfl (o_pick_t tk rfl rfl (Wk.refl _)) ?_
          refine wpo_mv (a := (eB v14)) rfl rfl rfl (o_as tk rfl (Wk.refl _)) ?_
          refine wpo_nil ?_
          refine awp_ret ?_
          obtain rfl := Option.some.inj H13
          exact ⟨_, (eB v14), rfl, (.of_eq rfl), .of_eq ((enc_b td4 sz4).cut _ _ _), hH.noT⟩
        · subst hb
          refine wpo_skip rfl rfl rfl ?_
          refine wpo_skip rfl rfl rfl ?_
          refine wpo_skip rfl rfl rfl ?_
          refine wpo_skip rfl rfl rfl ?_
          refine wpo_skip rfl rfl rfl ?_
          refine wpo_skip rfl rfl rfl ?_
          refine wpo_skip rfl rfl rfl ?_
          refine wpo_mv (a := (eB false)) rfl rfl rfl (o_pick_f tk rfl rfl (Wk.refl _)) ?_
          refine wpo_mv (a := (eB false)) rfl rfl rfl (o_as tk rfl (Wk.refl _)) ?_
          refine wpo_nil ?_
          refine awp_ret ?_
          obtain rfl := Option.some.inj H12
          exact ⟨_, (eB false), rfl, (.of_eq rfl), .of_eq ((enc_b td4 sz4).cut _ _ _), hH.noT⟩
      · subst hb
        refine wpo_skip rfl rfl rfl ?_
        refine wpo_skip rfl rfl rfl ?_
        refine wpo_skip rfl rfl rfl ?_
        refine wpo_skip rfl rfl rfl ?_
        refine wpo_skip rfl rfl rfl ?_
        refine wpo_mv (a := (eB false)) rfl rfl rfl (o_pick_f tk rfl rfl (Wk.refl _)) ?_
        refine wpo_mv (a := (eB false)) rfl rfl rfl (o_mv tk rfl (Wk.refl _)) ?_
        refine wpo_skip rfl rfl rfl ?_
        refine wpo_skip rfl rfl rfl ?_
        refine wpo_skip rfl rfl rfl ?_
        refine wpo_skip rfl rfl rfl ?_
        refine wpo_skip rfl rfl rfl ?_
        refine wpo_skip rfl rfl rfl ?_
        refine wpo_skip rfl rfl rfl ?_
        refine wpo_mv (a := (eB false)) rfl rfl rfl (o_pick_f tk rfl rfl (Wk.refl _)) ?_
        refine wpo_mv (a := (eB false)) rfl rfl rfl (o_as tk rfl (Wk.refl _)) ?_
        refine wpo_nil ?_
        refine awp_ret ?_
        obtain rfl := Option.some.inj H9
        exact ⟨_, (eB false), rfl, (.of_eq rfl), .of_eq ((enc_b td4 sz4).cut _ _ _), hH.noT⟩
    · subst hb
      refine wpo_skip rfl rfl rfl ?_
      refine wpo_skip rfl rfl rfl ?_
      refine wpo_skip rfl rfl rfl ?_
      refine wpo_skip rfl rfl rfl ?_
      refine wpo_skip rfl rfl rfl ?_
      refine wpo_mv (a := (eB false)) rfl rfl rfl (o_pick_f tk rfl rfl (Wk.refl _)) ?_
      refine wpo_mv (a := (eB false)) rfl rfl rfl (o_mv tk rfl (Wk.refl _)) ?_
      refine wpo_skip rfl rfl rfl ?_
      refine wpo_skip rfl rfl rfl ?_
      refine wpo_skip rfl rfl rfl ?_
      refine wpo_skip rfl rfl rfl ?_
      refine wpo_skip rfl rfl rfl ?_
      refine wpo_mv (a := (eB false)) rfl rfl rfl (o_pick_f tk rfl rfl (Wk.refl _)) ?_
      refine wpo_mv (a := (eB false)) rfl rfl rfl (o_mv tk rfl (Wk.refl _)) ?_
      refine wpo_skip rfl rfl rfl ?_
      refine wpo_skip rfl rfl rfl ?_
      refine wpo_skip rfl rfl rfl ?_
      refine wpo_skip rfl rfl rfl ?_
      refine wpo_skip rfl rfl rfl ?_
      refine wpo_skip rfl rfl rfl ?_
      refine wpo_skip rfl rfl rfl ?_
      refine wpo_mv (a := (eB false)) rfl rfl rfl (o_pick_f tk rfl rfl (Wk.refl _)) ?_
      refine wpo_mv (a := (eB false)) rfl rfl rfl (o_as tk rfl (Wk.refl _)) ?_
      refine wpo_nil ?_
      refine awp_ret ?_
      obtain rfl := Option.some.inj H6
      exact ⟨_, (eB false), rfl, (.of_eq rfl), .of_eq ((enc_b td4 sz4).cut _ _ _), hH.noT⟩
  · subst hb
    refine wpo_skip rfl rfl rfl ?_
    refine wpo_skip rfl rfl rfl ?_
    refine wpo_skip rfl rfl rfl ?_
    refine wpo_skip rfl rfl rfl ?_
    refine wpo_skip rfl rfl rfl ?_
    refine wpo_mv (a := (eB false)) rfl rfl rfl (o_pick_f tk rfl rfl (Wk.refl _)) ?_
    refine wpo_mv (a := (eB false)) rfl rfl rfl (o_mv tk rfl (Wk.refl _)) ?_
    refine wpo_skip rfl rfl rfl ?_
    refine wpo_skip rfl rfl rfl ?_
    refine wpo_skip rfl rfl rfl ?_
    refine wpo_skip rfl rfl rfl ?_
    refine wpo_skip rfl rfl rfl ?_
    refine wpo_mv (a := (eB false)) rfl rfl rfl (o_pick_f tk rfl rfl (Wk.refl _)) ?_
    refine wpo_mv (a := (eB false)) rfl rfl rfl (o_mv tk rfl (Wk.refl _)) ?_
    refine wpo_skip rfl rfl rfl ?_
    refine wpo_skip rfl rfl rfl ?_
    refine wpo_skip rfl rfl rfl ?_
    refine wpo_skip rfl rfl rfl ?_
    refine wpo_skip rfl rfl rfl ?_
    refine wpo_mv (a := (eB false)) rfl rfl rfl (o_pick_f tk rfl rfl (Wk.refl _)) ?_
    refine wpo_mv (a := (eB false)) rfl rfl rfl (o_mv tk rfl (Wk.refl _)) ?_
    refine wpo_skip rfl rfl rfl ?_
    refine wpo_skip rfl rfl rfl ?_
    refine wpo_skip rfl rfl rfl ?_
    refine wpo_skip rfl rfl rfl ?_
    refine wpo_skip rfl rfl rfl ?_
    refine wpo_skip rfl rfl rfl ?_
    refine wpo_skip rfl rfl rfl ?_
    refine wpo_mv (a := (eB false)) rfl rfl rfl (o_pick_f tk rfl rfl (Wk.refl _)) ?_
    refine wpo_mv (a := (eB false)) rfl rfl rfl (o_as tk rfl (Wk.refl _)) ?_
    refine wpo_nil ?_
    refine awp_ret ?_
    obtain rfl := Option.some.inj H3
    exact ⟨_, (eB false), rfl, (.of_eq rfl), .of_eq ((enc_b td4 sz4).cut _ _ _), hH.noT⟩
end Go.Proofs.YtkmlinaofbcbaaaDoor
namespace Go.Proofs.YtkmlinaofbcbaaaDoor
open Go Go.Va
set_option linter.unusedVariables false
set_option linter.unusedSimpArgs false
set_option maxRecDepth 20000
theorem region_Take_ok {x0 : List (List (BitVec 8))} {x1 : Int} {x2 : api_Mark} {r : api_Entry × Err} (H : region_Take x0 x1 x2 = some r) (σ : St)  (hg : σ.gl = gls) : ACall Tryd.prog 90 [((eL 1 (eL 1 (@eU .u8 8))) x0), (eI x1), (e_api_Mark x2)] σ (fun a τ => a = .tup [e_api_Entry r.1, eErr r.2] ∧ τ = σ) := by
  unfold region_Take at H
  refine ACall.pure (acall_start tk Tryd.func90 (by decide) rfl (Nat.le_of_ble_eq_true rfl) ?_)
  have hH := Holds.init σ
  refine awp_seq ?_
  refine awp_region rfl ?_
  refine wpo_mv (a := (.fptr (c_api_Mark x2) 0)) rfl rfl rfl (o_boxf tk rfl (.of_eq rfl) (b := (e_api_Mark x2)) (enc74.flat _)) ?_
  refine wpo_a (av := fun id => .ref id 0) rfl rfl rfl (h_alloc tk hH ty24 [(eS z_api_Entry.Key), (eI z_api_Entry.Version), (eI z_api_Entry.AsOf), (eI z_api_Entry.Ends), AV.nils] rfl) fun id1 τ ⟨hH, n2⟩ => ?_
  refine wpo_mv (a := (eErr Err.nil)) rfl rfl rfl (o_as tk rfl (Wk.refl _)) ?_
  refine wpo_nil ?_
  refine awp_seq ?_
  refine awp_region rfl ?_
  refine wpo_mv (a := AV.nils) rfl rfl rfl (o_as tk rfl (Wk.refl _)) ?_
  refine wpo_nil ?_
  refine awp_seq ?_
  refine awp_seq ?_
  refine awp_region rfl ?_
  refine wpo_mv (a := ((eL 1 (eL 1 (@eU .u8 8))) x0)) rfl rfl rfl (o_mv tk rfl (Wk.refl _)) ?_
  refine wpo_lt H eI rfl rfl rfl (o_len tk td62 rfl) fun v4 H3 => ?_
  refine wpo_mv (a := (eI (0 : Int))) rfl rfl rfl (o_mv tk rfl (Wk.refl _)) ?_
  refine wpo_nil ?_
  refine awp_block ?_
  refine AWP.tokN hH 8 1 rfl fun tk7 τ hH => ?_
  obtain ⟨s15, hs9, hj10⟩ := Option.bind_eq_some_iff.1 H3
  refine awp_cutx 0 (fun fr τ => ∃ tk_8, WkF fr (fm [(1, (eI x1)), (5, (.fptr (c_api_Mark x2) 0)), (6, (.ref id1 0)), (8, (eT tk_8 1 (@eU .u8 8) s15))]) ∧ Holds σ [(id1, [(eS z_api_Entry.Key), (eI z_api_Entry.Version), (eI z_api_Entry.AsOf), (eI z_api_Entry.Ends), AV.nils])] [tk_8] τ) ?_ ?_
  · rintro fr τ ⟨tk_8, hfr, hH⟩
    have H28 := hj10
    refine AWP.fm [(1, (eI x1)), (5, (.fptr (c_api_Mark x2) 0)), (6, (.ref id1 0)), (8, (eT tk_8 1 (@eU .u8 8) s15))] hfr ?_
    refine awp_seq ?_
    refine awp_region rfl ?_
    refine wpo_mv (a := (.fptr (c_api_Mark x2) 1)) rfl rfl rfl (o_c tk false rfl (fun _ => rfl)) ?_
    refine wpo_mv (a := (eI x2.Off)) rfl rfl rfl (o_ld tk rfl rfl) ?_
    refine wpo_mv (a := (eI x1)) rfl rfl rfl (o_mv tk rfl (Wk.refl _)) ?_
    refine wpo_lt H28 eI rfl rfl rfl (o_ar tk rfl rfl rfl) fun v30 H29 => ?_
    refine wpo_lt H29 eI rfl rfl rfl (o_ar tk rfl rfl rfl) fun v32 H31 => ?_
    refine wpo_mv (a := (eI v32)) rfl rfl rfl (o_as tk rfl (Wk.refl _)) ?_
    refine wpo_nil ?_
    refine awp_seq ?_
    refine awp_seq ?_
    obtain ⟨s33, hs35, hj36⟩ := Option.bind_eq_some_iff.1 H31
    refine awp_cutn (fun fr τ => ∃ tk_8, WkF fr (fm [(5, (.fptr (c_api_Mark x2) 0)), (6, (.ref id1 0)), (8, (eT tk_8 1 (@eU .u8 8) s15)), (11, (eI v32)), (50, (eB s33))]) ∧ Holds σ [(id1, [(eS z_api_Entry.Key), (eI z_api_Entry.Version), (eI z_api_Entry.AsOf), (eI z_api_Entry.Ends), AV.nils])] [tk_8] τ) ?_ ?_
    · rintro fr τ ⟨tk_8, hfr, hH⟩
      have H54 := hj36
      refine AWP.fm [(5, (.fptr (c_api_Mark x2) 0)), (6, (.ref id1 0)), (8, (eT tk_8 1 (@eU .u8 8) s15)), (11, (eI v32)), (50, (eB s33))] hfr ?_
      refine awp_if H54 rfl (fun H55 => ?_) (fun H55 => ?_)
      · refine awp_seq ?_
        refine awp_region rfl ?_
        refine wpo_mv (a := (.agg [(eS (⟨([] : List (BitVec 8)), (0 : Int), (0 : Int), (0 : Int), ([] : List (BitVec 8))⟩ : api_Entry).Key), (eI (⟨([] : List (BitVec 8)), (0 : Int), (0 : Int), (0 : Int), ([] : List (BitVec 8))⟩ : api_Entry).Version), (eI (⟨([] : List (BitVec 8)), (0 : Int), (0 : Int), (0 : Int), ([] : List (BitVec 8))⟩ : api_Entry).AsOf), (eI (⟨([] : List (BitVec 8)), (0 : Int), (0 : Int), (0 : Int), ([] : List (BitVec 8))⟩ : api_Entry).Ends), AV.nils])) rfl rfl rfl (o_c tk false rfl (fun _ => rfl)) ?_
        refine wpo_mv (a := (.fptr (c_api_Mark x2) 1)) rfl rfl rfl (o_c tk false rfl (fun _ => rfl)) ?_
        refine wpo_mv (a := (eI x2.Off)) rfl rfl rfl (o_ld tk rfl rfl) ?_
        refine wpo_bd H55 eErr rfl rfl rfl (fun v57 hv => OpP.of_call rfl rfl (.cons (.of_eq rfl) (.cons (.of_eq rfl) (.cons (.of_eq rfl) .nil))) (trouble_New_ok hv)) fun v57 hv57 H56 => ?_
        refine wpo_z rfl rfl (h_st tk hH 0 rfl ty24 (by simp) rfl rfl (.of_eq rfl) (b := (.agg [(eS (⟨([] : List (BitVec 8)), (0 : Int), (0 : Int), (0 : Int), ([] : List (BitVec 8))⟩ : api_Entry).Key), (eI (⟨([] : List (BitVec 8)), (0 : Int), (0 : Int), (0 : Int), ([] : List (BitVec 8))⟩ : api_Entry).Version), (eI (⟨([] : List (BitVec 8)), (0 : Int), (0 : Int), (0 : Int), ([] : List (BitVec 8))⟩ : api_Entry).AsOf), (eI (⟨([] : List (BitVec 8)), (0 : Int), (0 : Int), (0 : Int), ([] : List (BitVec 8))⟩ : api_Entry).Ends), AV.nils])) rfl rfl (Nat.le_of_ble_eq_true rfl) [(eS ((⟨([] : List (BitVec 8)), (0 : Int), (0 : Int), (0 : Int), ([] : List (BitVec 8))⟩ : api_Entry) : api_Entry).Key), (eI ((⟨([] : List (BitVec 8)), (0 : Int), (0 : Int), (0 : Int), ([] : List (BitVec 8))⟩ : api_Entry) : api_Entry).Version), (eI ((⟨([] : List (BitVec 8)), (0 : Int), (0 : Int), (0 : Int), ([] : List (BitVec 8))⟩ : api_Entry) : api_Entry).AsOf), (eI ((⟨([] : List (BitVec 8)), (0 : Int), (0 : Int), (0 : Int), ([] : List (BitVec 8))⟩ : api_Entry) : api_Entry).Ends), AV.nils] rfl) fun τ hH => ?_
        refine wpo_mv (a := (eErr v57)) rfl rfl rfl (o_as tk rfl (Wk.refl _)) ?_
        refine wpo_nil ?_
        refine awp_ret ?_
        obtain rfl := Option.some.inj H56
        exact ⟨_, (.tup [(e_api_Entry ((⟨([] : List (BitVec 8)), (0 : Int), (0 : Int), (0 : Int), ([] : List (BitVec 8))⟩ : api_Entry) : api_Entry)), (eErr v57)]), (ares_2 (ares_cell hH 0 rfl rfl rfl) rfl), (wk_tup (.cons (wk_agg (.cons (.of_eq rfl) (.cons (.of_eq rfl) (.cons (.of_eq rfl) (.cons (.of_eq rfl) (.cons (wk_nils _) .nil)))))) (.cons (.of_eq rfl) .nil))), .of_eq (by simp only [cutAV, cutL, enc24.cut _ _ _, encErr.cut _ _ _]), (hH.noT.drop n2)⟩
      · refine awp_skip ?_
        refine awp_seq ?_
        refine awp_region rfl ?_
        refine wpo_mv (a := (eT tk_8 1 (@eU .u8 8) s15)) rfl rfl rfl (o_mv tk rfl (Wk.refl _)) ?_
        refine wpo_mv (a := (eI v32)) rfl rfl rfl (o_mv tk rfl (Wk.refl _)) ?_
        refine wpo_mv (a := (eI v32)) rfl rfl rfl (o_mv tk rfl (Wk.refl _)) ?_
        refine wpo_mv (a := (.fptr (c_api_Mark x2) 2)) rfl rfl rfl (o_c tk false rfl (fun _ => rfl)) ?_
        refine wpo_mv (a := (eI x2.Size)) rfl rfl rfl (o_ld tk rfl rfl) ?_
        refine wpo_lt H55 eI rfl rfl rfl (o_ar tk rfl rfl rfl) fun v60 H59 => ?_
        refine wpo_bd H59 (eL 1 (@eU .u8 8)) rfl rfl rfl (fun v62 hv => o_cut tk hv td22 (enc_u td5 sz5) rfl rfl rfl) fun v62 hv62 H61 => ?_
        refine wpo_bdr H61 (fun r => .tup [(eL 5 e_api_Entry) r.1, eErr r.2]) rfl rfl rfl (fun v64 hv => h_callr rfl rfl (.cons (.of_eq rfl) .nil) (item_Read_ok hv _ (hH.gl.trans hg))) fun v64 hv64 H63 => ?_
        refine wpo_mv (a := (.tup [((eL 5 e_api_Entry) v64.1), (eErr v64.2)])) rfl rfl rfl (o_mv tk rfl (Wk.refl _)) ?_
        refine wpo_mv (a := ((eL 5 e_api_Entry) v64.1)) rfl rfl rfl (o_ext tk rfl rfl) ?_
        refine wpo_mv (a := (eErr v64.2)) rfl rfl rfl (o_ext tk rfl rfl) ?_
        refine wpo_mv (a := ((eL 5 e_api_Entry) v64.1)) rfl rfl rfl (o_as tk rfl (Wk.refl _)) ?_
        refine wpo_mv (a := (eErr v64.2)) rfl rfl rfl (o_as tk rfl (Wk.refl _)) ?_
        refine wpo_nil ?_
        refine awp_seq ?_
        refine awp_seq ?_
        refine awp_region rfl ?_
        refine wpo_mv (a := (eErr v64.2)) rfl rfl rfl (o_mv tk rfl (Wk.refl _)) ?_
        refine wpo_lt H63 eB rfl rfl rfl (o_err_neq tk rfl rfl rfl) fun v66 H65 => ?_
        refine wpo_nil ?_
        refine awp_if H65 rfl (fun H67 => ?_) (fun H67 => ?_)
        · refine awp_seq ?_
          refine awp_region rfl ?_
          refine wpo_mv (a := (.agg [(eS (⟨([] : List (BitVec 8)), (0 : Int), (0 : Int), (0 : Int), ([] : List (BitVec 8))⟩ : api_Entry).Key), (eI (⟨([] : List (BitVec 8)), (0 : Int), (0 : Int), (0 : Int), ([] : List (BitVec 8))⟩ : api_Entry).Version), (eI (⟨([] : List (BitVec 8)), (0 : Int), (0 : Int), (0 : Int), ([] : List (BitVec 8))⟩ : api_Entry).AsOf), (eI (⟨([] : List (BitVec 8)), (0 : Int), (0 : Int), (0 : Int), ([] : List (BitVec 8))⟩ : api_Entry).Ends), AV.nils])) rfl rfl rfl (o_c tk false rfl (fun _ => rfl)) ?_
          refine wpo_mv (a := (.fptr (c_api_Mark x2) 1)) rfl rfl rfl (o_c tk false rfl (fun _ => rfl)) ?_
          refine wpo_mv (a := (eI x2.Off)) rfl rfl rfl (o_ld tk rfl rfl) ?_
          refine wpo_mv (a := (eErr v64.2)) rfl rfl rfl (o_mv tk rfl (Wk.refl _)) ?_
          refine wpo_bd H67 eErr rfl rfl rfl (fun v69 hv => OpP.of_call rfl rfl (.cons (.of_eq rfl) (.cons (.of_eq rfl) (.cons (.of_eq rfl) .nil))) (trouble_Wrap_ok hv)) fun v69 hv69 H68 => ?_
          refine wpo_z rfl rfl (h_st tk hH 0 rfl ty24 (by simp) rfl rfl (.of_eq rfl) (b := (.agg [(eS (⟨([] : List (BitVec 8)), (0 : Int), (0 : Int), (0 : Int), ([] : List (BitVec 8))⟩ : api_Entry).Key), (eI (⟨([] : List (BitVec 8)), (0 : Int), (0 : Int), (0 : Int), ([] : List (BitVec 8))⟩ : api_Entry).Version), (eI (⟨([] : List (BitVec 8)), (0 : Int), (0 : Int), (0 : Int), ([] : List (BitVec 8))⟩ : api_Entry).AsOf), (eI (⟨([] : List (BitVec 8)), (0 : Int), (0 : Int), (0 : Int), ([] : List (BitVec 8))⟩ : api_Entry).Ends), AV.nils])) rfl rfl (Nat.le_of_ble_eq_true rfl) [(eS ((⟨([] : List (BitVec 8)), (0 : Int), (0 : Int), (0 : Int), ([] : List (BitVec 8))⟩ : api_Entry) : api_Entry).Key), (eI ((⟨([] : List (BitVec 8)), (0 : Int), (0 : Int), (0 : Int), ([] : List (BitVec 8))⟩ : api_Entry) : api_Entry).Version), (eI ((⟨([] : List (BitVec 8)), (0 : Int), (0 : Int), (0 : Int), ([] : List (BitVec 8))⟩ : api_Entry) : api_Entry).AsOf), (eI ((⟨([] : List (BitVec 8)), (0 : Int), (0 : Int), (0 : Int), ([] : List (BitVec 8))⟩ : api_Entry) : api_Entry).Ends), AV.nils] rfl) fun τ hH => ?_
          refine wpo_mv (a := (eErr v69)) rfl rfl rfl (o_as tk rfl (Wk.refl _)) ?_
          refine wpo_nil ?_
          refine awp_ret ?_
          obtain rfl := Option.some.inj H68
          exact ⟨_, (.tup [(e_api_Entry ((⟨([] : List (BitVec 8)), (0 : Int), (0 : Int), (0 : Int), ([] : List (BitVec 8))⟩ : api_Entry) : api_Entry)), (eErr v69)]), (ares_2 (ares_cell hH 0 rfl rfl rfl) rfl), (wk_tup (.cons (wk_agg (.cons (.of_eq rfl) (.cons (.of_eq rfl) (.cons (.of_eq rfl) (.cons (.of_eq rfl) (.cons (wk_nils _) .nil)))))) (.cons (.of_eq rfl) .nil))), .of_eq (by simp only [cutAV, cutL, enc24.cut _ _ _, encErr.cut _ _ _]), (hH.noT.drop n2)⟩
        · refine awp_skip ?_
          refine awp_seq ?_
          refine awp_seq ?_
          refine awp_region rfl ?_
          refine wpo_mv (a := ((eL 5 e_api_Entry) v64.1)) rfl rfl rfl (o_mv tk rfl (Wk.refl _)) ?_
          refine wpo_lt H67 eI rfl rfl rfl (o_len tk td60 rfl) fun v72 H71 => ?_
          refine wpo_lt H71 eB rfl rfl rfl (o_ar tk rfl rfl rfl) fun v74 H73 => ?_
          refine wpo_nil ?_
          refine awp_if H73 rfl (fun H75 => ?_) (fun H75 => ?_)
          · refine awp_seq ?_
            refine awp_region rfl ?_
            refine wpo_mv (a := (.agg [(eS (⟨([] : List (BitVec 8)), (0 : Int), (0 : Int), (0 : Int), ([] : List (BitVec 8))⟩ : api_Entry).Key), (eI (⟨([] : List (BitVec 8)), (0 : Int), (0 : Int), (0 : Int), ([] : List (BitVec 8))⟩ : api_Entry).Version), (eI (⟨([] : List (BitVec 8)), (0 : Int), (0 : Int), (0 : Int), ([] : List (BitVec 8))⟩ : api_Entry).AsOf), (eI (⟨([] : List (BitVec 8)), (0 : Int), (0 : Int), (0 : Int), ([] : List (BitVec 8))⟩ : api_Entry).Ends), AV.nils])) rfl rfl rfl (o_c tk false rfl (fun _ => rfl)) ?_
            refine wpo_mv (a := (.fptr (c_api_Mark x2) 1)) rfl rfl rfl (o_c tk false rfl (fun _ => rfl)) ?_
            refine wpo_mv (a := (eI x2.Off)) rfl rfl rfl (o_ld tk rfl rfl) ?_
            refine wpo_bd H75 eErr rfl rfl rfl (fun v77 hv => OpP.of_call rfl rfl (.cons (.of_eq rfl) (.cons (.of_eq rfl) (.cons (.of_eq rfl) .nil))) (trouble_New_ok hv)) fun v77 hv77 H76 => ?_
            refine wpo_z rfl rfl (h_st tk hH 0 rfl ty24 (by simp) rfl rfl (.of_eq rfl) (b := (.agg [(eS (⟨([] : List (BitVec 8)), (0 : Int), (0 : Int), (0 : Int), ([] : List (BitVec 8))⟩ : api_Entry).Key), (eI (⟨([] : List (BitVec 8)), (0 : Int), (0 : Int), (0 : Int), ([] : List (BitVec 8))⟩ : api_Entry).Version), (eI (⟨([] : List (BitVec 8)), (0 : Int), (0 : Int), (0 : Int), ([] : List (BitVec 8))⟩ : api_Entry).AsOf), (eI (⟨([] : List (BitVec 8)), (0 : Int), (0 : Int), (0 : Int), ([] : List (BitVec 8))⟩ : api_Entry).Ends), AV.nils])) rfl rfl (Nat.le_of_ble_eq_true rfl) [(eS ((⟨([] : List (BitVec 8)), (0 : Int), (0 : Int), (0 : Int), ([] : List (BitVec 8))⟩ : api_Entry) : api_Entry).Key), (eI ((⟨([] : List (BitVec 8)), (0 : Int), (0 : Int), (0 : Int), ([] : List (BitVec 8))⟩ : api_Entry) : api_Entry).Version), (eI ((⟨([] : List (BitVec 8)), (0 : Int), (0 : Int), (0 : Int), ([] : List (BitVec 8))⟩ : api_Entry) : api_Entry).AsOf), (eI ((⟨([] : List (BitVec 8)), (0 : Int), (0 : Int), (0 : Int), ([] : List (BitVec 8))⟩ : api_Entry) : api_Entry).Ends), AV.nils] rfl) fun τ hH => ?_
            refine wpo_mv (a := (eErr v77)) rfl rfl rfl (o_as tk rfl (Wk.refl _)) ?_
            refine wpo_nil ?_
            refine awp_ret ?_
            obtain rfl := Option.some.inj H76
            exact ⟨_, (.tup [(e_api_Entry ((⟨([] : List (BitVec 8)), (0 : Int), (0 : Int), (0 : Int), ([] : List (BitVec 8))⟩ : api_Entry) : api_Entry)), (eErr v77)]), (ares_2 (ares_cell hH 0 rfl rfl rfl) rfl), (wk_tup (.cons (wk_agg (.cons (.of_eq rfl) (.cons (.of_eq rfl) (.cons (.of_eq rfl) (.cons (.of_eq rfl) (.cons (wk_nils _) .nil)))))) (.cons (.of_eq rfl) .nil))), .of_eq (by simp only [cutAV, cutL, enc24.cut _ _ _, encErr.cut _ _ _]), (hH.noT.drop n2)⟩
          · refine awp_skip ?_
            refine awp_seq ?_
            refine awp_region rfl ?_
            refine wpo_mv (a := ((eL 5 e_api_Entry) v64.1)) rfl rfl rfl (o_mv tk rfl (Wk.refl _)) ?_
            refine wpo_bd H75 (fun y => .fptr (e_api_Entry y).cells 0) rfl rfl rfl (fun v80 hv => o_ixa tk hv td60 enc24 rfl rfl) fun v80 hv80 H79 => ?_
            refine wpo_mv (a := (e_api_Entry v80)) rfl rfl rfl (o_ld_e tk enc24 rfl rfl) ?_
            refine wpo_z rfl rfl (h_st tk hH 0 rfl ty24 (by simp) rfl rfl (.of_eq rfl) (b := (e_api_Entry v80)) (enc24.flat _) rfl (Nat.le_of_ble_eq_true rfl) (c_api_Entry (v80 : api_Entry)) rfl) fun τ hH => ?_
            refine wpo_mv (a := (eErr Err.nil)) rfl rfl rfl (o_as tk rfl (Wk.refl _)) ?_
            refine wpo_nil ?_
            refine awp_ret ?_
            obtain rfl := Option.some.inj H79
            exact ⟨_, (.tup [(e_api_Entry (v80 : api_Entry)), (eErr Err.nil)]), (ares_2 (ares_cell hH 0 rfl rfl rfl) rfl), (wk_tup (.cons (.of_eq rfl) (.cons (.of_eq rfl) .nil))), .of_eq (by simp only [cutAV, cutL, enc24.cut _ _ _, encErr.cut _ _ _]), (hH.noT.drop n2)⟩
    · refine awp_region rfl ?_
      refine wpo_mv (a := (eI v32)) rfl rfl rfl (o_mv tk rfl (Wk.refl _)) ?_
      refine wpo_lt hs35 eB rfl rfl rfl (o_ar tk rfl rfl rfl) fun v38 H37 => ?_
      refine wpo_mv (a := (eB v38)) rfl rfl rfl (o_mv tk rfl (Wk.refl _)) ?_
      refine if_split H37 (fun hb H39 => ?_) (fun hb H39 => ?_)
      · subst hb
        refine wpo_skip rfl rfl rfl ?_
        refine wpo_skip rfl rfl rfl ?_
        refine wpo_skip rfl rfl rfl ?_
        refine wpo_mv (a := (eB true)) rfl rfl rfl (o_pick_t tk rfl rfl (Wk.refl _)) ?_
        refine wpo_mv (a := (eB true)) rfl rfl rfl (o_mv tk rfl (Wk.refl _)) ?_
        refine wpo_skip rfl rfl rfl ?_
        refine wpo_skip rfl rfl rfl ?_
        refine wpo_skip rfl rfl rfl ?_
        refine wpo_skip rfl rfl rfl ?_
        refine wpo_mv (a := (eB true)) rfl rfl rfl (o_pick_t tk rfl rfl (Wk.refl _)) ?_
        refine wpo_mv (a := (eB true)) rfl rfl rfl (o_mv tk rfl (Wk.refl _)) ?_
        refine wpo_skip rfl rfl rfl ?_
        refine wpo_skip rfl rfl rfl ?_
        refine wpo_skip rfl rfl rfl ?_
        refine wpo_skip rfl rfl rfl ?_
        refine wpo_skip rfl rfl rfl ?_
        refine wpo_skip rfl rfl rfl ?_
        refine wpo_skip rfl rfl rfl ?_
        refine wpo_mv (a := (eB true)) rfl rfl rfl (o_pick_t tk rfl rfl (Wk.refl _)) ?_
        refine wpo_nil ?_
        have e := Option.some.inj H39
        subst e
        exact ⟨tk_8, (wkf_cons (.of_eq rfl) (wkf_cons (.of_eq rfl) (wkf_cons (.of_eq rfl) (wkf_cons (.of_eq rfl) (wkf_cons (.of_eq rfl) (wkf_nil _)))))), hH⟩
      · subst hb
        refine wpo_mv (a := (.fptr (c_api_Mark x2) 2)) rfl rfl rfl (o_c tk false rfl (fun _ => rfl)) ?_
        refine wpo_mv (a := (eI x2.Size)) rfl rfl rfl (o_ld tk rfl rfl) ?_
        refine wpo_lt H39 eB rfl rfl rfl (o_ar tk rfl rfl rfl) fun v41 H40 => ?_
        refine wpo_mv (a := (eB v41)) rfl rfl rfl (o_pick_f tk rfl rfl (Wk.refl _)) ?_
        refine wpo_mv (a := (eB v41)) rfl rfl rfl (o_mv tk rfl (Wk.refl _)) ?_
        refine if_split H40 (fun hb H42 => ?_) (fun hb H42 => ?_)
        · subst hb
          refine wpo_skip rfl rfl rfl ?_
          refine wpo_skip rfl rfl rfl ?_
          refine wpo_skip rfl rfl rfl ?_
          refine wpo_skip rfl rfl rfl ?_
          refine wpo_mv (a := (eB true)) rfl rfl rfl (o_pick_t tk rfl rfl (Wk.refl _)) ?_
          refine wpo_mv (a := (eB true)) rfl rfl rfl (o_mv tk rfl (Wk.refl _)) ?_
          refine wpo_skip rfl rfl rfl ?_
          refine wpo_skip rfl rfl rfl ?_
          refine wpo_skip rfl rfl rfl ?_
          refine wpo_skip rfl rfl rfl ?_
          refine wpo_skip rfl rfl rfl ?_
          refine wpo_skip rfl rfl rfl ?_
          refine wpo_skip rfl rfl rfl ?_
          refine wpo_mv (a := (eB true)) rfl rfl rfl (o_pick_t tk rfl rfl (Wk.refl _)) ?_
          refine wpo_nil ?_
          have e := Option.some.inj H42
          subst e
          exact ⟨tk_8, (wkf_cons (.of_eq rfl) (wkf_cons (.of_eq rfl) (wkf_cons (.of_eq rfl) (wkf_cons (.of_eq rfl) (wkf_cons (.of_eq rfl) (wkf_nil _)))))), hH⟩
        · subst hb
          refine wpo_mv (a := (eI v32)) rfl rfl rfl (o_mv tk rfl (Wk.refl _)) ?_
          refine wpo_mv (a := (eT tk_8 1 (@eU .u8 8) s15)) rfl rfl rfl (o_mv tk rfl (Wk.refl _)) ?_
          refine wpo_lt H42 eI rfl rfl rfl (o_len tk td22 rfl) fun v44 H43 => ?_
          refine wpo_lt H43 eB rfl rfl rfl (o_ar tk rfl rfl rfl) fun v46 H45 => ?_
          refine wpo_mv (a := (eB v46)) rfl rfl rfl (o_pick_f tk rfl rfl (Wk.refl _)) ?_
          refine wpo_mv (a := (eB v46)) rfl rfl rfl (o_mv tk rfl (Wk.refl _)) ?_
          refine if_split H45 (fun hb H47 => ?_) (fun hb H47 => ?_)
          · subst hb
            refine wpo_skip rfl rfl rfl ?_
            refine wpo_skip rfl rfl rfl ?_
            refine wpo_skip rfl rfl rfl ?_
            refine wpo_skip rfl rfl rfl ?_
            refine wpo_skip rfl rfl rfl ?_
            refine wpo_skip rfl rfl rfl ?_
            refine wpo_skip rfl rfl rfl ?_
            refine wpo_mv (a := (eB true)) rfl rfl rfl (o_pick_t tk rfl rfl (Wk.refl _)) ?_
            refine wpo_nil ?_
            have e := Option.some.inj H47
            subst e
            exact ⟨tk_8, (wkf_cons (.of_eq rfl) (wkf_cons (.of_eq rfl) (wkf_cons (.of_eq rfl) (wkf_cons (.of_eq rfl) (wkf_cons (.of_eq rfl) (wkf_nil _)))))), hH⟩
          · subst hb
            refine wpo_mv (a := (.fptr (c_api_Mark x2) 2)) rfl rfl rfl (o_c tk false rfl (fun _ => rfl)) ?_
            refine wpo_mv (a := (eI x2.Size)) rfl rfl rfl (o_ld tk rfl rfl) ?_
            refine wpo_mv (a := (eT tk_8 1 (@eU .u8 8) s15)) rfl rfl rfl (o_mv tk rfl (Wk.refl _)) ?_
            refine wpo_lt H47 eI rfl rfl rfl (o_len tk td22 rfl) fun v49 H48 => ?_
            refine wpo_mv (a := (eI v32)) rfl rfl rfl (o_mv tk rfl (Wk.refl _)) ?_
            refine wpo_lt H48 eI rfl rfl rfl (o_ar tk rfl rfl rfl) fun v51 H50 => ?_
            refine wpo_lt H50 eB rfl rfl rfl (o_ar tk rfl rfl rfl) fun v53 H52 => ?_
            refine wpo_mv (a := (eB v53)) rfl rfl rfl (o_pick_f tk rfl rfl (Wk.refl _)) ?_
            refine wpo_nil ?_
            have e := Option.some.inj H52
            subst e
            exact ⟨tk_8, (wkf_cons (.of_eq rfl) (wkf_cons (.of_eq rfl) (wkf_cons (.of_eq rfl) (wkf_cons (.of_eq rfl) (wkf_cons (.of_eq rfl) (wkf_nil _)))))), hH⟩
  · refine awp_loopO (body := fun s => region_Take_b0 x0 x1 x2 v4 s.1 s.2) hs9 (fun (s : (List (BitVec 8)) × Int) fr τ => ∃ tk_8, WkF fr (fm [(1, (eI x1)), (5, (.fptr (c_api_Mark x2) 0)), (6, (.ref id1 0)), (8, (eT tk_8 1 (@eU .u8 8) s.1)), (14, ((eL 1 (eL 1 (@eU .u8 8))) x0)), (15, (eI v4)), (16, (eI s.2))]) ∧ Holds σ [(id1, [(eS z_api_Entry.Key), (eI z_api_Entry.Version), (eI z_api_Entry.AsOf), (eI z_api_Entry.Ends), AV.nils])] [tk_8] τ) ⟨tk7, (wkf_cons (.of_eq rfl) (wkf_cons (.of_eq rfl) (wkf_cons (.of_eq rfl) (wkf_cons (.of_eq rfl) (wkf_cons (.of_eq rfl) (wkf_cons (.of_eq rfl) (wkf_cons (.of_eq rfl) (wkf_nil _)))))))), hH⟩ ?_
    rintro ⟨c5, c6⟩ fr τ y11 ⟨tk_8, hfr, hH⟩ hb13 hy14
    have H16 : region_Take_b0 x0 x1 x2 v4 c5 c6 = some y11 := hb13
    unfold region_Take_b0 at H16
    refine AWP.fm [(1, (eI x1)), (5, (.fptr (c_api_Mark x2) 0)), (6, (.ref id1 0)), (8, (eT tk_8 1 (@eU .u8 8) c5)), (14, ((eL 1 (eL 1 (@eU .u8 8))) x0)), (15, (eI v4)), (16, (eI c6))] hfr ?_
    have hH : Holds σ [(id1, [(eS z_api_Entry.Key), (eI z_api_Entry.Version), (eI z_api_Entry.AsOf), (eI z_api_Entry.Ends), AV.nils])] [tk_8] τ := hH
    refine awp_seq ?_
    refine awp_region rfl ?_
    refine wpo_lt H16 eB rfl rfl rfl (o_ar tk rfl rfl rfl) fun v18 H17 => ?_
    refine wpo_nil ?_
    refine awp_seq ?_
    refine awp_if H17 rfl (fun H19 => ?_) (fun H19 => ?_)
    · refine awp_skip ?_
      refine awp_seq ?_
      refine awp_block ?_
      refine awp_seq ?_
      refine awp_region rfl ?_
      refine wpo_bd H19 (fun y => .fptr ((eL 1 (@eU .u8 8)) y).cells 0) rfl rfl rfl (fun v21 hv => o_ixa tk hv td62 (enc_l td22 sz22 (enc_u td5 sz5).cut) rfl rfl) fun v21 hv21 H20 => ?_
      refine wpo_mv (a := ((eL 1 (@eU .u8 8)) v21)) rfl rfl rfl (o_ld_e tk (enc_l td22 sz22 (enc_u td5 sz5).cut) rfl rfl) ?_
      refine wpo_mv (a := ((eL 1 (@eU .u8 8)) v21)) rfl rfl rfl (o_as tk rfl (Wk.refl _)) ?_
      refine wpo_nil ?_
      refine awp_region rfl ?_
      refine wpo_mv (a := (eT tk_8 1 (@eU .u8 8) c5)) rfl rfl rfl (o_mv tk rfl (Wk.refl _)) ?_
      refine wpo_mv (a := ((eL 1 (@eU .u8 8)) v21)) rfl rfl rfl (o_mv tk rfl (Wk.refl _)) ?_
      obtain ⟨v23, hv24, H22⟩ := Option.bind_eq_some_iff.1 H20
      refine wpo_a (av := fun t => eT t 1 (@eU .u8 8) v23) rfl rfl rfl (h_app tk hH 0 hv24 rfl td22 ty5 rfl (by decide) rfl (src_l td22 rfl)) fun tk25 τ hH => ?_
      refine wpo_mv (a := (eT tk25 1 (@eU .u8 8) v23)) rfl rfl rfl (o_as tk rfl (Wk.refl _)) ?_
      refine wpo_nil ?_
      refine awp_region rfl ?_
      refine wpo_lt H22 eI rfl rfl rfl (o_ar tk rfl rfl rfl) fun v27 H26 => ?_
      refine wpo_mv (a := (eI v27)) rfl rfl rfl (o_mv tk rfl (Wk.refl _)) ?_
      refine wpo_nil ?_
      exact ⟨(v23, v27), inj_inl H26, tk25, (wkf_cons (.of_eq rfl) (wkf_cons (.of_eq rfl) (wkf_cons (.of_eq rfl) (wkf_cons (.of_eq rfl) (wkf_cons (.of_eq rfl) (wkf_cons (.of_eq rfl) (wkf_cons (.of_eq rfl) (wkf_nil _)))))))), hH⟩
    · refine awp_exit ?_
      have hz := hy14 _ (inj_inr H19)
      subst hz
      exact ⟨⟨_, inj_inr H19⟩, tk_8, (wkf_cons (.of_eq rfl) (wkf_cons (.of_eq rfl) (wkf_cons (.of_eq rfl) (wkf_cons (.of_eq rfl) (wkf_nil _))))), hH⟩
end Go.Proofs.YtkmlinaofbcbaaaDoor
namespace Go.Proofs.YtkmlinaofbcbaaaDoor
open Go Go.Va
set_option linter.unusedVariables false
set_option linter.unusedSimpArgs false
set_option maxRecDepth 20000
theorem region_Span_ok {x0 : api_Mark} {r : Int × Int} (H : region_Span x0 = some r) (σ : St)  : ACall Tryd.prog 91 [(e_api_Mark x0)] σ (fun a τ => a = .tup [eI r.1, eI r.2] ∧ τ = σ) := by
  unfold region_Span at H
  refine ACall.pure (acall_start tk Tryd.func91 (by decide) rfl (Nat.le_of_ble_eq_true rfl) ?_)
  have hH := Holds.init σ
  refine awp_seq ?_
  refine awp_region rfl ?_
  refine wpo_mv (a := (.fptr (c_api_Mark x0) 0)) rfl rfl rfl (o_boxf tk rfl (.of_eq rfl) (b := (e_api_Mark x0)) (enc74.flat _)) ?_
  refine wpo_mv (a := (eI (0 : Int))) rfl rfl rfl (o_as tk rfl (Wk.refl _)) ?_
  refine wpo_mv (a := (eI (0 : Int))) rfl rfl rfl (o_as tk rfl (Wk.refl _)) ?_
  refine wpo_nil ?_
  refine awp_seq ?_
  refine awp_seq ?_
  refine awp_region rfl ?_
  refine wpo_mv (a := (.fptr (c_api_Mark x0) 2)) rfl rfl rfl (o_c tk false rfl (fun _ => rfl)) ?_
  refine wpo_mv (a := (eI x0.Size)) rfl rfl rfl (o_ld tk rfl rfl) ?_
  refine wpo_lt H eB rfl rfl rfl (o_ar tk rfl rfl rfl) fun v2 H1 => ?_
  refine wpo_nil ?_
  refine awp_if H1 rfl (fun H3 => ?_) (fun H3 => ?_)
  · refine awp_seq ?_
    refine awp_drawS mixed [] rfl (by decide +kernel) rfl rfl ?_
    refine wpdS_mv (a := (.fptr (c_api_Mark x0) 1)) rfl rfl rfl (o_c tk false rfl (fun _ => rfl)) ?_
    refine wpdS_mv (a := (eI x0.Off)) rfl rfl rfl (o_ld tk rfl rfl) ?_
    refine wpdS_lt H3 eI rfl rfl rfl (o_quo tk (z := (233 : Int)) rfl rfl rfl) fun v5 H4 => ?_
    refine wpdS_mv (a := (.fptr (c_api_Mark x0) 1)) rfl rfl rfl (o_c tk false rfl (fun _ => rfl)) ?_
    refine wpdS_mv (a := (eI x0.Off)) rfl rfl rfl (o_ld tk rfl rfl) ?_
    refine wpdS_lt H4 eI rfl rfl rfl (o_quo tk (z := (233 : Int)) rfl rfl rfl) fun v7 H6 => ?_
    refine wpdS_lt H6 eI rfl rfl rfl (o_ar tk rfl rfl rfl) fun v9 H8 => ?_
    refine wpdS_mv (a := (eI v5)) rfl rfl rfl (o_as tk rfl (Wk.refl _)) ?_
    refine wpdS_mv (a := (eI v9)) rfl rfl rfl (o_as tk rfl (Wk.refl _)) ?_
    refine wpdS_nil ?_
    refine awp_ret ?_
    obtain rfl := Option.some.inj H8
    exact ⟨_, (.tup [(eI v5), (eI v9)]), rfl, (wk_tup (.cons (.of_eq rfl) (.cons (.of_eq rfl) .nil))), .of_eq (by simp only [cutAV, cutL, (enc_i64 td3 sz3).cut _ _ _, (enc_i64 td3 sz3).cut _ _ _]), hH.noT⟩
  · refine awp_skip ?_
    refine awp_seq ?_
    refine awp_drawS mixed [] rfl (by decide +kernel) rfl rfl ?_
    refine wpdS_mv (a := (.fptr (c_api_Mark x0) 1)) rfl rfl rfl (o_c tk false rfl (fun _ => rfl)) ?_
    refine wpdS_mv (a := (eI x0.Off)) rfl rfl rfl (o_ld tk rfl rfl) ?_
    refine wpdS_lt H3 eI rfl rfl rfl (o_quo tk (z := (233 : Int)) rfl rfl rfl) fun v11 H10 => ?_
    refine wpdS_mv (a := (.fptr (c_api_Mark x0) 1)) rfl rfl rfl (o_c tk false rfl (fun _ => rfl)) ?_
    refine wpdS_mv (a := (eI x0.Off)) rfl rfl rfl (o_ld tk rfl rfl) ?_
    refine wpdS_mv (a := (.fptr (c_api_Mark x0) 2)) rfl rfl rfl (o_c tk false rfl (fun _ => rfl)) ?_
    refine wpdS_mv (a := (eI x0.Size)) rfl rfl rfl (o_ld tk rfl rfl) ?_
    refine wpdS_lt H10 eI rfl rfl rfl (o_ar tk rfl rfl rfl) fun v13 H12 => ?_
    refine wpdS_lt H12 eI rfl rfl rfl (o_ar tk rfl rfl rfl) fun v15 H14 => ?_
    refine wpdS_lt H14 eI rfl rfl rfl (o_quo tk (z := (233 : Int)) rfl rfl rfl) fun v17 H16 => ?_
    refine wpdS_mv (a := (eI v11)) rfl rfl rfl (o_as tk rfl (Wk.refl _)) ?_
    refine wpdS_mv (a := (eI v17)) rfl rfl rfl (o_as tk rfl (Wk.refl _)) ?_
    refine wpdS_nil ?_
    refine awp_ret ?_
    obtain rfl := Option.some.inj H16
    exact ⟨_, (.tup [(eI v11), (eI v17)]), rfl, (wk_tup (.cons (.of_eq rfl) (.cons (.of_eq rfl) .nil))), .of_eq (by simp only [cutAV, cutL, (enc_i64 td3 sz3).cut _ _ _, (enc_i64 td3 sz3).cut _ _ _]), hH.noT⟩
end Go.Proofs.YtkmlinaofbcbaaaDoor
namespace Go.Proofs.YtkmlinaofbcbaaaDoor
open Go Go.Va
set_option linter.unusedVariables false
set_option linter.unusedSimpArgs false
set_option maxRecDepth 20000
theorem region_Cap_ok {x0 : Int} {r : Int} (H : region_Cap x0 = some r) (σ : St)  : ACall Tryd.prog 92 [(eI x0)] σ (fun a τ => a = eI r ∧ τ = σ) := by
  unfold region_Cap at H
  refine ACall.pure (acall_start tk Tryd.func92 (by decide) rfl (Nat.le_of_ble_eq_true rfl) ?_)
  have hH := Holds.init σ
  refine awp_seq ?_
  refine awp_region rfl ?_
  refine wpo_mv (a := (eI (0 : Int))) rfl rfl rfl (o_as tk rfl (Wk.refl _)) ?_
  refine wpo_nil ?_
  refine awp_seq ?_
  refine awp_region rfl ?_
  refine wpo_mv (a := (eI x0)) rfl rfl rfl (o_mv tk rfl (Wk.refl _)) ?_
  refine wpo_lt H eI rfl rfl rfl (o_ar tk rfl rfl rfl) fun v2 H1 => ?_
  refine wpo_lt H1 eI rfl rfl rfl (o_max tk rfl rfl) fun v4 H3 => ?_
  refine wpo_lt H3 eI rfl rfl rfl (o_ar tk rfl rfl rfl) fun v6 H5 => ?_
  refine wpo_mv (a := (eI v6)) rfl rfl rfl (o_as tk rfl (Wk.refl _)) ?_
  refine wpo_nil ?_
  refine awp_ret ?_
  obtain rfl := Option.some.inj H5
  exact ⟨_, (eI v6), rfl, (.of_eq rfl), .of_eq ((enc_i64 td3 sz3).cut _ _ _), hH.noT⟩
end Go.Proofs.YtkmlinaofbcbaaaDoor
namespace Go.Proofs.YtkmlinaofbcbaaaDoor
open Go Go.Va
set_option linter.unusedVariables false
set_option linter.unusedSimpArgs false
set_option maxRecDepth 20000
theorem butterylaw14_works_ok  {r : Bool} (H : butterylaw14_works = some r) (σ : St)  (hg : σ.gl = gls) : ACall Tryd.prog 25 [] σ (fun a τ => a = eB r ∧ τ = σ) := by
  unfold butterylaw14_works at H
  refine ACall.pure (acall_start tk Tryd.func25 (by decide) rfl (Nat.le_of_ble_eq_true rfl) ?_)
  have hH := Holds.init σ
  refine awp_seq ?_
  refine awp_region rfl ?_
  refine wpo_mv (a := (eB false)) rfl rfl rfl (o_as tk rfl (Wk.refl _)) ?_
  refine wpo_nil ?_
  refine awp_seq ?_
  refine awp_region rfl ?_
  refine wpo_mv (a := (eF 1 eI ([(0 : Int)] : List Int))) rfl rfl rfl (o_c tk false rfl (fun _ => rfl)) ?_
  refine wpo_lt H e_api_Foot rfl rfl rfl (OpP.wk (wkf_up (t := 16) (a := ((eL 1 eI) ([(0 : Int)] : List Int))) wk_no) (o_c tk false rfl (fun _ => rfl))) fun v2 H1 => ?_
  refine wpo_a (av := fun id => .ref id 0) rfl rfl rfl (h_alloc tk hH ty53 [(eI z_api_Foot.Seq), (eI z_api_Foot.Bytes), (eI z_api_Foot.Count), AV.nils] rfl) fun id3 τ ⟨hH, n4⟩ => ?_
  refine wpo_z rfl rfl (h_st tk hH 0 rfl ty53 (by simp) rfl rfl (.of_eq rfl) (b := (e_api_Foot v2)) (enc53.flat _) rfl (Nat.le_of_ble_eq_true rfl) (c_api_Foot (v2 : api_Foot)) rfl) fun τ hH => ?_
  refine wpo_nil ?_
  refine awp_seq ?_
  refine awp_region rfl ?_
  refine wpo_rd (a := (e_api_Foot (v2 : api_Foot))) rfl rfl rfl (h_ld tk hH 0 rfl rfl rfl) ?_
  refine wpo_bd H1 (fun r => .tup [(eL 1 (@eU .u8 8)) r.1, eErr r.2]) rfl rfl rfl (fun v7 hv => OpP.of_call rfl rfl (.cons (.of_eq rfl) .nil) (region_Put_ok hv)) fun v7 hv7 H6 => ?_
  refine wpo_mv (a := (.tup [((eL 1 (@eU .u8 8)) v7.1), (eErr v7.2)])) rfl rfl rfl (o_mv tk rfl (Wk.refl _)) ?_
  refine wpo_mv (a := ((eL 1 (@eU .u8 8)) v7.1)) rfl rfl rfl (o_ext tk rfl rfl) ?_
  refine wpo_mv (a := (eErr v7.2)) rfl rfl rfl (o_ext tk rfl rfl) ?_
  refine wpo_mv (a := ((eL 1 (@eU .u8 8)) v7.1)) rfl rfl rfl (o_as tk rfl (Wk.refl _)) ?_
  refine wpo_mv (a := (eErr v7.2)) rfl rfl rfl (o_as tk rfl (Wk.refl _)) ?_
  refine wpo_nil ?_
  refine awp_seq ?_
  refine awp_region rfl ?_
  refine wpo_mv (a := ((eL 1 (@eU .u8 8)) v7.1)) rfl rfl rfl (o_mv tk rfl (Wk.refl _)) ?_
  refine wpo_bd H6 (fun r => .tup [e_api_Foot r.1, eErr r.2]) rfl rfl rfl (fun v9 hv => OpP.of_call rfl rfl (.cons (.of_eq rfl) .nil) (region_Get_ok hv)) fun v9 hv9 H8 => ?_
  refine wpo_mv (a := (.tup [(e_api_Foot v9.1), (eErr v9.2)])) rfl rfl rfl (o_mv tk rfl (Wk.refl _)) ?_
  refine wpo_mv (a := (e_api_Foot v9.1)) rfl rfl rfl (o_ext tk rfl rfl) ?_
  refine wpo_mv (a := (eErr v9.2)) rfl rfl rfl (o_ext tk rfl rfl) ?_
  refine wpo_a (av := fun id => .ref id 0) rfl rfl rfl (h_alloc tk hH ty53 [(eI z_api_Foot.Seq), (eI z_api_Foot.Bytes), (eI z_api_Foot.Count), AV.nils] rfl) fun id10 τ ⟨hH, n11⟩ => ?_
  refine wpo_z rfl rfl (h_st tk hH 0 rfl ty53 (by simp) rfl rfl (.of_eq rfl) (b := (e_api_Foot v9.1)) (enc53.flat _) rfl (Nat.le_of_ble_eq_true rfl) (c_api_Foot (v9.1 : api_Foot)) rfl) fun τ hH => ?_
  refine wpo_mv (a := (eErr v9.2)) rfl rfl rfl (o_as tk rfl (Wk.refl _)) ?_
  refine wpo_nil ?_
  refine awp_seq ?_
  refine awp_region rfl ?_
  refine wpo_mv (a := (eF 1 eI ([(1 : Int)] : List Int))) rfl rfl rfl (o_c tk false rfl (fun _ => rfl)) ?_
  refine wpo_lt H8 e_api_Foot rfl rfl rfl (OpP.wk (wkf_up (t := 29) (a := ((eL 1 eI) ([(1 : Int)] : List Int))) wk_no) (o_c tk false rfl (fun _ => rfl))) fun v14 H13 => ?_
  refine wpo_bd H13 (fun r => .tup [(eL 1 (@eU .u8 8)) r.1, eErr r.2]) rfl rfl rfl (fun v16 hv => OpP.of_call rfl rfl (.cons (.of_eq rfl) .nil) (region_Put_ok hv)) fun v16 hv16 H15 => ?_
  refine wpo_mv (a := (.tup [((eL 1 (@eU .u8 8)) v16.1), (eErr v16.2)])) rfl rfl rfl (o_mv tk rfl (Wk.refl _)) ?_
  refine wpo_mv (a := ((eL 1 (@eU .u8 8)) v16.1)) rfl rfl rfl (o_ext tk rfl rfl) ?_
  refine wpo_mv (a := (eErr v16.2)) rfl rfl rfl (o_ext tk rfl rfl) ?_
  refine wpo_mv (a := ((eL 1 (@eU .u8 8)) v16.1)) rfl rfl rfl (o_as tk rfl (Wk.refl _)) ?_
  refine wpo_mv (a := (eErr v16.2)) rfl rfl rfl (o_as tk rfl (Wk.refl _)) ?_
  refine wpo_nil ?_
  refine awp_seq ?_
  refine awp_region rfl ?_
  refine wpo_mv (a := (eF 1 (@eU .u8 8) ([97#8, 98#8] : List (BitVec 8)))) rfl rfl rfl (o_c tk false rfl (fun _ => rfl)) ?_
  refine wpo_mv (a := (eF 1 (@eU .u8 8) ([97#8, 98#8] : List (BitVec 8)))) rfl rfl rfl (o_bconst tk td22 td5 rfl) ?_
  refine wpo_lt H15 e_api_Entry rfl rfl rfl (OpP.wk (wkf_up (t := 35) (a := ((eL 1 (@eU .u8 8)) ([97#8, 98#8] : List (BitVec 8)))) wk_no) (o_c tk false rfl (fun _ => rfl))) fun v18 H17 => ?_
  refine wpo_lt H17 (eF 5 e_api_Entry) rfl rfl rfl (o_c tk false rfl (fun _ => rfl)) fun v20 H19 => ?_
  refine wpo_mv (a := (eF 5 e_api_Entry v20)) rfl rfl rfl (o_as tk rfl (Wk.refl _)) ?_
  refine wpo_nil ?_
  refine awp_seq ?_
  refine awp_drawS mixed [] rfl (by decide +kernel) rfl rfl ?_
  refine wpdS_rd (a := (e_api_Foot (v2 : api_Foot))) rfl (by decide +kernel) rfl rfl (h_ld tk hH 1 rfl rfl rfl) ?_
  refine wpdS_mv (a := (eF 5 e_api_Entry v20)) rfl rfl rfl (o_mv tk rfl (Wk.refl _)) ?_
  refine wpdS_bd H19 (eL 1 (@eU .u8 8)) rfl rfl rfl (fun v22 hv => OpP.of_call rfl rfl (.cons wk_no .nil) (item_All_ok hv)) fun v22 hv22 H21 => ?_
  refine wpdS_bd H21 (eL 1 (eL 1 (@eU .u8 8))) rfl rfl rfl (fun v24 hv => OpP.of_call rfl rfl (.cons (.of_eq rfl) .nil) (region_Split_ok hv)) fun v24 hv24 H23 => ?_
  refine wpdS_bdr H23 (fun r => .tup [(eL 5 e_api_Entry) r.1, eErr r.2]) rfl (by decide +kernel) rfl rfl (fun v26 hv => h_callr rfl rfl (.cons (.of_eq rfl) (.cons (.of_eq rfl) .nil)) (region_Whole_ok hv _ (hH.gl.trans hg))) fun v26 hv26 H25 => ?_
  refine wpdS_mv (a := (.tup [((eL 5 e_api_Entry) v26.1), (eErr v26.2)])) rfl rfl rfl (o_mv tk rfl (Wk.refl _)) ?_
  refine wpdS_mv (a := ((eL 5 e_api_Entry) v26.1)) rfl rfl rfl (o_ext tk rfl rfl) ?_
  refine wpdS_mv (a := (eErr v26.2)) rfl rfl rfl (o_ext tk rfl rfl) ?_
  refine wpdS_mv (a := ((eL 5 e_api_Entry) v26.1)) rfl rfl rfl (o_as tk rfl (Wk.refl _)) ?_
  refine wpdS_mv (a := (eErr v26.2)) rfl rfl rfl (o_as tk rfl (Wk.refl _)) ?_
  refine wpdS_nil ?_
  refine awp_seq ?_
  refine awp_region rfl ?_
  refine wpo_mv (a := (eF 5 e_api_Entry v20)) rfl rfl rfl (o_mv tk rfl (Wk.refl _)) ?_
  refine wpo_bd H25 (eL 3 e_api_Mark) rfl rfl rfl (fun v28 hv => OpP.of_call rfl rfl (.cons wk_no .nil) (region_Marks_ok hv)) fun v28 hv28 H27 => ?_
  refine wpo_mv (a := ((eL 3 e_api_Mark) v28)) rfl rfl rfl (o_as tk rfl (Wk.refl _)) ?_
  refine wpo_nil ?_
  refine awp_seq ?_
  refine awp_seq ?_
  refine awp_region rfl ?_
  refine wpo_mv (a := ((eL 3 e_api_Mark) v28)) rfl rfl rfl (o_mv tk rfl (Wk.refl _)) ?_
  refine wpo_lt H27 eI rfl rfl rfl (o_len tk td70 rfl) fun v30 H29 => ?_
  refine wpo_lt H29 eB rfl rfl rfl (o_ar tk rfl rfl rfl) fun v32 H31 => ?_
  refine wpo_nil ?_
  refine awp_if H31 rfl (fun H33 => ?_) (fun H33 => ?_)
  · refine awp_seq ?_
    refine awp_region rfl ?_
    refine wpo_mv (a := (eB false)) rfl rfl rfl (o_as tk rfl (Wk.refl _)) ?_
    refine wpo_nil ?_
    refine awp_ret ?_
    obtain rfl := Option.some.inj H33
    exact ⟨_, (eB false), rfl, (.of_eq rfl), .of_eq ((enc_b td4 sz4).cut _ _ _), ((hH.noT.drop n11).drop n4)⟩
  · refine awp_skip ?_
    refine awp_seq ?_
    refine awp_drawR mixed [10, 11] rfl (by decide +kernel) rfl rfl (fun σ => σ.gl = gls) 1 (hH.gl.trans hg) ?_
    refine wpdR_mv (a := (eF 5 e_api_Entry v20)) rfl rfl rfl (o_mv tk rfl (Wk.refl _)) ?_
    refine wpdR_bd H33 (eL 1 (@eU .u8 8)) rfl rfl rfl (fun v35 hv => OpP.of_call rfl rfl (.cons wk_no .nil) (item_All_ok hv)) fun v35 hv35 H34 => ?_
    refine wpdR_bd H34 (eL 1 (eL 1 (@eU .u8 8))) rfl rfl rfl (fun v37 hv => OpP.of_call rfl rfl (.cons (.of_eq rfl) .nil) (region_Split_ok hv)) fun v37 hv37 H36 => ?_
    refine wpdR_mv (a := ((eL 3 e_api_Mark) v28)) rfl rfl rfl (o_mv tk rfl (Wk.refl _)) ?_
    refine wpdR_bd H36 (fun y => .fptr (e_api_Mark y).cells 0) rfl rfl rfl (fun v39 hv => o_ixa tk hv td70 enc74 rfl rfl) fun v39 hv39 H38 => ?_
    refine wpdR_mv (a := (e_api_Mark v39)) rfl rfl rfl (o_ld_e tk enc74 rfl rfl) ?_
    refine wpdR_bdrp H38 (fun r => .tup [e_api_Entry r.1, eErr r.2]) rfl (by decide +kernel) rfl rfl (fun v41 hv σ hF => h_callr rfl rfl (.cons (.of_eq rfl) (.cons (.of_eq rfl) (.cons (.of_eq rfl) .nil))) (region_Take_ok hv _ hF)) fun v41 hv41 H40 => ?_
    refine wpdR_mv (a := (.tup [(e_api_Entry v41.1), (eErr v41.2)])) rfl rfl rfl (o_mv tk rfl (Wk.refl _)) ?_
    refine wpdR_mv (a := (e_api_Entry v41.1)) rfl rfl rfl (o_ext tk rfl rfl) ?_
    refine wpdR_mv (a := (eErr v41.2)) rfl rfl rfl (o_ext tk rfl rfl) ?_
    refine wpdR_a (av := fun id => .ref id 0) rfl rfl rfl (h_alloc tk hH ty24 [(eS z_api_Entry.Key), (eI z_api_Entry.Version), (eI z_api_Entry.AsOf), (eI z_api_Entry.Ends), AV.nils] rfl) fun id42 τ ⟨hH, n43⟩ => ⟨fun _ => (hH.gl.trans hg), ?_⟩
    refine wpdR_z rfl rfl rfl (h_st tk hH 0 rfl ty24 (by simp) rfl rfl (.of_eq rfl) (b := (e_api_Entry v41.1)) (enc24.flat _) rfl (Nat.le_of_ble_eq_true rfl) (c_api_Entry (v41.1 : api_Entry)) rfl) fun τ hH => ⟨fun h => absurd h (by decide +kernel), ?_⟩
    refine wpdR_mv (a := (eErr v41.2)) rfl rfl rfl (o_as tk rfl (Wk.refl _)) ?_
    refine wpdR_nil ?_
    refine awp_seq ?_
    refine awp_region rfl ?_
    refine wpo_lt H40 e_api_Mark rfl rfl rfl (o_c tk false rfl (fun _ => rfl)) fun v46 H45 => ?_
    refine wpo_bd H45 (fun r => .tup [eI r.1, eI r.2]) rfl rfl rfl (fun v48 hv => OpP.of_call rfl rfl (.cons (.of_eq rfl) .nil) (region_Span_ok hv)) fun v48 hv48 H47 => ?_
    refine wpo_mv (a := (.tup [(eI v48.1), (eI v48.2)])) rfl rfl rfl (o_mv tk rfl (Wk.refl _)) ?_
    refine wpo_mv (a := (eI v48.1)) rfl rfl rfl (o_ext tk rfl rfl) ?_
    refine wpo_mv (a := (eI v48.2)) rfl rfl rfl (o_ext tk rfl rfl) ?_
    refine wpo_mv (a := (eI v48.1)) rfl rfl rfl (o_as tk rfl (Wk.refl _)) ?_
    refine wpo_mv (a := (eI v48.2)) rfl rfl rfl (o_as tk rfl (Wk.refl _)) ?_
    refine wpo_nil ?_
    refine awp_seq ?_
    refine awp_drawS mixed [] rfl (by decide +kernel) rfl rfl ?_
    refine wpdS_mv (a := (eErr v7.2)) rfl rfl rfl (o_mv tk rfl (Wk.refl _)) ?_
    refine wpdS_lt H47 eB rfl rfl rfl (o_err_eql tk rfl rfl rfl) fun v50 H49 => ?_
    refine wpdS_mv (a := (eB v50)) rfl rfl rfl (o_mv tk rfl (Wk.refl _)) ?_
    refine if_split H49 (fun hb H51 => ?_) (fun hb H51 => ?_)
    · subst hb
      refine wpdS_mv (a := (eErr v9.2)) rfl rfl rfl (o_mv tk rfl (Wk.refl _)) ?_
      refine wpdS_lt H51 eB rfl rfl rfl (o_err_eql tk rfl rfl rfl) fun v53 H52 => ?_
      refine wpdS_mv (a := (eB v53)) rfl rfl rfl (o_pick_t tk rfl rfl (Wk.refl _)) ?_
      refine wpdS_mv (a := (eB v53)) rfl rfl rfl (o_mv tk rfl (Wk.refl _)) ?_
      refine if_split H52 (fun hb H54 => ?_) (fun hb H54 => ?_)
      · subst hb
        refine wpdS_rd (a := (e_api_Foot (v2 : api_Foot))) rfl (by decide +kernel) rfl rfl (h_ld tk hH 2 rfl rfl rfl) ?_
        refine wpdS_rd (a := (e_api_Foot (v9.1 : api_Foot))) rfl (by decide +kernel) rfl rfl (h_ld tk hH 1 rfl rfl rfl) ?_
        refine wpdS_bd H54 eB rfl rfl rfl (fun v56 hv => OpP.of_call rfl rfl (.cons (.of_eq rfl) (.cons (.of_eq rfl) .nil)) (butteryref14_Same_ok hv)) fun v56 hv56 H55 => ?_
        refine wpdS_mv (a := (eB v56)) rfl rfl rfl (o_pick_t tk rfl rfl (Wk.refl _)) ?_
        refine wpdS_mv (a := (eB v56)) rfl rfl rfl (o_mv tk rfl (Wk.refl _)) ?_
        refine if_split H55 (fun hb H57 => ?_) (fun hb H57 => ?_)
        · subst hb
          refine wpdS_mv (a := (eErr v16.2)) rfl rfl rfl (o_mv tk rfl (Wk.refl _)) ?_
          refine wpdS_bdr H57 eI rfl (by decide +kernel) rfl rfl (fun v59 hv => h_callr rfl rfl (.cons (.of_eq rfl) .nil) (trouble_Of_ok hv _ (hH.gl.trans hg))) fun v59 hv59 H58 => ?_
          refine wpdS_lt H58 eB rfl rfl rfl (o_ar tk rfl rfl rfl) fun v61 H60 => ?_
          refine wpdS_mv (a := (eB v61)) rfl rfl rfl (o_pick_t tk rfl rfl (Wk.refl _)) ?_
          refine wpdS_mv (a := (eB v61)) rfl rfl rfl (o_mv tk rfl (Wk.refl _)) ?_
          refine if_split H60 (fun hb H62 => ?_) (fun hb H62 => ?_)
          · subst hb
            refine wpdS_mv (a := (eErr v26.2)) rfl rfl rfl (o_mv tk rfl (Wk.refl _)) ?_
            refine wpdS_lt H62 eB rfl rfl rfl (o_err_eql tk rfl rfl rfl) fun v64 H63 => ?_
            refine wpdS_mv (a := (eB v64)) rfl rfl rfl (o_pick_t tk rfl rfl (Wk.refl _)) ?_
            refine wpdS_mv (a := (eB v64)) rfl rfl rfl (o_mv tk rfl (Wk.refl _)) ?_
            refine if_split H63 (fun hb H65 => ?_) (fun hb H65 => ?_)
            · subst hb
              refine wpdS_mv (a := ((eL 5 e_api_Entry) v26.1)) rfl rfl rfl (o_mv tk rfl (Wk.refl _)) ?_
              refine wpdS_mv (a := (eF 5 e_api_Entry v20)) rfl rfl rfl (o_mv tk rfl (Wk.refl _)) ?_
              refine wpdS_bd H65 eB rfl rfl rfl (fun v67 hv => OpP.of_call rfl rfl (.cons (.of_eq rfl) (.cons wk_no .nil)) (butteryref06_SameAll_ok hv)) fun v67 hv67 H66 => ?_
              refine wpdS_mv (a := (eB v67)) rfl rfl rfl (o_pick_t tk rfl rfl (Wk.refl _)) ?_
              refine wpdS_mv (a := (eB v67)) rfl rfl rfl (o_mv tk rfl (Wk.refl _)) ?_
              refine if_split H66 (fun hb H68 => ?_) (fun hb H68 => ?_)
              · subst hb
                refine wpdS_mv (a := (eErr v41.2)) rfl rfl rfl (o_mv tk rfl (Wk.refl _)) ?_
                refine wpdS_lt H68 eB rfl rfl rfl (o_err_eql tk rfl rfl rfl) fun v70 H69 => ?_
                refine wpdS_mv (a := (eB v70)) rfl rfl rfl (o_pick_t tk rfl rfl (Wk.refl _)) ?_
                refine wpdS_mv (a := (eB v70)) rfl rfl rfl (o_mv tk rfl (Wk.refl _)) ?_
                refine if_split H69 (fun hb H71 => ?_) (fun hb H71 => ?_)
                · subst hb
                  refine wpdS_rd (a := (e_api_Entry (v41.1 : api_Entry))) rfl (by decide +kernel) rfl rfl (h_ld tk hH 0 rfl rfl rfl) ?_
                  refine wpdS_mv (a := (eF 5 e_api_Entry v20)) rfl rfl rfl (o_mv tk rfl (Wk.refl _)) ?_
                  refine wpdS_bd H71 (fun y => .fptr (e_api_Entry y).cells 0) rfl rfl rfl (fun v73 hv => o_ixa tk hv td60 enc24 rfl rfl) fun v73 hv73 H72 => ?_
                  refine wpdS_mv (a := (e_api_Entry v73)) rfl rfl rfl (o_ld_e tk enc24 rfl rfl) ?_
                  refine wpdS_bd H72 eB rfl rfl rfl (fun v75 hv => OpP.of_call rfl rfl (.cons (.of_eq rfl) (.cons (.of_eq rfl) .nil)) (item_Same_ok hv)) fun v75 hv75 H74 => ?_
                  refine wpdS_mv (a := (eB v75)) rfl rfl rfl (o_pick_t tk rfl rfl (Wk.refl _)) ?_
                  refine wpdS_mv (a := (eB v75)) rfl rfl rfl (o_mv tk rfl (Wk.refl _)) ?_
                  refine if_split H74 (fun hb H76 => ?_) (fun hb H76 => ?_)
                  · subst hb
                    refine wpdS_bd H76 eI rfl rfl rfl (fun v78 hv => OpP.of_call rfl rfl (.cons (.of_eq rfl) .nil) (region_Cap_ok hv)) fun v78 hv78 H77 => ?_
                    refine wpdS_lt H77 eB rfl rfl rfl (o_ar tk rfl rfl rfl) fun v80 H79 => ?_
                    refine wpdS_mv (a := (eB v80)) rfl rfl rfl (o_pick_t tk rfl rfl (Wk.refl _)) ?_
                    refine wpdS_mv (a := (eB v80)) rfl rfl rfl (o_mv tk rfl (Wk.refl _)) ?_
                    refine if_split H79 (fun hb H81 => ?_) (fun hb H81 => ?_)
                    · subst hb
                      refine wpdS_mv (a := (eI v48.1)) rfl rfl rfl (o_mv tk rfl (Wk.refl _)) ?_
                      refine wpdS_lt H81 eB rfl rfl rfl (o_ar tk rfl rfl rfl) fun v83 H82 => ?_
                      refine wpdS_mv (a := (eB v83)) rfl rfl rfl (o_pick_t tk rfl rfl (Wk.refl _)) ?_
                      refine wpdS_mv (a := (eB v83)) rfl rfl rfl (o_mv tk rfl (Wk.refl _)) ?_
                      refine if_split H82 (fun hb H84 => ?_) (fun hb H84 => ?_)
                      · subst hb
                        refine wpdS_mv (a := (eI v48.2)) rfl rfl rfl (o_mv tk rfl (Wk.refl _)) ?_
                        refine wpdS_lt H84 eB rfl rfl rfl (o_ar tk rfl rfl rfl) fun v86 H85 => ?_
                        refine wpdS_mv (a := (eB v86)) rfl rfl rfl (o_pick_t tk rfl rfl (Wk.refl _)) ?_
                        refine wpdS_mv (a := (eB v86)) rfl rfl rfl (o_mv tk rfl (Wk.refl _)) ?_
                        refine if_split H85 (fun hb H87 => ?_) (fun hb H87 => ?_)
                        · subst hb
                          refine wpdS_rd (a := (e_api_Foot (v2 : api_Foot))) rfl (by decide +kernel) rfl rfl (h_ld tk hH 2 rfl rfl rfl) ?_
                          refine wpdS_bd H87 eErr rfl rfl rfl (fun v89 hv => OpP.of_call rfl rfl (.cons (.of_eq rfl) .nil) (region_Check_ok hv)) fun v89 hv89 H88 => ?_
                          refine wpdS_lt H88 eB rfl rfl rfl (o_err_eql tk rfl rfl rfl) fun v91 H90 => ?_
                          refine wpdS_mv (a := (eB v91)) rfl rfl rfl (o_pick_t tk rfl rfl (Wk.refl _)) ?_
                          refine wpdS_mv (a := (eB v91)) rfl rfl rfl (o_as tk rfl (Wk.refl _)) ?_
                          refine wpdS_nil ?_
                          refine awp_ret ?_
                          obtain rfl := Option.some.inj H90
                          exact ⟨_, (eB v91), rfl, (.of_eq rfl), .of_eq ((enc_b td4 sz4).cut _ _ _), (((hH.noT.drop n43).drop n11).drop n4)⟩
                        · subst hb
                          refine wpdS_skip rfl rfl rfl ?_
                          refine wpdS_skip rfl rfl rfl ?_
                          refine wpdS_skip rfl rfl rfl ?_
                          refine wpdS_mv (a := (eB false)) rfl rfl rfl (o_pick_f tk rfl rfl (Wk.refl _)) ?_
                          refine wpdS_mv (a := (eB false)) rfl rfl rfl (o_as tk rfl (Wk.refl _)) ?_
                          refine wpdS_nil ?_
                          refine awp_ret ?_
                          obtain rfl := Option.some.inj H87
                          exact ⟨_, (eB false), rfl, (.of_eq rfl), .of_eq ((enc_b td4 sz4).cut _ _ _), (((hH.noT.drop n43).drop n11).drop n4)⟩
                      · subst hb
                        refine wpdS_skip rfl rfl rfl ?_
                        refine wpdS_skip rfl rfl rfl ?_
                        refine wpdS_mv (a := (eB false)) rfl rfl rfl (o_pick_f tk rfl rfl (Wk.refl _)) ?_
                        refine wpdS_mv (a := (eB false)) rfl rfl rfl (o_mv tk rfl (Wk.refl _)) ?_
                        refine wpdS_skip rfl rfl rfl ?_
                        refine wpdS_skip rfl rfl rfl ?_
                        refine wpdS_skip rfl rfl rfl ?_
                        refine wpdS_mv (a := (eB false)) rfl rfl rfl (o_pick_f tk rfl rfl (Wk.refl _)) ?_
                        refine wpdS_mv (a := (eB false)) rfl rfl rfl (o_as tk rfl (Wk.refl _)) ?_
                        refine wpdS_nil ?_
                        refine awp_ret ?_
                        obtain rfl := Option.some.inj H84
                        exact ⟨_, (eB false), rfl, (.of_eq rfl), .of_eq ((enc_b td4 sz4).cut _ _ _), (((hH.noT.drop n43).drop n11).drop n4)⟩
                    · subst hb
                      refine wpdS_skip rfl rfl rfl ?_
                      refine wpdS_skip rfl rfl rfl ?_
                      refine wpdS_mv (a := (eB false)) rfl rfl rfl (o_pick_f tk rfl rfl (Wk.refl _)) ?_
                      refine wpdS_mv (a := (eB false)) rfl rfl rfl (o_mv tk rfl (Wk.refl _)) ?_
                      refine wpdS_skip rfl rfl rfl ?_
                      refine wpdS_skip rfl rfl rfl ?_
                      refine wpdS_mv (a := (eB false)) rfl rfl rfl (o_pick_f tk rfl rfl (Wk.refl _)) ?_
                      refine wpdS_mv (a := (eB false)) rfl rfl rfl (o_mv tk rfl (Wk.refl _)) ?_
                      refine wpdS_skip rfl rfl rfl ?_
                      refine wpdS_skip rfl rfl rfl ?_
                      refine wpdS_skip rfl rfl rfl ?_
                      refine wpdS_mv (a := (eB false)) rfl rfl rfl (o_pick_f tk rfl rfl (Wk.refl _)) ?_
                      refine wpdS_mv (a := (eB false)) rfl rfl rfl (o_as tk rfl (Wk.refl _)) ?_
                      refine wpdS_nil ?_
                      refine awp_ret ?_
                      obtain rfl := Option.some.inj H81
                      exact ⟨_, (eB false), rfl, (.of_eq rfl), .of_eq ((enc_b td4 sz4).cut _ _ _), (((hH.noT.drop n43).drop n11).drop n4)⟩
                  · subst hb
                    refine wpdS_skip rfl rfl rfl ?_
                    refine wpdS_skip rfl rfl rfl ?_
                    refine wpdS_mv (a := (eB false)) rfl rfl rfl (o_pick_f tk rfl rfl (Wk.refl _)) ?_
                    refine wpdS_mv (a := (eB false)) rfl rfl rfl (o_mv tk rfl (Wk.refl _)) ?_
                    refine wpdS_skip rfl rfl rfl ?_
                    refine wpdS_skip rfl rfl rfl ?_
                    refine wpdS_mv (a := (eB false)) rfl rfl rfl (o_pick_f tk rfl rfl (Wk.refl _)) ?_
                    refine wpdS_mv (a := (eB false)) rfl rfl rfl (o_mv tk rfl (Wk.refl _)) ?_
                    refine wpdS_skip rfl rfl rfl ?_
                    refine wpdS_skip rfl rfl rfl ?_
                    refine wpdS_mv (a := (eB false)) rfl rfl rfl (o_pick_f tk rfl rfl (Wk.refl _)) ?_
                    refine wpdS_mv (a := (eB false)) rfl rfl rfl (o_mv tk rfl (Wk.refl _)) ?_
                    refine wpdS_skip rfl rfl rfl ?_
                    refine wpdS_skip rfl rfl rfl ?_
                    refine wpdS_skip rfl rfl rfl ?_
                    refine wpdS_mv (a := (eB false)) rfl rfl rfl (o_pick_f tk rfl rfl (Wk.refl _)) ?_
                    refine wpdS_mv (a := (eB false)) rfl rfl rfl (o_as tk rfl (Wk.refl _)) ?_
                    refine wpdS_nil ?_
                    refine awp_ret ?_
                    obtain rfl := Option.some.inj H76
                    exact ⟨_, (eB false), rfl, (.of_eq rfl), .of_eq ((enc_b td4 sz4).cut _ _ _), (((hH.noT.drop n43).drop n11).drop n4)⟩
                · subst hb
                  refine wpdS_skip rfl rfl rfl ?_
                  refine wpdS_skip rfl rfl rfl ?_
                  refine wpdS_skip rfl rfl rfl ?_
                  refine wpdS_skip rfl rfl rfl ?_
                  refine wpdS_skip rfl rfl rfl ?_
                  refine wpdS_mv (a := (eB false)) rfl rfl rfl (o_pick_f tk rfl rfl (Wk.refl _)) ?_
                  refine wpdS_mv (a := (eB false)) rfl rfl rfl (o_mv tk rfl (Wk.refl _)) ?_
                  refine wpdS_skip rfl rfl rfl ?_
                  refine wpdS_skip rfl rfl rfl ?_
                  refine wpdS_mv (a := (eB false)) rfl rfl rfl (o_pick_f tk rfl rfl (Wk.refl _)) ?_
                  refine wpdS_mv (a := (eB false)) rfl rfl rfl (o_mv tk rfl (Wk.refl _)) ?_
                  refine wpdS_skip rfl rfl rfl ?_
                  refine wpdS_skip rfl rfl rfl ?_
                  refine wpdS_mv (a := (eB false)) rfl rfl rfl (o_pick_f tk rfl rfl (Wk.refl _)) ?_
                  refine wpdS_mv (a := (eB false)) rfl rfl rfl (o_mv tk rfl (Wk.refl _)) ?_
                  refine wpdS_skip rfl rfl rfl ?_
                  refine wpdS_skip rfl rfl rfl ?_
                  refine wpdS_mv (a := (eB false)) rfl rfl rfl (o_pick_f tk rfl rfl (Wk.refl _)) ?_
                  refine wpdS_mv (a := (eB false)) rfl rfl rfl (o_mv tk rfl (Wk.refl _)) ?_
                  refine wpdS_skip rfl rfl rfl ?_
                  refine wpdS_skip rfl rfl rfl ?_
                  refine wpdS_skip rfl rfl rfl ?_
                  refine wpdS_mv (a := (eB false)) rfl rfl rfl (o_pick_f tk rfl rfl (Wk.refl _)) ?_
                  refine wpdS_mv (a := (eB false)) rfl rfl rfl (o_as tk rfl (Wk.refl _)) ?_
                  refine wpdS_nil ?_
                  refine awp_ret ?_
                  obtain rfl := Option.some.inj H71
                  exact ⟨_, (eB false), rfl, (.of_eq rfl), .of_eq ((enc_b td4 sz4).cut _ _ _), (((hH.noT.drop n43).drop n11).drop n4)⟩
              · subst hb
                refine wpdS_skip rfl rfl rfl ?_
                refine wpdS_skip rfl rfl rfl ?_
                refine wpdS_mv (a := (eB false)) rfl rfl rfl (o_pick_f tk rfl rfl (Wk.refl _)) ?_
                refine wpdS_mv (a := (eB false)) rfl rfl rfl (o_mv tk rfl (Wk.refl _)) ?_
                refine wpdS_skip rfl rfl rfl ?_
                refine wpdS_skip rfl rfl rfl ?_
                refine wpdS_skip rfl rfl rfl ?_
                refine wpdS_skip rfl rfl rfl ?_
                refine wpdS_skip rfl rfl rfl ?_
                refine wpdS_mv (a := (eB false)) rfl rfl rfl (o_pick_f tk rfl rfl (Wk.refl _)) ?_
                refine wpdS_mv (a := (eB false)) rfl rfl rfl (o_mv tk rfl (Wk.refl _)) ?_
                refine wpdS_skip rfl rfl rfl ?_
                refine wpdS_skip rfl rfl rfl ?_
                refine wpdS_mv (a := (eB false)) rfl rfl rfl (o_pick_f tk rfl rfl (Wk.refl _)) ?_
                refine wpdS_mv (a := (eB false)) rfl rfl rfl (o_mv tk rfl (Wk.refl _)) ?_
                refine wpdS_skip rfl rfl rfl ?_
                refine wpdS_skip rfl rfl rfl ?_
                refine wpdS_mv (a := (eB false)) rfl rfl rfl (o_pick_f tk rfl rfl (Wk.refl _)) ?_
                refine wpdS_mv (a := (eB false)) rfl rfl rfl (o_mv tk rfl (Wk.refl _)) ?_
                refine wpdS_skip rfl rfl rfl ?_
                refine wpdS_skip rfl rfl rfl ?_
                refine wpdS_mv (a := (eB false)) rfl rfl rfl (o_pick_f tk rfl rfl (Wk.refl _)) ?_
                refine wpdS_mv (a := (eB false)) rfl rfl rfl (o_mv tk rfl (Wk.refl _)) ?_
                refine wpdS_skip rfl rfl rfl ?_
                refine wpdS_skip rfl rfl rfl ?_
                refine wpdS_skip rfl rfl rfl ?_
                refine wpdS_mv (a := (eB false)) rfl rfl rfl (o_pick_f tk rfl rfl (Wk.refl _)) ?_
                refine wpdS_mv (a := (eB false)) rfl rfl rfl (o_as tk rfl (Wk.refl _)) ?_
                refine wpdS_nil ?_
                refine awp_ret ?_
                obtain rfl := Option.some.inj H68
                exact ⟨_, (eB false), rfl, (.of_eq rfl), .of_eq ((enc_b td4 sz4).cut _ _ _), (((hH.noT.drop n43).drop n11).drop n4)⟩
            · subst hb
              refine wpdS_skip rfl rfl rfl ?_
              refine wpdS_skip rfl rfl rfl ?_
              refine wpdS_skip rfl rfl rfl ?_
              refine wpdS_mv (a := (eB false)) rfl rfl rfl (o_pick_f tk rfl rfl (Wk.refl _)) ?_
              refine wpdS_mv (a := (eB false)) rfl rfl rfl (o_mv tk rfl (Wk.refl _)) ?_
              refine wpdS_skip rfl rfl rfl ?_
              refine wpdS_skip rfl rfl rfl ?_
              refine wpdS_mv (a := (eB false)) rfl rfl rfl (o_pick_f tk rfl rfl (Wk.refl _)) ?_
              refine wpdS_mv (a := (eB false)) rfl rfl rfl (o_mv tk rfl (Wk.refl _)) ?_
              refine wpdS_skip rfl rfl rfl ?_
              refine wpdS_skip rfl rfl rfl ?_
              refine wpdS_skip rfl rfl rfl ?_
              refine wpdS_skip rfl rfl rfl ?_
              refine wpdS_skip rfl rfl rfl ?_
              refine wpdS_mv (a := (eB false)) rfl rfl rfl (o_pick_f tk rfl rfl (Wk.refl _)) ?_
              refine wpdS_mv (a := (eB false)) rfl rfl rfl (o_mv tk rfl (Wk.refl _)) ?_
              refine wpdS_skip rfl rfl rfl ?_
              refine wpdS_skip rfl rfl rfl ?_
              refine wpdS_mv (a := (eB false)) rfl rfl rfl (o_pick_f tk rfl rfl (Wk.refl _)) ?_
              refine wpdS_mv (a := (eB false)) rfl rfl rfl (o_mv tk rfl (Wk.refl _)) ?_
              refine wpdS_skip rfl rfl rfl ?_
              refine wpdS_skip rfl rfl rfl ?_
              refine wpdS_mv (a := (eB false)) rfl rfl rfl (o_pick_f tk rfl rfl (Wk.refl _)) ?_
              refine wpdS_mv (a := (eB false)) rfl rfl rfl (o_mv tk rfl (Wk.refl _)) ?_
              refine wpdS_skip rfl rfl rfl ?_
              refine wpdS_skip rfl rfl rfl ?_
              refine wpdS_mv (a := (eB false)) rfl rfl rfl (o_pick_f tk rfl rfl (Wk.refl _)) ?_
              refine wpdS_mv (a := (eB false)) rfl rfl rfl (o_mv tk rfl (Wk.refl _)) ?_
              refine wpdS_skip rfl rfl rfl ?_
              refine wpdS_skip rfl rfl rfl ?_
              refine wpdS_skip rfl rfl rfl ?_
              refine wpdS_mv (a := (eB false)) rfl rfl rfl (o_pick_f tk rfl rfl (Wk.refl _)) ?_
              refine wpdS_mv (a := (eB false)) rfl rfl rfl (o_as tk rfl (Wk.refl _)) ?_
              refine wpdS_nil ?_
              refine awp_ret ?_
              obtain rfl := Option.some.inj H65
              exact ⟨_, (eB false), rfl, (.of_eq rfl), .of_eq ((enc_b td4 sz4).cut _ _ _), (((hH.noT.drop n43).drop n11).drop n4)⟩
          · subst hb
            refine wpdS_skip rfl rfl rfl ?_
            refine wpdS_skip rfl rfl rfl ?_
            refine wpdS_mv (a := (eB false)) rfl rfl rfl (o_pick_f tk rfl rfl (Wk.refl _)) ?_
            refine wpdS_mv (a := (eB false)) rfl rfl rfl (o_mv tk rfl (Wk.refl _)) ?_
            refine wpdS_skip rfl rfl rfl ?_
            refine wpdS_skip rfl rfl rfl ?_
            refine wpdS_skip rfl rfl rfl ?_
            refine wpdS_mv (a := (eB false)) rfl rfl rfl (o_pick_f tk rfl rfl (Wk.refl _)) ?_
            refine wpdS_mv (a := (eB false)) rfl rfl rfl (o_mv tk rfl (Wk.refl _)) ?_
            refine wpdS_skip rfl rfl rfl ?_
            refine wpdS_skip rfl rfl rfl ?_
            refine wpdS_mv (a := (eB false)) rfl rfl rfl (o_pick_f tk rfl rfl (Wk.refl _)) ?_
            refine wpdS_mv (a := (eB false)) rfl rfl rfl (o_mv tk rfl (Wk.refl _)) ?_
            refine wpdS_skip rfl rfl rfl ?_
            refine wpdS_skip rfl rfl rfl ?_
            refine wpdS_skip rfl rfl rfl ?_
            refine wpdS_skip rfl rfl rfl ?_
            refine wpdS_skip rfl rfl rfl ?_
            refine wpdS_mv (a := (eB false)) rfl rfl rfl (o_pick_f tk rfl rfl (Wk.refl _)) ?_
            refine wpdS_mv (a := (eB false)) rfl rfl rfl (o_mv tk rfl (Wk.refl _)) ?_
            refine wpdS_skip rfl rfl rfl ?_
            refine wpdS_skip rfl rfl rfl ?_
            refine wpdS_mv (a := (eB false)) rfl rfl rfl (o_pick_f tk rfl rfl (Wk.refl _)) ?_
            refine wpdS_mv (a := (eB false)) rfl rfl rfl (o_mv tk rfl (Wk.refl _)) ?_
            refine wpdS_skip rfl rfl rfl ?_
            refine wpdS_skip rfl rfl rfl ?_
            refine wpdS_mv (a := (eB false)) rfl rfl rfl (o_pick_f tk rfl rfl (Wk.refl _)) ?_
            refine wpdS_mv (a := (eB false)) rfl rfl rfl (o_mv tk rfl (Wk.refl _)) ?_
            refine wpdS_skip rfl rfl rfl ?_
            refine wpdS_skip rfl rfl rfl ?_
            refine wpdS_mv (a := (eB false)) rfl rfl rfl (o_pick_f tk rfl rfl (Wk.refl _)) ?_
            refine wpdS_mv (a := (eB false)) rfl rfl rfl (o_mv tk rfl (Wk.refl _)) ?_
            refine wpdS_skip rfl rfl rfl ?_
            refine wpdS_skip rfl rfl rfl ?_
            refine wpdS_skip rfl rfl rfl ?_
            refine wpdS_mv (a := (eB false)) rfl rfl rfl (o_pick_f tk rfl rfl (Wk.refl _)) ?_
            refine wpdS_mv (a := (eB false)) rfl rfl rfl (o_as tk rfl (Wk.refl _)) ?_
            refine wpdS_nil ?_
            refine awp_ret ?_
            obtain rfl := Option.some.inj H62
            exact ⟨_, (eB false), rfl, (.of_eq rfl), .of_eq ((enc_b td4 sz4).cut _ _ _), (((hH.noT.drop n43).drop n11).drop n4)⟩
        · subst hb
          refine wpdS_skip rfl rfl rfl ?_
          refine wpdS_skip rfl rfl rfl ?_
          refine wpdS_skip rfl rfl rfl ?_
          refine wpdS_mv (a := (eB false)) rfl rfl rfl (o_pick_f tk rfl rfl (Wk.refl _)) ?_
          refine wpdS_mv (a := (eB false)) rfl rfl rfl (o_mv tk rfl (Wk.refl _)) ?_
          refine wpdS_skip rfl rfl rfl ?_
          refine wpdS_skip rfl rfl rfl ?_
          refine wpdS_mv (a := (eB false)) rfl rfl rfl (o_pick_f tk rfl rfl (Wk.refl _)) ?_
          refine wpdS_mv (a := (eB false)) rfl rfl rfl (o_mv tk rfl (Wk.refl _)) ?_
          refine wpdS_skip rfl rfl rfl ?_
          refine wpdS_skip rfl rfl rfl ?_
          refine wpdS_skip rfl rfl rfl ?_
          refine wpdS_mv (a := (eB false)) rfl rfl rfl (o_pick_f tk rfl rfl (Wk.refl _)) ?_
          refine wpdS_mv (a := (eB false)) rfl rfl rfl (o_mv tk rfl (Wk.refl _)) ?_
          refine wpdS_skip rfl rfl rfl ?_
          refine wpdS_skip rfl rfl rfl ?_
          refine wpdS_mv (a := (eB false)) rfl rfl rfl (o_pick_f tk rfl rfl (Wk.refl _)) ?_
          refine wpdS_mv (a := (eB false)) rfl rfl rfl (o_mv tk rfl (Wk.refl _)) ?_
          refine wpdS_skip rfl rfl rfl ?_
          refine wpdS_skip rfl rfl rfl ?_
          refine wpdS_skip rfl rfl rfl ?_
          refine wpdS_skip rfl rfl rfl ?_
          refine wpdS_skip rfl rfl rfl ?_
          refine wpdS_mv (a := (eB false)) rfl rfl rfl (o_pick_f tk rfl rfl (Wk.refl _)) ?_
          refine wpdS_mv (a := (eB false)) rfl rfl rfl (o_mv tk rfl (Wk.refl _)) ?_
          refine wpdS_skip rfl rfl rfl ?_
          refine wpdS_skip rfl rfl rfl ?_
          refine wpdS_mv (a := (eB false)) rfl rfl rfl (o_pick_f tk rfl rfl (Wk.refl _)) ?_
          refine wpdS_mv (a := (eB false)) rfl rfl rfl (o_mv tk rfl (Wk.refl _)) ?_
          refine wpdS_skip rfl rfl rfl ?_
          refine wpdS_skip rfl rfl rfl ?_
          refine wpdS_mv (a := (eB false)) rfl rfl rfl (o_pick_f tk rfl rfl (Wk.refl _)) ?_
          refine wpdS_mv (a := (eB false)) rfl rfl rfl (o_mv tk rfl (Wk.refl _)) ?_
          refine wpdS_skip rfl rfl rfl ?_
          refine wpdS_skip rfl rfl rfl ?_
          refine wpdS_mv (a := (eB false)) rfl rfl rfl (o_pick_f tk rfl rfl (Wk.refl _)) ?_
          refine wpdS_mv (a := (eB false)) rfl rfl rfl (o_mv tk rfl (Wk.refl _)) ?_
          refine wpdS_skip rfl rfl rfl ?_
          refine wpdS_skip rfl rfl rfl ?_
          refine wpdS_skip rfl rfl rfl ?_
          refine wpdS_mv (a := (eB false)) rfl rfl rfl (o_pick_f tk rfl rfl (Wk.refl _)) ?_
          refine wpdS_mv (a := (eB false)) rfl rfl rfl (o_as tk rfl (Wk.refl _)) ?_
          refine wpdS_nil ?_
          refine awp_ret ?_
          obtain rfl := Option.some.inj H57
          exact ⟨_, (eB false), rfl, (.of_eq rfl), .of_eq ((enc_b td4 sz4).cut _ _ _), (((hH.noT.drop n43).drop n11).drop n4)⟩
      · subst hb
        refine wpdS_skip rfl rfl rfl ?_
        refine wpdS_skip rfl rfl rfl ?_
        refine wpdS_skip rfl rfl rfl ?_
        refine wpdS_mv (a := (eB false)) rfl rfl rfl (o_pick_f tk rfl rfl (Wk.refl _)) ?_
        refine wpdS_mv (a := (eB false)) rfl rfl rfl (o_mv tk rfl (Wk.refl _)) ?_
        refine wpdS_skip rfl rfl rfl ?_
        refine wpdS_skip rfl rfl rfl ?_
        refine wpdS_skip rfl rfl rfl ?_
        refine wpdS_mv (a := (eB false)) rfl rfl rfl (o_pick_f tk rfl rfl (Wk.refl _)) ?_
        refine wpdS_mv (a := (eB false)) rfl rfl rfl (o_mv tk rfl (Wk.refl _)) ?_
        refine wpdS_skip rfl rfl rfl ?_
        refine wpdS_skip rfl rfl rfl ?_
        refine wpdS_mv (a := (eB false)) rfl rfl rfl (o_pick_f tk rfl rfl (Wk.refl _)) ?_
        refine wpdS_mv (a := (eB false)) rfl rfl rfl (o_mv tk rfl (Wk.refl _)) ?_
        refine wpdS_skip rfl rfl rfl ?_
        refine wpdS_skip rfl rfl rfl ?_
        refine wpdS_skip rfl rfl rfl ?_
        refine wpdS_mv (a := (eB false)) rfl rfl rfl (o_pick_f tk rfl rfl (Wk.refl _)) ?_
        refine wpdS_mv (a := (eB false)) rfl rfl rfl (o_mv tk rfl (Wk.refl _)) ?_
        refine wpdS_skip rfl rfl rfl ?_
        refine wpdS_skip rfl rfl rfl ?_
        refine wpdS_mv (a := (eB false)) rfl rfl rfl (o_pick_f tk rfl rfl (Wk.refl _)) ?_
        refine wpdS_mv (a := (eB false)) rfl rfl rfl (o_mv tk rfl (Wk.refl _)) ?_
        refine wpdS_skip rfl rfl rfl ?_
        refine wpdS_skip rfl rfl rfl ?_
        refine wpdS_skip rfl rfl rfl ?_
        refine wpdS_skip rfl rfl rfl ?_
        refine wpdS_skip rfl rfl rfl ?_
        refine wpdS_mv (a := (eB false)) rfl rfl rfl (o_pick_f tk rfl rfl (Wk.refl _)) ?_
        refine wpdS_mv (a := (eB false)) rfl rfl rfl (o_mv tk rfl (Wk.refl _)) ?_
        refine wpdS_skip rfl rfl rfl ?_
        refine wpdS_skip rfl rfl rfl ?_
        refine wpdS_mv (a := (eB false)) rfl rfl rfl (o_pick_f tk rfl rfl (Wk.refl _)) ?_
        refine wpdS_mv (a := (eB false)) rfl rfl rfl (o_mv tk rfl (Wk.refl _)) ?_
        refine wpdS_skip rfl rfl rfl ?_
        refine wpdS_skip rfl rfl rfl ?_
        refine wpdS_mv (a := (eB false)) rfl rfl rfl (o_pick_f tk rfl rfl (Wk.refl _)) ?_
        refine wpdS_mv (a := (eB false)) rfl rfl rfl (o_mv tk rfl (Wk.refl _)) ?_
        refine wpdS_skip rfl rfl rfl ?_
        refine wpdS_skip rfl rfl rfl ?_
        refine wpdS_mv (a := (eB false)) rfl rfl rfl (o_pick_f tk rfl rfl (Wk.refl _)) ?_
        refine wpdS_mv (a := (eB false)) rfl rfl rfl (o_mv tk rfl (Wk.refl _)) ?_
        refine wpdS_skip rfl rfl rfl ?_
        refine wpdS_skip rfl rfl rfl ?_
        refine wpdS_skip rfl rfl rfl ?_
        refine wpdS_mv (a := (eB false)) rfl rfl rfl (o_pick_f tk rfl rfl (Wk.refl _)) ?_
        refine wpdS_mv (a := (eB false)) rfl rfl rfl (o_as tk rfl (Wk.refl _)) ?_
        refine wpdS_nil ?_
        refine awp_ret ?_
        obtain rfl := Option.some.inj H54
        exact ⟨_, (eB false), rfl, (.of_eq rfl), .of_eq ((enc_b td4 sz4).cut _ _ _), (((hH.noT.drop n43).drop n11).drop n4)⟩
    · subst hb
      refine wpdS_skip rfl rfl rfl ?_
      refine wpdS_skip rfl rfl rfl ?_
      refine wpdS_mv (a := (eB false)) rfl rfl rfl (o_pick_f tk rfl rfl (Wk.refl _)) ?_
      refine wpdS_mv (a := (eB false)) rfl rfl rfl (o_mv tk rfl (Wk.refl _)) ?_
      refine wpdS_skip rfl rfl rfl ?_
      refine wpdS_skip rfl rfl rfl ?_
      refine wpdS_skip rfl rfl rfl ?_
      refine wpdS_mv (a := (eB false)) rfl rfl rfl (o_pick_f tk rfl rfl (Wk.refl _)) ?_
      refine wpdS_mv (a := (eB false)) rfl rfl rfl (o_mv tk rfl (Wk.refl _)) ?_
      refine wpdS_skip rfl rfl rfl ?_
      refine wpdS_skip rfl rfl rfl ?_
      refine wpdS_skip rfl rfl rfl ?_
      refine wpdS_mv (a := (eB false)) rfl rfl rfl (o_pick_f tk rfl rfl (Wk.refl _)) ?_
      refine wpdS_mv (a := (eB false)) rfl rfl rfl (o_mv tk rfl (Wk.refl _)) ?_
      refine wpdS_skip rfl rfl rfl ?_
      refine wpdS_skip rfl rfl rfl ?_
      refine wpdS_mv (a := (eB false)) rfl rfl rfl (o_pick_f tk rfl rfl (Wk.refl _)) ?_
      refine wpdS_mv (a := (eB false)) rfl rfl rfl (o_mv tk rfl (Wk.refl _)) ?_
      refine wpdS_skip rfl rfl rfl ?_
      refine wpdS_skip rfl rfl rfl ?_
      refine wpdS_skip rfl rfl rfl ?_
      refine wpdS_mv (a := (eB false)) rfl rfl rfl (o_pick_f tk rfl rfl (Wk.refl _)) ?_
      refine wpdS_mv (a := (eB false)) rfl rfl rfl (o_mv tk rfl (Wk.refl _)) ?_
      refine wpdS_skip rfl rfl rfl ?_
      refine wpdS_skip rfl rfl rfl ?_
      refine wpdS_mv (a := (eB false)) rfl rfl rfl (o_pick_f tk rfl rfl (Wk.refl _)) ?_
      refine wpdS_mv (a := (eB false)) rfl rfl rfl (o_mv tk rfl (Wk.refl _)) ?_
      refine wpdS_skip rfl rfl rfl ?_
      refine wpdS_skip rfl rfl rfl ?_
      refine wpdS_skip rfl rfl rfl ?_
      refine wpdS_skip rfl rfl rfl ?_
      refine wpdS_skip rfl rfl rfl ?_
      refine wpdS_mv (a := (eB false)) rfl rfl rfl (o_pick_f tk rfl rfl (Wk.refl _)) ?_
      refine wpdS_mv (a := (eB false)) rfl rfl rfl (o_mv tk rfl (Wk.refl _)) ?_
      refine wpdS_skip rfl rfl rfl ?_
      refine wpdS_skip rfl rfl rfl ?_
      refine wpdS_mv (a := (eB false)) rfl rfl rfl (o_pick_f tk rfl rfl (Wk.refl _)) ?_
      refine wpdS_mv (a := (eB false)) rfl rfl rfl (o_mv tk rfl (Wk.refl _)) ?_
      refine wpdS_skip rfl rfl rfl ?_
      refine wpdS_skip rfl rfl rfl ?_
      refine wpdS_mv (a := (eB false)) rfl rfl rfl (o_pick_f tk rfl rfl (Wk.refl _)) ?_
      refine wpdS_mv (a := (eB false)) rfl rfl rfl (o_mv tk rfl (Wk.refl _)) ?_
      refine wpdS_skip rfl rfl rfl ?_
      refine wpdS_skip rfl rfl rfl ?_
      refine wpdS_mv (a := (eB false)) rfl rfl rfl (o_pick_f tk rfl rfl (Wk.refl _)) ?_
      refine wpdS_mv (a := (eB false)) rfl rfl rfl (o_mv tk rfl (Wk.refl _)) ?_
      refine wpdS_skip rfl rfl rfl ?_
      refine wpdS_skip rfl rfl rfl ?_
      refine wpdS_skip rfl rfl rfl ?_
      refine wpdS_mv (a := (eB false)) rfl rfl rfl (o_pick_f tk rfl rfl (Wk.refl _)) ?_
      refine wpdS_mv (a := (eB false)) rfl rfl rfl (o_as tk rfl (Wk.refl _)) ?_
      refine wpdS_nil ?_
      refine awp_ret ?_
      obtain rfl := Option.some.inj H51
      exact ⟨_, (eB false), rfl, (.of_eq rfl), .of_eq ((enc_b td4 sz4).cut _ _ _), (((hH.noT.drop n43).drop n11).drop n4)⟩
end Go.Proofs.YtkmlinaofbcbaaaDoor
namespace Go.Proofs.YtkmlinaofbcbaaaDoor
open Go Go.Va
set_option linter.unusedVariables false
set_option linter.unusedSimpArgs false
set_option maxRecDepth 20000
theorem butteryref14_Check_ok {x0 : api_Foot} {r : Int} (H : butteryref14_Check x0 = some r) (σ : St)  : ACall Tryd.prog 26 [(e_api_Foot x0)] σ (fun a τ => a = eI r ∧ τ = σ) := by
  unfold butteryref14_Check at H
  refine ACall.pure (acall_start tk Tryd.func26 (by decide) rfl (Nat.le_of_ble_eq_true rfl) ?_)
  have hH := Holds.init σ
  refine awp_seq ?_
  refine awp_region rfl ?_
  refine wpo_mv (a := (.fptr (c_api_Foot x0) 0)) rfl rfl rfl (o_boxf tk rfl (.of_eq rfl) (b := (e_api_Foot x0)) (enc53.flat _)) ?_
  refine wpo_mv (a := (eI (0 : Int))) rfl rfl rfl (o_as tk rfl (Wk.refl _)) ?_
  refine wpo_nil ?_
  refine awp_seq ?_
  refine awp_seq ?_
  obtain ⟨s1, hs3, hj4⟩ := Option.bind_eq_some_iff.1 H
  refine awp_cutn (fun fr τ => WkF fr (fm [(1, (.fptr (c_api_Foot x0) 0)), (31, (eB s1))]) ∧ Holds σ [] [] τ) ?_ ?_
  · rintro fr τ ⟨hfr, hH⟩
    have H22 := hj4
    refine AWP.fm [(1, (.fptr (c_api_Foot x0) 0)), (31, (eB s1))] hfr ?_
    refine awp_if H22 rfl (fun H23 => ?_) (fun H23 => ?_)
    · refine awp_seq ?_
      refine awp_region rfl ?_
      refine wpo_mv (a := (eI (2 : Int))) rfl rfl rfl (o_as tk rfl (Wk.refl _)) ?_
      refine wpo_nil ?_
      refine awp_ret ?_
      obtain rfl := Option.some.inj H23
      exact ⟨_, (eI (2 : Int)), rfl, (.of_eq rfl), .of_eq ((enc_i64 td33 sz33).cut _ _ _), hH.noT⟩
    · refine awp_skip ?_
      refine awp_seq ?_
      refine awp_seq ?_
      refine awp_region rfl ?_
      refine wpo_mv (a := (eI (0 : Int))) rfl rfl rfl (o_as tk rfl (Wk.refl _)) ?_
      refine wpo_nil ?_
      refine awp_block ?_
      obtain ⟨o25, hs26, hj27⟩ := Option.bind_eq_some_iff.1 H23
      refine awp_cutx 0 (fun fr τ => ∃ s32 : Unit, o25 = .inl s32 ∧ WkF fr (fm []) ∧ Holds σ [] [] τ) ?_ ?_
      · rintro fr τ ⟨s32, rfl, hfr, hH⟩
        have H69 := hj27
        simp only [Sum.elim_inl] at H69
        refine AWP.fm [] hfr ?_
        refine awp_seq ?_
        refine awp_region rfl ?_
        refine wpo_mv (a := (eI (0 : Int))) rfl rfl rfl (o_as tk rfl (Wk.refl _)) ?_
        refine wpo_nil ?_
        refine awp_ret ?_
        obtain rfl := Option.some.inj H69
        exact ⟨_, (eI (0 : Int)), rfl, (.of_eq rfl), .of_eq ((enc_i64 td33 sz33).cut _ _ _), hH.noT⟩
      · refine awp_loopO (body := fun s => butteryref14_Check_b0 x0 s) hs26 (fun (s : Int) fr τ => WkF fr (fm [(1, (.fptr (c_api_Foot x0) 0)), (3, (eI s))]) ∧ Holds σ [] [] τ) ⟨(wkf_cons (.of_eq rfl) (wkf_cons (.of_eq rfl) (wkf_nil _))), hH⟩ ?_
        rintro c24 fr τ y28 ⟨hfr, hH⟩ hb30 hy31
        have H33 : butteryref14_Check_b0 x0 c24 = some y28 := hb30
        unfold butteryref14_Check_b0 at H33
        refine AWP.fm [(1, (.fptr (c_api_Foot x0) 0)), (3, (eI c24))] hfr ?_
        have hH : Holds σ [] [] τ := hH
        refine awp_seq ?_
        refine awp_seq ?_
        refine awp_region rfl ?_
        refine wpo_mv (a := (eI c24)) rfl rfl rfl (o_mv tk rfl (Wk.refl _)) ?_
        refine wpo_mv (a := (.fptr (c_api_Foot x0) 3)) rfl rfl rfl (o_c tk false rfl (fun _ => rfl)) ?_
        refine wpo_mv (a := ((eL 1 eI) x0.Dead)) rfl rfl rfl (o_ld tk rfl rfl) ?_
        refine wpo_lt H33 eI rfl rfl rfl (o_len tk td51 rfl) fun v35 H34 => ?_
        refine wpo_lt H34 eB rfl rfl rfl (o_ar tk rfl rfl rfl) fun v37 H36 => ?_
        refine wpo_nil ?_
        refine awp_if H36 rfl (fun H38 => ?_) (fun H38 => ?_)
        · refine awp_skip ?_
          refine awp_seq ?_
          refine awp_block ?_
          refine awp_seq ?_
          obtain ⟨s39, hs41, hj42⟩ := Option.bind_eq_some_iff.1 H38
          refine awp_cutn (fun fr τ => WkF fr (fm [(1, (.fptr (c_api_Foot x0) 0)), (3, (eI c24)), (72, (eB s39))]) ∧ Holds σ [] [] τ) ?_ ?_
          · rintro fr τ ⟨hfr, hH⟩
            have H64 := hj42
            refine AWP.fm [(1, (.fptr (c_api_Foot x0) 0)), (3, (eI c24)), (72, (eB s39))] hfr ?_
            refine awp_if H64 rfl (fun H65 => ?_) (fun H65 => ?_)
            · refine awp_seq ?_
              refine awp_region rfl ?_
              refine wpo_mv (a := (eI (1 : Int))) rfl rfl rfl (o_as tk rfl (Wk.refl _)) ?_
              refine wpo_nil ?_
              refine awp_ret ?_
              have hz := hy31 _ (inj_inr H65)
              refine ⟨⟨_, inj_inr H65⟩, ?_⟩
              rw [← hz] at hj27
              have H66 := (show some _ = some _ from hj27)
              obtain rfl := Option.some.inj H66
              exact ⟨_, (eI (1 : Int)), rfl, (.of_eq rfl), .of_eq ((enc_i64 td33 sz33).cut _ _ _), hH.noT⟩
            · refine awp_skip ?_
              refine awp_region rfl ?_
              refine wpo_mv (a := (eI c24)) rfl rfl rfl (o_mv tk rfl (Wk.refl _)) ?_
              refine wpo_lt H65 eI rfl rfl rfl (o_ar tk rfl rfl rfl) fun v68 H67 => ?_
              refine wpo_mv (a := (eI v68)) rfl rfl rfl (o_as tk rfl (Wk.refl _)) ?_
              refine wpo_nil ?_
              exact ⟨v68, inj_inl H67, (wkf_cons (.of_eq rfl) (wkf_cons (.of_eq rfl) (wkf_nil _))), hH⟩
          · refine awp_drawS mixed [] rfl (by decide +kernel) rfl rfl ?_
            refine wpdS_mv (a := (.fptr (c_api_Foot x0) 3)) rfl rfl rfl (o_c tk false rfl (fun _ => rfl)) ?_
            refine wpdS_mv (a := ((eL 1 eI) x0.Dead)) rfl rfl rfl (o_ld tk rfl rfl) ?_
            refine wpdS_mv (a := (eI c24)) rfl rfl rfl (o_mv tk rfl (Wk.refl _)) ?_
            refine wpdS_bd hs41 (fun y => .fptr (eI y).cells 0) rfl rfl rfl (fun v44 hv => o_ixa tk hv td51 (enc_i64 td3 sz3) rfl rfl) fun v44 hv44 H43 => ?_
            refine wpdS_mv (a := (eI v44)) rfl rfl rfl (o_ld_e tk (enc_i64 td3 sz3) rfl rfl) ?_
            refine wpdS_lt H43 eB rfl rfl rfl (o_ar tk rfl rfl rfl) fun v46 H45 => ?_
            refine wpdS_mv (a := (eB v46)) rfl rfl rfl (o_mv tk rfl (Wk.refl _)) ?_
            refine if_split H45 (fun hb H47 => ?_) (fun hb H47 => ?_)
            · subst hb
              refine wpdS_skip rfl rfl rfl ?_
              refine wpdS_skip rfl rfl rfl ?_
              refine wpdS_skip rfl rfl rfl ?_
              refine wpdS_skip rfl rfl rfl ?_
              refine wpdS_skip rfl rfl rfl ?_
              refine wpdS_skip rfl rfl rfl ?_
              refine wpdS_skip rfl rfl rfl ?_
              refine wpdS_skip rfl rfl rfl ?_
              refine wpdS_mv (a := (eB true)) rfl rfl rfl (o_pick_t tk rfl rfl (Wk.refl _)) ?_
              refine wpdS_mv (a := (eB true)) rfl rfl rfl (o_mv tk rfl (Wk.refl _)) ?_
              refine wpdS_skip rfl rfl rfl ?_
              refine wpdS_skip rfl rfl rfl ?_
              refine wpdS_skip rfl rfl rfl ?_
              refine wpdS_skip rfl rfl rfl ?_
              refine wpdS_skip rfl rfl rfl ?_
              refine wpdS_skip rfl rfl rfl ?_
              refine wpdS_skip rfl rfl rfl ?_
              refine wpdS_skip rfl rfl rfl ?_
              refine wpdS_skip rfl rfl rfl ?_
              refine wpdS_skip rfl rfl rfl ?_
              refine wpdS_skip rfl rfl rfl ?_
              refine wpdS_skip rfl rfl rfl ?_
              refine wpdS_skip rfl rfl rfl ?_
              refine wpdS_skip rfl rfl rfl ?_
              refine wpdS_skip rfl rfl rfl ?_
              refine wpdS_skip rfl rfl rfl ?_
              refine wpdS_mv (a := (eB true)) rfl rfl rfl (o_pick_t tk rfl rfl (Wk.refl _)) ?_
              refine wpdS_nil ?_
              have e := Option.some.inj H47
              subst e
              exact ⟨(wkf_cons (.of_eq rfl) (wkf_cons (.of_eq rfl) (wkf_cons (.of_eq rfl) (wkf_nil _)))), hH⟩
            · subst hb
              refine wpdS_mv (a := (.fptr (c_api_Foot x0) 3)) rfl rfl rfl (o_c tk false rfl (fun _ => rfl)) ?_
              refine wpdS_mv (a := ((eL 1 eI) x0.Dead)) rfl rfl rfl (o_ld tk rfl rfl) ?_
              refine wpdS_mv (a := (eI c24)) rfl rfl rfl (o_mv tk rfl (Wk.refl _)) ?_
              refine wpdS_bd H47 (fun y => .fptr (eI y).cells 0) rfl rfl rfl (fun v49 hv => o_ixa tk hv td51 (enc_i64 td3 sz3) rfl rfl) fun v49 hv49 H48 => ?_
              refine wpdS_mv (a := (eI v49)) rfl rfl rfl (o_ld_e tk (enc_i64 td3 sz3) rfl rfl) ?_
              refine wpdS_mv (a := (.fptr (c_api_Foot x0) 2)) rfl rfl rfl (o_c tk false rfl (fun _ => rfl)) ?_
              refine wpdS_mv (a := (eI x0.Count)) rfl rfl rfl (o_ld tk rfl rfl) ?_
              refine wpdS_lt H48 eB rfl rfl rfl (o_ar tk rfl rfl rfl) fun v51 H50 => ?_
              refine wpdS_mv (a := (eB v51)) rfl rfl rfl (o_pick_f tk rfl rfl (Wk.refl _)) ?_
              refine wpdS_mv (a := (eB v51)) rfl rfl rfl (o_mv tk rfl (Wk.refl _)) ?_
              refine if_split H50 (fun hb H52 => ?_) (fun hb H52 => ?_)
              · subst hb
                refine wpdS_skip rfl rfl rfl ?_
                refine wpdS_skip rfl rfl rfl ?_
                refine wpdS_skip rfl rfl rfl ?_
                refine wpdS_skip rfl rfl rfl ?_
                refine wpdS_skip rfl rfl rfl ?_
                refine wpdS_skip rfl rfl rfl ?_
                refine wpdS_skip rfl rfl rfl ?_
                refine wpdS_skip rfl rfl rfl ?_
                refine wpdS_skip rfl rfl rfl ?_
                refine wpdS_skip rfl rfl rfl ?_
                refine wpdS_skip rfl rfl rfl ?_
                refine wpdS_skip rfl rfl rfl ?_
                refine wpdS_skip rfl rfl rfl ?_
                refine wpdS_skip rfl rfl rfl ?_
                refine wpdS_skip rfl rfl rfl ?_
                refine wpdS_skip rfl rfl rfl ?_
                refine wpdS_mv (a := (eB true)) rfl rfl rfl (o_pick_t tk rfl rfl (Wk.refl _)) ?_
                refine wpdS_nil ?_
                have e := Option.some.inj H52
                subst e
                exact ⟨(wkf_cons (.of_eq rfl) (wkf_cons (.of_eq rfl) (wkf_cons (.of_eq rfl) (wkf_nil _)))), hH⟩
              · subst hb
                refine wpdS_mv (a := (eI c24)) rfl rfl rfl (o_mv tk rfl (Wk.refl _)) ?_
                refine wpdS_lt H52 eB rfl rfl rfl (o_ar tk rfl rfl rfl) fun v54 H53 => ?_
                refine wpdS_mv (a := (eB v54)) rfl rfl rfl (o_mv tk rfl (Wk.refl _)) ?_
                refine if_split H53 (fun hb H55 => ?_) (fun hb H55 => ?_)
                · subst hb
                  refine wpdS_mv (a := (.fptr (c_api_Foot x0) 3)) rfl rfl rfl (o_c tk false rfl (fun _ => rfl)) ?_
                  refine wpdS_mv (a := ((eL 1 eI) x0.Dead)) rfl rfl rfl (o_ld tk rfl rfl) ?_
                  refine wpdS_mv (a := (eI c24)) rfl rfl rfl (o_mv tk rfl (Wk.refl _)) ?_
                  refine wpdS_bd H55 (fun y => .fptr (eI y).cells 0) rfl rfl rfl (fun v57 hv => o_ixa tk hv td51 (enc_i64 td3 sz3) rfl rfl) fun v57 hv57 H56 => ?_
                  refine wpdS_mv (a := (eI v57)) rfl rfl rfl (o_ld_e tk (enc_i64 td3 sz3) rfl rfl) ?_
                  refine wpdS_mv (a := (.fptr (c_api_Foot x0) 3)) rfl rfl rfl (o_c tk false rfl (fun _ => rfl)) ?_
                  refine wpdS_mv (a := ((eL 1 eI) x0.Dead)) rfl rfl rfl (o_ld tk rfl rfl) ?_
                  refine wpdS_mv (a := (eI c24)) rfl rfl rfl (o_mv tk rfl (Wk.refl _)) ?_
                  refine wpdS_lt H56 eI rfl rfl rfl (o_ar tk rfl rfl rfl) fun v59 H58 => ?_
                  refine wpdS_bd H58 (fun y => .fptr (eI y).cells 0) rfl rfl rfl (fun v61 hv => o_ixa tk hv td51 (enc_i64 td3 sz3) rfl rfl) fun v61 hv61 H60 => ?_
                  refine wpdS_mv (a := (eI v61)) rfl rfl rfl (o_ld_e tk (enc_i64 td3 sz3) rfl rfl) ?_
                  refine wpdS_lt H60 eB rfl rfl rfl (o_ar tk rfl rfl rfl) fun v63 H62 => ?_
                  refine wpdS_mv (a := (eB v63)) rfl rfl rfl (o_pick_t tk rfl rfl (Wk.refl _)) ?_
                  refine wpdS_mv (a := (eB v63)) rfl rfl rfl (o_pick_f tk rfl rfl (Wk.refl _)) ?_
                  refine wpdS_nil ?_
                  have e := Option.some.inj H62
                  subst e
                  exact ⟨(wkf_cons (.of_eq rfl) (wkf_cons (.of_eq rfl) (wkf_cons (.of_eq rfl) (wkf_nil _)))), hH⟩
                · subst hb
                  refine wpdS_skip rfl rfl rfl ?_
                  refine wpdS_skip rfl rfl rfl ?_
                  refine wpdS_skip rfl rfl rfl ?_
                  refine wpdS_skip rfl rfl rfl ?_
                  refine wpdS_skip rfl rfl rfl ?_
                  refine wpdS_skip rfl rfl rfl ?_
                  refine wpdS_skip rfl rfl rfl ?_
                  refine wpdS_skip rfl rfl rfl ?_
                  refine wpdS_skip rfl rfl rfl ?_
                  refine wpdS_skip rfl rfl rfl ?_
                  refine wpdS_skip rfl rfl rfl ?_
                  refine wpdS_skip rfl rfl rfl ?_
                  refine wpdS_mv (a := (eB false)) rfl rfl rfl (o_pick_f tk rfl rfl (Wk.refl _)) ?_
                  refine wpdS_mv (a := (eB false)) rfl rfl rfl (o_pick_f tk rfl rfl (Wk.refl _)) ?_
                  refine wpdS_nil ?_
                  have e := Option.some.inj H55
                  subst e
                  exact ⟨(wkf_cons (.of_eq rfl) (wkf_cons (.of_eq rfl) (wkf_cons (.of_eq rfl) (wkf_nil _)))), hH⟩
        · refine awp_exit ?_
          have hz := hy31 _ (inj_inr H38)
          exact ⟨⟨_, inj_inr H38⟩, (), hz.symm, (wkf_nil _), hH⟩
  · refine awp_region rfl ?_
    refine wpo_mv (a := (.fptr (c_api_Foot x0) 0)) rfl rfl rfl (o_c tk false rfl (fun _ => rfl)) ?_
    refine wpo_mv (a := (eI x0.Seq)) rfl rfl rfl (o_ld tk rfl rfl) ?_
    refine wpo_lt hs3 eB rfl rfl rfl (o_ar tk rfl rfl rfl) fun v6 H5 => ?_
    refine wpo_mv (a := (eB v6)) rfl rfl rfl (o_mv tk rfl (Wk.refl _)) ?_
    refine if_split H5 (fun hb H7 => ?_) (fun hb H7 => ?_)
    · subst hb
      refine wpo_skip rfl rfl rfl ?_
      refine wpo_skip rfl rfl rfl ?_
      refine wpo_skip rfl rfl rfl ?_
      refine wpo_mv (a := (eB true)) rfl rfl rfl (o_pick_t tk rfl rfl (Wk.refl _)) ?_
      refine wpo_mv (a := (eB true)) rfl rfl rfl (o_mv tk rfl (Wk.refl _)) ?_
      refine wpo_skip rfl rfl rfl ?_
      refine wpo_skip rfl rfl rfl ?_
      refine wpo_skip rfl rfl rfl ?_
      refine wpo_mv (a := (eB true)) rfl rfl rfl (o_pick_t tk rfl rfl (Wk.refl _)) ?_
      refine wpo_mv (a := (eB true)) rfl rfl rfl (o_mv tk rfl (Wk.refl _)) ?_
      refine wpo_skip rfl rfl rfl ?_
      refine wpo_skip rfl rfl rfl ?_
      refine wpo_skip rfl rfl rfl ?_
      refine wpo_mv (a := (eB true)) rfl rfl rfl (o_pick_t tk rfl rfl (Wk.refl _)) ?_
      refine wpo_mv (a := (eB true)) rfl rfl rfl (o_mv tk rfl (Wk.refl _)) ?_
      refine wpo_skip rfl rfl rfl ?_
      refine wpo_skip rfl rfl rfl ?_
      refine wpo_skip rfl rfl rfl ?_
      refine wpo_mv (a := (eB true)) rfl rfl rfl (o_pick_t tk rfl rfl (Wk.refl _)) ?_
      refine wpo_mv (a := (eB true)) rfl rfl rfl (o_mv tk rfl (Wk.refl _)) ?_
      refine wpo_skip rfl rfl rfl ?_
      refine wpo_skip rfl rfl rfl ?_
      refine wpo_skip rfl rfl rfl ?_
      refine wpo_mv (a := (eB true)) rfl rfl rfl (o_pick_t tk rfl rfl (Wk.refl _)) ?_
      refine wpo_nil ?_
      have e := Option.some.inj H7
      subst e
      exact ⟨(wkf_cons (.of_eq rfl) (wkf_cons (.of_eq rfl) (wkf_nil _))), hH⟩
    · subst hb
      refine wpo_mv (a := (.fptr (c_api_Foot x0) 0)) rfl rfl rfl (o_c tk false rfl (fun _ => rfl)) ?_
      refine wpo_mv (a := (eI x0.Seq)) rfl rfl rfl (o_ld tk rfl rfl) ?_
      refine wpo_lt H7 eB rfl rfl rfl (o_ar tk rfl rfl rfl) fun v9 H8 => ?_
      refine wpo_mv (a := (eB v9)) rfl rfl rfl (o_pick_f tk rfl rfl (Wk.refl _)) ?_
      refine wpo_mv (a := (eB v9)) rfl rfl rfl (o_mv tk rfl (Wk.refl _)) ?_
      refine if_split H8 (fun hb H10 => ?_) (fun hb H10 => ?_)
      · subst hb
        refine wpo_skip rfl rfl rfl ?_
        refine wpo_skip rfl rfl rfl ?_
        refine wpo_skip rfl rfl rfl ?_
        refine wpo_mv (a := (eB true)) rfl rfl rfl (o_pick_t tk rfl rfl (Wk.refl _)) ?_
        refine wpo_mv (a := (eB true)) rfl rfl rfl (o_mv tk rfl (Wk.refl _)) ?_
        refine wpo_skip rfl rfl rfl ?_
        refine wpo_skip rfl rfl rfl ?_
        refine wpo_skip rfl rfl rfl ?_
        refine wpo_mv (a := (eB true)) rfl rfl rfl (o_pick_t tk rfl rfl (Wk.refl _)) ?_
        refine wpo_mv (a := (eB true)) rfl rfl rfl (o_mv tk rfl (Wk.refl _)) ?_
        refine wpo_skip rfl rfl rfl ?_
        refine wpo_skip rfl rfl rfl ?_
        refine wpo_skip rfl rfl rfl ?_
        refine wpo_mv (a := (eB true)) rfl rfl rfl (o_pick_t tk rfl rfl (Wk.refl _)) ?_
        refine wpo_mv (a := (eB true)) rfl rfl rfl (o_mv tk rfl (Wk.refl _)) ?_
        refine wpo_skip rfl rfl rfl ?_
        refine wpo_skip rfl rfl rfl ?_
        refine wpo_skip rfl rfl rfl ?_
        refine wpo_mv (a := (eB true)) rfl rfl rfl (o_pick_t tk rfl rfl (Wk.refl _)) ?_
        refine wpo_nil ?_
        have e := Option.some.inj H10
        subst e
        exact ⟨(wkf_cons (.of_eq rfl) (wkf_cons (.of_eq rfl) (wkf_nil _))), hH⟩
      · subst hb
        refine wpo_mv (a := (.fptr (c_api_Foot x0) 1)) rfl rfl rfl (o_c tk false rfl (fun _ => rfl)) ?_
        refine wpo_mv (a := (eI x0.Bytes)) rfl rfl rfl (o_ld tk rfl rfl) ?_
        refine wpo_lt H10 eB rfl rfl rfl (o_ar tk rfl rfl rfl) fun v12 H11 => ?_
        refine wpo_mv (a := (eB v12)) rfl rfl rfl (o_pick_f tk rfl rfl (Wk.refl _)) ?_
        refine wpo_mv (a := (eB v12)) rfl rfl rfl (o_mv tk rfl (Wk.refl _)) ?_
        refine if_split H11 (fun hb H13 => ?_) (fun hb H13 => ?_)
        · subst hb
          refine wpo_skip rfl rfl rfl ?_
          refine wpo_skip rfl rfl rfl ?_
          refine wpo_skip rfl rfl rfl ?_
          refine wpo_mv (a := (eB true)) rfl rfl rfl (o_pick_t tk rfl rfl (Wk.refl _)) ?_
          refine wpo_mv (a := (eB true)) rfl rfl rfl (o_mv tk rfl (Wk.refl _)) ?_
          refine wpo_skip rfl rfl rfl ?_
          refine wpo_skip rfl rfl rfl ?_
          refine wpo_skip rfl rfl rfl ?_
          refine wpo_mv (a := (eB true)) rfl rfl rfl (o_pick_t tk rfl rfl (Wk.refl _)) ?_
          refine wpo_mv (a := (eB true)) rfl rfl rfl (o_mv tk rfl (Wk.refl _)) ?_
          refine wpo_skip rfl rfl rfl ?_
          refine wpo_skip rfl rfl rfl ?_
          refine wpo_skip rfl rfl rfl ?_
          refine wpo_mv (a := (eB true)) rfl rfl rfl (o_pick_t tk rfl rfl (Wk.refl _)) ?_
          refine wpo_nil ?_
          have e := Option.some.inj H13
          subst e
          exact ⟨(wkf_cons (.of_eq rfl) (wkf_cons (.of_eq rfl) (wkf_nil _))), hH⟩
        · subst hb
          refine wpo_mv (a := (.fptr (c_api_Foot x0) 1)) rfl rfl rfl (o_c tk false rfl (fun _ => rfl)) ?_
          refine wpo_mv (a := (eI x0.Bytes)) rfl rfl rfl (o_ld tk rfl rfl) ?_
          refine wpo_lt H13 eB rfl rfl rfl (o_ar tk rfl rfl rfl) fun v15 H14 => ?_
          refine wpo_mv (a := (eB v15)) rfl rfl rfl (o_pick_f tk rfl rfl (Wk.refl _)) ?_
          refine wpo_mv (a := (eB v15)) rfl rfl rfl (o_mv tk rfl (Wk.refl _)) ?_
          refine if_split H14 (fun hb H16 => ?_) (fun hb H16 => ?_)
          · subst hb
            refine wpo_skip rfl rfl rfl ?_
            refine wpo_skip rfl rfl rfl ?_
            refine wpo_skip rfl rfl rfl ?_
            refine wpo_mv (a := (eB true)) rfl rfl rfl (o_pick_t tk rfl rfl (Wk.refl _)) ?_
            refine wpo_mv (a := (eB true)) rfl rfl rfl (o_mv tk rfl (Wk.refl _)) ?_
            refine wpo_skip rfl rfl rfl ?_
            refine wpo_skip rfl rfl rfl ?_
            refine wpo_skip rfl rfl rfl ?_
            refine wpo_mv (a := (eB true)) rfl rfl rfl (o_pick_t tk rfl rfl (Wk.refl _)) ?_
            refine wpo_nil ?_
            have e := Option.some.inj H16
            subst e
            exact ⟨(wkf_cons (.of_eq rfl) (wkf_cons (.of_eq rfl) (wkf_nil _))), hH⟩
          · subst hb
            refine wpo_mv (a := (.fptr (c_api_Foot x0) 2)) rfl rfl rfl (o_c tk false rfl (fun _ => rfl)) ?_
            refine wpo_mv (a := (eI x0.Count)) rfl rfl rfl (o_ld tk rfl rfl) ?_
            refine wpo_lt H16 eB rfl rfl rfl (o_ar tk rfl rfl rfl) fun v18 H17 => ?_
            refine wpo_mv (a := (eB v18)) rfl rfl rfl (o_pick_f tk rfl rfl (Wk.refl _)) ?_
            refine wpo_mv (a := (eB v18)) rfl rfl rfl (o_mv tk rfl (Wk.refl _)) ?_
            refine if_split H17 (fun hb H19 => ?_) (fun hb H19 => ?_)
            · subst hb
              refine wpo_skip rfl rfl rfl ?_
              refine wpo_skip rfl rfl rfl ?_
              refine wpo_skip rfl rfl rfl ?_
              refine wpo_mv (a := (eB true)) rfl rfl rfl (o_pick_t tk rfl rfl (Wk.refl _)) ?_
              refine wpo_nil ?_
              have e := Option.some.inj H19
              subst e
              exact ⟨(wkf_cons (.of_eq rfl) (wkf_cons (.of_eq rfl) (wkf_nil _))), hH⟩
            · subst hb
              refine wpo_mv (a := (.fptr (c_api_Foot x0) 2)) rfl rfl rfl (o_c tk false rfl (fun _ => rfl)) ?_
              refine wpo_mv (a := (eI x0.Count)) rfl rfl rfl (o_ld tk rfl rfl) ?_
              refine wpo_lt H19 eB rfl rfl rfl (o_ar tk rfl rfl rfl) fun v21 H20 => ?_
              refine wpo_mv (a := (eB v21)) rfl rfl rfl (o_pick_f tk rfl rfl (Wk.refl _)) ?_
              refine wpo_nil ?_
              have e := Option.some.inj H20
              subst e
              exact ⟨(wkf_cons (.of_eq rfl) (wkf_cons (.of_eq rfl) (wkf_nil _))), hH⟩
end Go.Proofs.YtkmlinaofbcbaaaDoor
namespace Go.Proofs.YtkmlinaofbcbaaaDoor
open Go Go.Va
set_option linter.unusedVariables false
set_option linter.unusedSimpArgs false
set_option maxRecDepth 20000
theorem butterylaw14_RegionBack_ok {x0 : api_Foot} {x1 : List (BitVec 8)} {r : Bool} (H : butterylaw14_RegionBack x0 x1 = some r) (σ : St)  (hg : σ.gl = gls) : ACall Tryd.prog 7 [(e_api_Foot x0), ((eL 1 (@eU .u8 8)) x1)] σ (fun a τ => a = eB r ∧ τ = σ) := by
  unfold butterylaw14_RegionBack at H
  refine ACall.pure (acall_start tk Tryd.func7 (by decide) rfl (Nat.le_of_ble_eq_true rfl) ?_)
  have hH := Holds.init σ
  refine awp_seq ?_
  refine awp_region rfl ?_
  refine wpo_mv (a := (.fptr (c_api_Foot x0) 0)) rfl rfl rfl (o_boxf tk rfl (.of_eq rfl) (b := (e_api_Foot x0)) (enc53.flat _)) ?_
  refine wpo_mv (a := (eB false)) rfl rfl rfl (o_as tk rfl (Wk.refl _)) ?_
  refine wpo_nil ?_
  refine awp_seq ?_
  refine awp_seq ?_
  obtain ⟨s1, hs3, hj4⟩ := Option.bind_eq_some_iff.1 H
  refine awp_cutn (fun fr τ => WkF fr (fm [(1, ((eL 1 (@eU .u8 8)) x1)), (2, (.fptr (c_api_Foot x0) 0)), (21, (eB s1))]) ∧ Holds σ [] [] τ) ?_ ?_
  · rintro fr τ ⟨hfr, hH⟩
    have H14 := hj4
    refine AWP.fm [(1, ((eL 1 (@eU .u8 8)) x1)), (2, (.fptr (c_api_Foot x0) 0)), (21, (eB s1))] hfr ?_
    refine awp_if H14 rfl (fun H15 => ?_) (fun H15 => ?_)
    · refine awp_seq ?_
      refine awp_region rfl ?_
      refine wpo_bdr H15 eB rfl rfl rfl (fun v17 hv => h_callr rfl rfl .nil (butterylaw14_works_ok hv _ (hH.gl.trans hg))) fun v17 hv17 H16 => ?_
      refine wpo_mv (a := (eB v17)) rfl rfl rfl (o_as tk rfl (Wk.refl _)) ?_
      refine wpo_nil ?_
      refine awp_ret ?_
      obtain rfl := Option.some.inj H16
      exact ⟨_, (eB v17), rfl, (.of_eq rfl), .of_eq ((enc_b td4 sz4).cut _ _ _), hH.noT⟩
    · refine awp_skip ?_
      refine awp_seq ?_
      refine awp_seq ?_
      refine awp_region rfl ?_
      refine wpo_mv (a := (e_api_Foot x0)) rfl rfl rfl (o_ld tk rfl rfl) ?_
      refine wpo_bd H15 eI rfl rfl rfl (fun v19 hv => OpP.of_call rfl rfl (.cons (.of_eq rfl) .nil) (butteryref14_Check_ok hv)) fun v19 hv19 H18 => ?_
      refine wpo_lt H18 eB rfl rfl rfl (o_ar tk rfl rfl rfl) fun v21 H20 => ?_
      refine wpo_nil ?_
      obtain ⟨o23, hs24, hj25⟩ := Option.bind_eq_some_iff.1 H20
      refine awp_cutn (fun fr τ => ∃ s22 : Unit, o23 = .inl s22 ∧ WkF fr (fm [(1, ((eL 1 (@eU .u8 8)) x1))]) ∧ Holds σ [] [] τ) ?_ ?_
      · rintro fr τ ⟨s22, rfl, hfr, hH⟩
        have H56 := hj25
        simp only [Sum.elim_inl] at H56
        refine AWP.fm [(1, ((eL 1 (@eU .u8 8)) x1))] hfr ?_
        refine awp_seq ?_
        refine awp_region rfl ?_
        refine wpo_mv (a := ((eL 1 (@eU .u8 8)) x1)) rfl rfl rfl (o_mv tk rfl (Wk.refl _)) ?_
        refine wpo_bd H56 (fun r => .tup [e_api_Foot r.1, eErr r.2]) rfl rfl rfl (fun v58 hv => OpP.of_call rfl rfl (.cons (.of_eq rfl) .nil) (region_Get_ok hv)) fun v58 hv58 H57 => ?_
        refine wpo_mv (a := (.tup [(e_api_Foot v58.1), (eErr v58.2)])) rfl rfl rfl (o_mv tk rfl (Wk.refl _)) ?_
        refine wpo_mv (a := (e_api_Foot v58.1)) rfl rfl rfl (o_ext tk rfl rfl) ?_
        refine wpo_mv (a := (eErr v58.2)) rfl rfl rfl (o_ext tk rfl rfl) ?_
        refine wpo_a (av := fun id => .ref id 0) rfl rfl rfl (h_alloc tk hH ty53 [(eI z_api_Foot.Seq), (eI z_api_Foot.Bytes), (eI z_api_Foot.Count), AV.nils] rfl) fun id59 τ ⟨hH, n60⟩ => ?_
        refine wpo_z rfl rfl (h_st tk hH 0 rfl ty53 (by simp) rfl rfl (.of_eq rfl) (b := (e_api_Foot v58.1)) (enc53.flat _) rfl (Nat.le_of_ble_eq_true rfl) (c_api_Foot (v58.1 : api_Foot)) rfl) fun τ hH => ?_
        refine wpo_mv (a := (eErr v58.2)) rfl rfl rfl (o_as tk rfl (Wk.refl _)) ?_
        refine wpo_nil ?_
        refine awp_seq ?_
        refine awp_seq ?_
        refine awp_region rfl ?_
        refine wpo_mv (a := (eErr v58.2)) rfl rfl rfl (o_mv tk rfl (Wk.refl _)) ?_
        refine wpo_lt H57 eB rfl rfl rfl (o_err_neq tk rfl rfl rfl) fun v63 H62 => ?_
        refine wpo_nil ?_
        refine awp_if H62 rfl (fun H64 => ?_) (fun H64 => ?_)
        · refine awp_seq ?_
          refine awp_region rfl ?_
          refine wpo_bdr H64 eB rfl rfl rfl (fun v66 hv => h_callr rfl rfl .nil (butterylaw14_works_ok hv _ (hH.gl.trans hg))) fun v66 hv66 H65 => ?_
          refine wpo_mv (a := (eB v66)) rfl rfl rfl (o_as tk rfl (Wk.refl _)) ?_
          refine wpo_nil ?_
          refine awp_ret ?_
          obtain rfl := Option.some.inj H65
          exact ⟨_, (eB v66), rfl, (.of_eq rfl), .of_eq ((enc_b td4 sz4).cut _ _ _), (hH.noT.drop n60)⟩
        · refine awp_skip ?_
          refine awp_seq ?_
          refine awp_region rfl ?_
          refine wpo_rd (a := (e_api_Foot (v58.1 : api_Foot))) rfl rfl rfl (h_ld tk hH 0 rfl rfl rfl) ?_
          refine wpo_bd H64 (fun r => .tup [(eL 1 (@eU .u8 8)) r.1, eErr r.2]) rfl rfl rfl (fun v68 hv => OpP.of_call rfl rfl (.cons (.of_eq rfl) .nil) (region_Put_ok hv)) fun v68 hv68 H67 => ?_
          refine wpo_mv (a := (.tup [((eL 1 (@eU .u8 8)) v68.1), (eErr v68.2)])) rfl rfl rfl (o_mv tk rfl (Wk.refl _)) ?_
          refine wpo_mv (a := ((eL 1 (@eU .u8 8)) v68.1)) rfl rfl rfl (o_ext tk rfl rfl) ?_
          refine wpo_mv (a := (eErr v68.2)) rfl rfl rfl (o_ext tk rfl rfl) ?_
          refine wpo_mv (a := ((eL 1 (@eU .u8 8)) v68.1)) rfl rfl rfl (o_as tk rfl (Wk.refl _)) ?_
          refine wpo_mv (a := (eErr v68.2)) rfl rfl rfl (o_as tk rfl (Wk.refl _)) ?_
          refine wpo_nil ?_
          refine awp_seq ?_
          refine awp_region rfl ?_
          refine wpo_mv (a := (eErr v68.2)) rfl rfl rfl (o_mv tk rfl (Wk.refl _)) ?_
          refine wpo_lt H67 eB rfl rfl rfl (o_err_eql tk rfl rfl rfl) fun v70 H69 => ?_
          refine wpo_mv (a := (eB v70)) rfl rfl rfl (o_mv tk rfl (Wk.refl _)) ?_
          refine if_split H69 (fun hb H71 => ?_) (fun hb H71 => ?_)
          · subst hb
            refine wpo_mv (a := ((eL 1 (@eU .u8 8)) v68.1)) rfl rfl rfl (o_mv tk rfl (Wk.refl _)) ?_
            refine wpo_mv (a := ((eL 1 (@eU .u8 8)) x1)) rfl rfl rfl (o_mv tk rfl (Wk.refl _)) ?_
            refine wpo_bd H71 eB rfl rfl rfl (fun v73 hv => OpP.of_call rfl rfl (.cons (.of_eq rfl) (.cons (.of_eq rfl) .nil)) (butteryref02_Same_ok hv)) fun v73 hv73 H72 => ?_
            refine wpo_mv (a := (eB v73)) rfl rfl rfl (o_pick_t tk rfl rfl (Wk.refl _)) ?_
            refine wpo_mv (a := (eB v73)) rfl rfl rfl (o_mv tk rfl (Wk.refl _)) ?_
            refine if_split H72 (fun hb H74 => ?_) (fun hb H74 => ?_)
            · subst hb
              refine wpo_bdr H74 eB rfl rfl rfl (fun v76 hv => h_callr rfl rfl .nil (butterylaw14_works_ok hv _ (hH.gl.trans hg))) fun v76 hv76 H75 => ?_
              refine wpo_mv (a := (eB v76)) rfl rfl rfl (o_pick_t tk rfl rfl (Wk.refl _)) ?_
              refine wpo_mv (a := (eB v76)) rfl rfl rfl (o_as tk rfl (Wk.refl _)) ?_
              refine wpo_nil ?_
              refine awp_ret ?_
              obtain rfl := Option.some.inj H75
              exact ⟨_, (eB v76), rfl, (.of_eq rfl), .of_eq ((enc_b td4 sz4).cut _ _ _), (hH.noT.drop n60)⟩
            · subst hb
              refine wpo_skip rfl rfl rfl ?_
              refine wpo_mv (a := (eB false)) rfl rfl rfl (o_pick_f tk rfl rfl (Wk.refl _)) ?_
              refine wpo_mv (a := (eB false)) rfl rfl rfl (o_as tk rfl (Wk.refl _)) ?_
              refine wpo_nil ?_
              refine awp_ret ?_
              obtain rfl := Option.some.inj H74
              exact ⟨_, (eB false), rfl, (.of_eq rfl), .of_eq ((enc_b td4 sz4).cut _ _ _), (hH.noT.drop n60)⟩
          · subst hb
            refine wpo_skip rfl rfl rfl ?_
            refine wpo_skip rfl rfl rfl ?_
            refine wpo_skip rfl rfl rfl ?_
            refine wpo_mv (a := (eB false)) rfl rfl rfl (o_pick_f tk rfl rfl (Wk.refl _)) ?_
            refine wpo_mv (a := (eB false)) rfl rfl rfl (o_mv tk rfl (Wk.refl _)) ?_
            refine wpo_skip rfl rfl rfl ?_
            refine wpo_mv (a := (eB false)) rfl rfl rfl (o_pick_f tk rfl rfl (Wk.refl _)) ?_
            refine wpo_mv (a := (eB false)) rfl rfl rfl (o_as tk rfl (Wk.refl _)) ?_
            refine wpo_nil ?_
            refine awp_ret ?_
            obtain rfl := Option.some.inj H71
            exact ⟨_, (eB false), rfl, (.of_eq rfl), .of_eq ((enc_b td4 sz4).cut _ _ _), (hH.noT.drop n60)⟩
      · refine awp_if hs24 rfl (fun H26 => ?_) (fun H26 => ?_)
        · refine awp_seq ?_
          refine awp_region rfl ?_
          refine wpo_mv (a := (e_api_Foot x0)) rfl rfl rfl (o_ld tk rfl rfl) ?_
          refine wpo_bd H26 (fun r => .tup [(eL 1 (@eU .u8 8)) r.1, eErr r.2]) rfl rfl rfl (fun v28 hv => OpP.of_call rfl rfl (.cons (.of_eq rfl) .nil) (region_Put_ok hv)) fun v28 hv28 H27 => ?_
          refine wpo_mv (a := (.tup [((eL 1 (@eU .u8 8)) v28.1), (eErr v28.2)])) rfl rfl rfl (o_mv tk rfl (Wk.refl _)) ?_
          refine wpo_mv (a := ((eL 1 (@eU .u8 8)) v28.1)) rfl rfl rfl (o_ext tk rfl rfl) ?_
          refine wpo_mv (a := (eErr v28.2)) rfl rfl rfl (o_ext tk rfl rfl) ?_
          refine wpo_mv (a := ((eL 1 (@eU .u8 8)) v28.1)) rfl rfl rfl (o_as tk rfl (Wk.refl _)) ?_
          refine wpo_mv (a := (eErr v28.2)) rfl rfl rfl (o_as tk rfl (Wk.refl _)) ?_
          refine wpo_nil ?_
          refine awp_seq ?_
          refine awp_region rfl ?_
          refine wpo_mv (a := ((eL 1 (@eU .u8 8)) v28.1)) rfl rfl rfl (o_mv tk rfl (Wk.refl _)) ?_
          refine wpo_bd H27 (fun r => .tup [e_api_Foot r.1, eErr r.2]) rfl rfl rfl (fun v30 hv => OpP.of_call rfl rfl (.cons (.of_eq rfl) .nil) (region_Get_ok hv)) fun v30 hv30 H29 => ?_
          refine wpo_mv (a := (.tup [(e_api_Foot v30.1), (eErr v30.2)])) rfl rfl rfl (o_mv tk rfl (Wk.refl _)) ?_
          refine wpo_mv (a := (e_api_Foot v30.1)) rfl rfl rfl (o_ext tk rfl rfl) ?_
          refine wpo_mv (a := (eErr v30.2)) rfl rfl rfl (o_ext tk rfl rfl) ?_
          refine wpo_a (av := fun id => .ref id 0) rfl rfl rfl (h_alloc tk hH ty53 [(eI z_api_Foot.Seq), (eI z_api_Foot.Bytes), (eI z_api_Foot.Count), AV.nils] rfl) fun id31 τ ⟨hH, n32⟩ => ?_
          refine wpo_z rfl rfl (h_st tk hH 0 rfl ty53 (by simp) rfl rfl (.of_eq rfl) (b := (e_api_Foot v30.1)) (enc53.flat _) rfl (Nat.le_of_ble_eq_true rfl) (c_api_Foot (v30.1 : api_Foot)) rfl) fun τ hH => ?_
          refine wpo_mv (a := (eErr v30.2)) rfl rfl rfl (o_as tk rfl (Wk.refl _)) ?_
          refine wpo_nil ?_
          refine awp_seq ?_
          obtain ⟨s34, hs36, hj37⟩ := Option.bind_eq_some_iff.1 H29
          refine awp_cutn (fun fr τ => WkF fr (fm [(1, ((eL 1 (@eU .u8 8)) x1)), (52, (eB s34))]) ∧ Holds σ [(id31, (c_api_Foot (v30.1 : api_Foot)))] [] τ) ?_ ?_
          · rintro fr τ ⟨hfr, hH⟩
            have H53 := hj37
            refine AWP.fm [(1, ((eL 1 (@eU .u8 8)) x1)), (52, (eB s34))] hfr ?_
            refine awp_if H53 rfl (fun H54 => ?_) (fun H54 => ?_)
            · refine awp_seq ?_
              refine awp_region rfl ?_
              refine wpo_mv (a := (eB false)) rfl rfl rfl (o_as tk rfl (Wk.refl _)) ?_
              refine wpo_nil ?_
              refine awp_ret ?_
              have e := Option.some.inj H54
              rw [← e] at hj25
              have H55 := (show some _ = some _ from hj25)
              obtain rfl := Option.some.inj H55
              exact ⟨_, (eB false), rfl, (.of_eq rfl), .of_eq ((enc_b td4 sz4).cut _ _ _), (hH.noT.drop n32)⟩
            · refine awp_skip ?_
              have e := Option.some.inj H54
              exact ⟨(), e.symm, (wkf_cons (.of_eq rfl) (wkf_nil _)), (hH.drop n32)⟩
          · refine awp_region rfl ?_
            refine wpo_mv (a := (eErr v28.2)) rfl rfl rfl (o_mv tk rfl (Wk.refl _)) ?_
            refine wpo_lt hs36 eB rfl rfl rfl (o_err_neq tk rfl rfl rfl) fun v39 H38 => ?_
            refine wpo_mv (a := (eB v39)) rfl rfl rfl (o_mv tk rfl (Wk.refl _)) ?_
            refine if_split H38 (fun hb H40 => ?_) (fun hb H40 => ?_)
            · subst hb
              refine wpo_skip rfl rfl rfl ?_
              refine wpo_skip rfl rfl rfl ?_
              refine wpo_mv (a := (eB true)) rfl rfl rfl (o_pick_t tk rfl rfl (Wk.refl _)) ?_
              refine wpo_mv (a := (eB true)) rfl rfl rfl (o_mv tk rfl (Wk.refl _)) ?_
              refine wpo_skip rfl rfl rfl ?_
              refine wpo_skip rfl rfl rfl ?_
              refine wpo_skip rfl rfl rfl ?_
              refine wpo_skip rfl rfl rfl ?_
              refine wpo_mv (a := (eB true)) rfl rfl rfl (o_pick_t tk rfl rfl (Wk.refl _)) ?_
              refine wpo_mv (a := (eB true)) rfl rfl rfl (o_mv tk rfl (Wk.refl _)) ?_
              refine wpo_skip rfl rfl rfl ?_
              refine wpo_skip rfl rfl rfl ?_
              refine wpo_skip rfl rfl rfl ?_
              refine wpo_mv (a := (eB true)) rfl rfl rfl (o_pick_t tk rfl rfl (Wk.refl _)) ?_
              refine wpo_nil ?_
              have e := Option.some.inj H40
              subst e
              exact ⟨(wkf_cons (.of_eq rfl) (wkf_cons (.of_eq rfl) (wkf_nil _))), hH⟩
            · subst hb
              refine wpo_mv (a := (eErr v30.2)) rfl rfl rfl (o_mv tk rfl (Wk.refl _)) ?_
              refine wpo_lt H40 eB rfl rfl rfl (o_err_neq tk rfl rfl rfl) fun v42 H41 => ?_
              refine wpo_mv (a := (eB v42)) rfl rfl rfl (o_pick_f tk rfl rfl (Wk.refl _)) ?_
              refine wpo_mv (a := (eB v42)) rfl rfl rfl (o_mv tk rfl (Wk.refl _)) ?_
              refine if_split H41 (fun hb H43 => ?_) (fun hb H43 => ?_)
              · subst hb
                refine wpo_skip rfl rfl rfl ?_
                refine wpo_skip rfl rfl rfl ?_
                refine wpo_skip rfl rfl rfl ?_
                refine wpo_skip rfl rfl rfl ?_
                refine wpo_mv (a := (eB true)) rfl rfl rfl (o_pick_t tk rfl rfl (Wk.refl _)) ?_
                refine wpo_mv (a := (eB true)) rfl rfl rfl (o_mv tk rfl (Wk.refl _)) ?_
                refine wpo_skip rfl rfl rfl ?_
                refine wpo_skip rfl rfl rfl ?_
                refine wpo_skip rfl rfl rfl ?_
                refine wpo_mv (a := (eB true)) rfl rfl rfl (o_pick_t tk rfl rfl (Wk.refl _)) ?_
                refine wpo_nil ?_
                have e := Option.some.inj H43
                subst e
                exact ⟨(wkf_cons (.of_eq rfl) (wkf_cons (.of_eq rfl) (wkf_nil _))), hH⟩
              · subst hb
                refine wpo_mv (a := (e_api_Foot x0)) rfl rfl rfl (o_ld tk rfl rfl) ?_
                refine wpo_rd (a := (e_api_Foot (v30.1 : api_Foot))) rfl rfl rfl (h_ld tk hH 0 rfl rfl rfl) ?_
                refine wpo_bd H43 eB rfl rfl rfl (fun v45 hv => OpP.of_call rfl rfl (.cons (.of_eq rfl) (.cons (.of_eq rfl) .nil)) (butteryref14_Same_ok hv)) fun v45 hv45 H44 => ?_
                refine wpo_lt H44 eB rfl rfl rfl (o_un tk rfl rfl) fun v47 H46 => ?_
                refine wpo_mv (a := (eB v47)) rfl rfl rfl (o_pick_f tk rfl rfl (Wk.refl _)) ?_
                refine wpo_mv (a := (eB v47)) rfl rfl rfl (o_mv tk rfl (Wk.refl _)) ?_
                refine if_split H46 (fun hb H48 => ?_) (fun hb H48 => ?_)
                · subst hb
                  refine wpo_skip rfl rfl rfl ?_
                  refine wpo_skip rfl rfl rfl ?_
                  refine wpo_skip rfl rfl rfl ?_
                  refine wpo_mv (a := (eB true)) rfl rfl rfl (o_pick_t tk rfl rfl (Wk.refl _)) ?_
                  refine wpo_nil ?_
                  have e := Option.some.inj H48
                  subst e
                  exact ⟨(wkf_cons (.of_eq rfl) (wkf_cons (.of_eq rfl) (wkf_nil _))), hH⟩
                · subst hb
                  refine wpo_mv (a := ((eL 1 (@eU .u8 8)) v28.1)) rfl rfl rfl (o_mv tk rfl (Wk.refl _)) ?_
                  refine wpo_lt H48 eI rfl rfl rfl (o_len tk td22 rfl) fun v50 H49 => ?_
                  refine wpo_lt H49 eB rfl rfl rfl (o_ar tk rfl rfl rfl) fun v52 H51 => ?_
                  refine wpo_mv (a := (eB v52)) rfl rfl rfl (o_pick_f tk rfl rfl (Wk.refl _)) ?_
                  refine wpo_nil ?_
                  have e := Option.some.inj H51
                  subst e
                  exact ⟨(wkf_cons (.of_eq rfl) (wkf_cons (.of_eq rfl) (wkf_nil _))), hH⟩
        · refine awp_skip ?_
          have e := Option.some.inj H26
          exact ⟨(), e.symm, (wkf_cons (.of_eq rfl) (wkf_nil _)), hH⟩
  · refine awp_region rfl ?_
    refine wpo_mv (a := (.fptr (c_api_Foot x0) 3)) rfl rfl rfl (o_c tk false rfl (fun _ => rfl)) ?_
    refine wpo_mv (a := ((eL 1 eI) x0.Dead)) rfl rfl rfl (o_ld tk rfl rfl) ?_
    refine wpo_lt hs3 eI rfl rfl rfl (o_len tk td51 rfl) fun v6 H5 => ?_
    refine wpo_lt H5 eB rfl rfl rfl (o_ar tk rfl rfl rfl) fun v8 H7 => ?_
    refine wpo_mv (a := (eB v8)) rfl rfl rfl (o_mv tk rfl (Wk.refl _)) ?_
    refine if_split H7 (fun hb H9 => ?_) (fun hb H9 => ?_)
    · subst hb
      refine wpo_skip rfl rfl rfl ?_
      refine wpo_skip rfl rfl rfl ?_
      refine wpo_skip rfl rfl rfl ?_
      refine wpo_mv (a := (eB true)) rfl rfl rfl (o_pick_t tk rfl rfl (Wk.refl _)) ?_
      refine wpo_nil ?_
      have e := Option.some.inj H9
      subst e
      exact ⟨(wkf_cons (.of_eq rfl) (wkf_cons (.of_eq rfl) (wkf_cons (.of_eq rfl) (wkf_nil _)))), hH⟩
    · subst hb
      refine wpo_mv (a := ((eL 1 (@eU .u8 8)) x1)) rfl rfl rfl (o_mv tk rfl (Wk.refl _)) ?_
      refine wpo_lt H9 eI rfl rfl rfl (o_len tk td22 rfl) fun v11 H10 => ?_
      refine wpo_lt H10 eB rfl rfl rfl (o_ar tk rfl rfl rfl) fun v13 H12 => ?_
      refine wpo_mv (a := (eB v13)) rfl rfl rfl (o_pick_f tk rfl rfl (Wk.refl _)) ?_
      refine wpo_nil ?_
      have e := Option.some.inj H12
      subst e
      exact ⟨(wkf_cons (.of_eq rfl) (wkf_cons (.of_eq rfl) (wkf_cons (.of_eq rfl) (wkf_nil _)))), hH⟩
end Go.Proofs.YtkmlinaofbcbaaaDoor
namespace Go.Va
open Go
set_option linter.unusedVariables false
set_option linter.unusedSimpArgs false
theorem shr64_nat {n m : Nat} (h : m ≤ 64) : shr64 (n : Int) m = ((n / 2 ^ m : Nat) : Int) := by
  unfold shr64
  rw [Nat.min_eq_left h]
  have : (2 : Int) ^ m = ((2 ^ m : Nat) : Int) := by simp
  rw [this, Int.fdiv_eq_ediv_of_nonneg _ (Int.natCast_nonneg _), ← Int.natCast_ediv]
theorem quo64_nat {n m : Nat} (h : n < 9223372036854775808) : quo64 (n : Int) (m : Int) = ((n / m : Nat) : Int) := by
  unfold quo64
  have := Nat.div_le_self n m
  rw [Int.tdiv_eq_ediv_of_nonneg (Int.natCast_nonneg _), ← Int.natCast_ediv]
  generalize n / m = q at *
  exact w64_eq (by omega) (by omega)
theorem tmod_nat (n m : Nat) : Int.tmod (n : Int) (m : Int) = ((n % m : Nat) : Int) := by
  rw [Int.tmod_eq_emod_of_nonneg (Int.natCast_nonneg _)]; rfl
theorem or_low (a b : Nat) (h : b < 128) : a * 128 ||| b = a * 128 + b := by
  have := Nat.two_pow_add_eq_or_of_lt (i := 7) (b := b) (by omega) a
  rw [show 2 ^ 7 * a + b = a * 128 + b by omega, show 2 ^ 7 * a = a * 128 by omega] at this
  exact this.symm
theorem or64_nat {a b : Nat} (ha : a < 9223372036854775808) (hb : b < 9223372036854775808) : or64 (a : Int) (b : Int) = ((a ||| b : Nat) : Int) := by
  have h : a ||| b < 2 ^ 63 := Nat.or_lt_two_pow (by omega) (by omega)
  show w64 ((BitVec.ofInt 64 (a : Int) ||| BitVec.ofInt 64 (b : Int) : BitVec 64).toNat : Int) = _
  rw [BitVec.toNat_or, BitVec.toNat_ofInt, BitVec.toNat_ofInt]
  have e1 : ((a : Int) % ((2 ^ 64 : Nat) : Int)).toNat = a := by omega
  have e2 : ((b : Int) % ((2 ^ 64 : Nat) : Int)).toNat = b := by omega
  rw [e1, e2, w64_eq (by omega) (by omega)]
theorem shl64_7 {a : Nat} (ha : a < 72057594037927936) : shl64 (a : Int) 7 = ((a * 128 : Nat) : Int) := by
  unfold shl64
  rw [w64_eq] <;> simp <;> omega
theorem or64_7 {a b : Nat} (ha : a < 72057594037927936) (hb : b < 128) : or64 (shl64 (a : Int) 7) (b : Int) = ((a * 128 + b : Nat) : Int) := by
  rw [shl64_7 ha, or64_nat (by omega) (by omega), or_low a b hb]
theorem byte_and (x : BitVec 8) : (x &&& 127#8).toNat = x.toNat % 128 := by
  rw [BitVec.toNat_and, show (127#8).toNat = 2 ^ 7 - 1 from rfl, Nat.and_two_pow_sub_one_eq_mod]
theorem byte_or (x : BitVec 8) : x ||| 128#8 = BitVec.ofNat 8 (x.toNat % 128 + 128) := by
  have : ∀ y : Fin 256, (BitVec.ofFin y : BitVec 8) ||| 128#8 = BitVec.ofNat 8 ((BitVec.ofFin y : BitVec 8).toNat % 128 + 128) := by decide +kernel
  exact this x.toFin
theorem byte_and' (x : BitVec 8) : x &&& 127#8 = BitVec.ofNat 8 (x.toNat % 128) := by
  apply BitVec.eq_of_toNat_eq
  rw [byte_and]; simp
  have := x.isLt
  omega
theorem byte_int (n : Nat) : BitVec.ofInt 8 (n : Int) = BitVec.ofNat 8 n := by
  apply BitVec.eq_of_toNat_eq
  simp [BitVec.toNat_ofInt]
theorem byte_hi (n : Nat) : BitVec.ofInt 8 (n : Int) ||| 128#8 = BitVec.ofNat 8 (n % 128 + 128) := by
  rw [byte_int, byte_or]; congr 1; simp
theorem byte_lo (n : Nat) : BitVec.ofInt 8 (n : Int) &&& 127#8 = BitVec.ofNat 8 (n % 128) := by
  rw [byte_int, byte_and']; congr 1; simp
/-! ### seven bits a byte -/
/-- The bytes that go on. -/
def pre (m : Nat) : List (BitVec 8) := if m = 0 then [] else pre (m / 128) ++ [BitVec.ofNat 8 (m % 128 + 128)]
termination_by m
decreasing_by omega
def num7 (n : Nat) : List (BitVec 8) := pre (n / 128) ++ [BitVec.ofNat 8 (n % 128)]
theorem pre_zero : pre 0 = [] := by rw [pre]; rfl
theorem pre_pos {m : Nat} (h : 0 < m) : pre m = pre (m / 128) ++ [BitVec.ofNat 8 (m % 128 + 128)] := by
  rw [pre, if_neg (by omega)]
theorem pre_len : ∀ (k m : Nat), m < 128 ^ k → (pre m).length ≤ k
  | 0, m, h => by
    have : m = 0 := by simpa using h
    subst this; rw [pre_zero]; simp
  | k + 1, m, h => by
    by_cases h0 : m = 0
    · subst h0; rw [pre_zero]; simp
    · rw [pre_pos (by omega)]
      have := pre_len k (m / 128) (by rw [Nat.div_lt_iff_lt_mul (by decide)]; rw [Nat.pow_succ] at h; exact h)
      simp; exact this
theorem num7_len {n : Nat} (h : n < 9223372036854775808) : (num7 n).length ≤ 9 := by
  have := pre_len 8 (n / 128) (by omega)
  simp [num7]; omega
theorem num7_small {n : Nat} (h : n < 128) : num7 n = [BitVec.ofNat 8 n] := by
  rw [num7, show n / 128 = 0 by omega, pre_zero, Nat.mod_eq_of_lt h]; rfl
/-- The same from the highest one on. -/
def seq7 (n : Nat) : Nat → List (BitVec 8)
  | 0 => []
  | c + 1 => BitVec.ofNat 8 (n / 128 ^ (c + 1) % 128 + 128) :: seq7 n c
theorem seq7_snoc (n : Nat) : ∀ c, seq7 n (c + 1) = seq7 (n / 128) c ++ [BitVec.ofNat 8 (n / 128 % 128 + 128)]
  | 0 => by simp [seq7]
  | c + 1 => by
    rw [seq7, seq7_snoc n c, seq7]
    simp only [List.cons_append]
    rw [Nat.div_div_eq_div_mul, ← Nat.pow_succ']
theorem seq7_pre : ∀ (h n : Nat), n / 128 ^ h < 128 → (∀ j, j < h → 128 ≤ n / 128 ^ j) → seq7 n h = pre (n / 128)
  | 0, n, h1, h2 => by
    rw [show n / 128 = 0 by simp at h1; omega, pre_zero]; rfl
  | h + 1, n, h1, h2 => by
    have h0 := h2 0 (by omega)
    simp at h0
    rw [seq7_snoc, pre_pos (by omega), seq7_pre h (n / 128) (by rw [Nat.div_div_eq_div_mul, ← Nat.pow_succ']; exact h1) (fun j hj => by
      rw [Nat.div_div_eq_div_mul, ← Nat.pow_succ']; exact h2 (j + 1) (by omega))]
/-- How many bytes. -/
def nlen (n : Nat) : Nat := if n < 128 then 1 else nlen (n / 128) + 1
termination_by n
decreasing_by omega
theorem nlen_lt {n : Nat} (h : n < 128) : nlen n = 1 := by rw [nlen, if_pos h]
theorem nlen_ge {n : Nat} (h : 128 ≤ n) : nlen n = nlen (n / 128) + 1 := by rw [nlen, if_neg (by omega)]
/-! ### reading -/
def up7 : Int ⊕ (Nat × Nat) → Int ⊕ (Nat × Nat)
  | .inl e => .inl e
  | .inr (m, k) => .inr (m, k + 1)
/-- What a number is that begins here, and how many bytes it has; or what is wrong first. -/
def rd7 (most : Nat) : List (BitVec 8) → Bool → Nat → Int ⊕ (Nat × Nat)
  | [], _, _ => .inl 6
  | c :: l, f, n =>
    if c = 128#8 ∧ f = true then .inl 5 else if most / 128 < n then .inl 2 else
    if 128 ≤ c.toNat then up7 (rd7 most l false (n * 128 + c.toNat % 128))
    else if most < n * 128 + c.toNat then .inl 2 else .inr (n * 128 + c.toNat, 1)
theorem rd7_le {most : Nat} : ∀ {l : List (BitVec 8)} {f : Bool} {n m k : Nat}, rd7 most l f n = .inr (m, k) → m ≤ most ∧ 1 ≤ k ∧ k ≤ l.length
  | [], f, n, m, k, h => by simp [rd7] at h
  | c :: l, f, n, m, k, h => by
    simp only [rd7] at h
    split at h
    · cases h
    · split at h
      · cases h
      · split at h
        · cases hr : rd7 most l false (n * 128 + c.toNat % 128) with
          | inl e => rw [hr] at h; cases h
          | inr p =>
            obtain ⟨m', k'⟩ := p
            rw [hr] at h
            simp only [up7, Sum.inr.injEq, Prod.mk.injEq] at h
            obtain ⟨rfl, rfl⟩ := h
            have := rd7_le hr
            simp; omega
        · split at h
          · cases h
          · simp only [Sum.inr.injEq, Prod.mk.injEq] at h
            obtain ⟨rfl, rfl⟩ := h
            simp; omega
end Go.Va
namespace Go.Proofs.YtkmlinaofbcbaaaDoor
open Go Go.Va
set_option linter.unusedVariables false
set_option linter.unusedSimpArgs false
set_option maxRecDepth 20000
noncomputable def butteryref02_num_b0  (c9 : List (BitVec 8)) (c10 : Int) : Option (((List (BitVec 8)) × Int) ⊕ ((List (BitVec 8)))) :=
  lt (decide (c10 > (0 : Int))) fun v22 =>
  if v22 = true then
    lt (Int.tmod c10 (128 : Int)) fun v25 =>
    lt (w64 (v25 + (128 : Int))) fun v27 =>
    lt (BitVec.ofInt 8 v27) fun v29 =>
    lt (([v29] : List (BitVec 8))) fun v31 =>
    (app 1 v31 c9).bind fun v33 =>
    lt (quo64 c10 (128 : Int)) fun v37 =>
    some (.inl (v33, v37))
  else
    some (.inr c9)
noncomputable def butteryref02_num_l0  (s : (List (BitVec 8)) × Int) : Option ((List (BitVec 8))) := loopO (fun s => butteryref02_num_b0 s.1 s.2) s
noncomputable def butteryref02_num (x0 : Int) : Option ((List (BitVec 8))) :=
  lt (Int.tmod x0 (128 : Int)) fun v2 =>
  lt (BitVec.ofInt 8 v2) fun v4 =>
  lt (([v4] : List (BitVec 8))) fun v6 =>
  lt (quo64 x0 (128 : Int)) fun v8 =>
  (butteryref02_num_l0 (v6, v8)).bind fun s19 =>
    some s19
end Go.Proofs.YtkmlinaofbcbaaaDoor
namespace Go.Proofs.YtkmlinaofbcbaaaDoor
open Go Go.Va
set_option linter.unusedVariables false
set_option linter.unusedSimpArgs false
set_option maxRecDepth 20000
noncomputable def butteryref02_Put_b0 (x1 : List Int) (c5 : List (BitVec 8)) (c6 : Int) : Option (((List (BitVec 8)) × Int) ⊕ ((List (BitVec 8)))) :=
  lt (((x1).length : Int)) fun v17 =>
  lt (decide (c6 < v17)) fun v19 =>
  if v19 = true then
    (ix x1 c6).bind fun v22 =>
    (butteryref02_num v22).bind fun v24 =>
    (app 1 c5 v24).bind fun v26 =>
    lt (w64 (c6 + (1 : Int))) fun v30 =>
    some (.inl (v26, v30))
  else
    some (.inr c5)
noncomputable def butteryref02_Put_l0 (x1 : List Int) (s : (List (BitVec 8)) × Int) : Option ((List (BitVec 8))) := loopO (fun s => butteryref02_Put_b0 x1 s.1 s.2) s
noncomputable def butteryref02_Put (x0 : List (BitVec 8)) (x1 : List Int) : Option ((List (BitVec 8))) :=
  (app 1 ([] : List (BitVec 8)) x0).bind fun v2 =>
  (butteryref02_Put_l0 x1 (v2, (0 : Int))).bind fun s14 =>
    some s14
end Go.Proofs.YtkmlinaofbcbaaaDoor
namespace Go.Proofs.YtkmlinaofbcbaaaDoor
open Go Go.Va
set_option linter.unusedVariables false
set_option linter.unusedSimpArgs false
set_option maxRecDepth 20000
noncomputable def butteryref02_Bytes (x0 : List (BitVec 8)) (x1 : List (BitVec 8)) : Option ((List (BitVec 8))) :=
  lt (((x1).length : Int)) fun v2 =>
  lt (([v2] : List Int)) fun v4 =>
  (butteryref02_Put x0 v4).bind fun v6 =>
  (app 1 v6 x1).bind fun v9 =>
  some v9
end Go.Proofs.YtkmlinaofbcbaaaDoor
namespace Go.Proofs.YtkmlinaofbcbaaaDoor
open Go Go.Va
set_option linter.unusedVariables false
set_option linter.unusedSimpArgs false
set_option maxRecDepth 20000
noncomputable def butteryref02_Key (x0 : List (BitVec 8)) : Option (Int) :=
  lt (x0 == ([] : List (BitVec 8))) fun v2 =>
  if v2 = true then
    some (1 : Int)
  else
    lt (((x0).length : Int)) fun v5 =>
    lt (decide (v5 > (40 : Int))) fun v7 =>
    if v7 = true then
      some (3 : Int)
    else
      some (0 : Int)
end Go.Proofs.YtkmlinaofbcbaaaDoor
namespace Go.Proofs.YtkmlinaofbcbaaaDoor
open Go Go.Va
set_option linter.unusedVariables false
set_option linter.unusedSimpArgs false
theorem same_eq (x y : List (BitVec 8)) (hx : x.length < 9223372036854775807) : butteryref02_Same x y = some (decide (x = y)) := by
  unfold butteryref02_Same
  simp only [lt_eq]
  by_cases hl : x.length = y.length
  · rw [if_neg (by simp [hl])]
    have h := loopO_find (body := fun s => butteryref02_Same_b0 x y s) (fun i : Nat => (i : Int)) x.length (fun i => if x[i]? ≠ y[i]? then some (Sum.inr false) else none) (x := .inl ()) (fun i hi => by
      simp only [butteryref02_Same_b0, lt_eq, ix_nat hi, ix_nat (show i < y.length by omega), Option.bind_some]
      rw [if_pos (by simpa using hi)]
      by_cases he : x[i] = y[i]
      · rw [if_neg (by simp [he]), if_neg (by simp [hi, show i < y.length by omega, he]), w64_nat (by omega)]; rfl
      · rw [if_pos (by simpa using he), if_pos (by simp [hi, show i < y.length by omega, he])]; rfl) (by simp [butteryref02_Same_b0, lt_eq])
    rw [show ((0 : Nat) : Int) = 0 from rfl] at h
    simp only [butteryref02_Same_l0, h, Option.bind_some]
    by_cases he : x = y
    · rw [List.findSome?_eq_none_iff.2 (fun i _ => by rw [if_neg (by simp [he])])]
      simp [he]
    · cases hf : (List.range x.length).findSome? (fun i => if x[i]? ≠ y[i]? then some (Sum.inr (α := Unit) false) else none) with
      | none =>
        refine absurd (List.ext_getElem? fun i => ?_) he
        have h1 := List.findSome?_eq_none_iff.1 hf
        rcases Nat.lt_or_ge i x.length with hi | hi
        · have := h1 i (by simpa using hi)
          by_cases hne : x[i]? = y[i]?
          · exact hne
          · rw [if_pos hne] at this; cases this
        · rw [List.getElem?_eq_none hi, List.getElem?_eq_none (by omega)]
      | some w =>
        obtain ⟨i, _, h2⟩ := List.exists_of_findSome?_eq_some hf
        split at h2
        · cases h2; simp [he]
        · cases h2
  · rw [if_pos (by simpa using fun e => hl (by exact_mod_cast e))]
    rw [decide_eq_false (fun e => hl (by rw [e]))]
theorem refnum_l : ∀ (k m : Nat) (out : List (BitVec 8)), m < 128 ^ k → m < 9223372036854775808 → out.length + k ≤ 1000 → butteryref02_num_l0 (out, (m : Int)) = some (pre m ++ out)
  | 0, m, out, h, h2, hl => by
    have : m = 0 := by simpa using h
    subst this
    rw [pre_zero]
    exact loopO_out (by simp [butteryref02_num_b0, lt_eq])
  | k + 1, m, out, h, h2, hl => by
    by_cases h0 : m = 0
    · subst h0
      rw [pre_zero]
      exact loopO_out (by simp [butteryref02_num_b0, lt_eq])
    · have hb : butteryref02_num_b0 out (m : Int) = some (.inl (BitVec.ofNat 8 (m % 128 + 128) :: out, ((m / 128 : Nat) : Int))) := by
        simp only [butteryref02_num_b0, lt_eq]
        rw [if_pos (by simp; omega)]
        have e1 : Int.tmod (m : Int) 128 = ((m % 128 : Nat) : Int) := tmod_nat m 128
        have e2 : quo64 (m : Int) 128 = ((m / 128 : Nat) : Int) := quo64_nat h2
        rw [e1, e2, w64_eq (by omega) (by omega), app_eq (by simp; omega)]
        rw [show (((m % 128 : Nat) : Int) + 128) = ((m % 128 + 128 : Nat) : Int) by omega, byte_int]
        rfl
      have := loopO_in (body := fun s => butteryref02_num_b0 s.1 s.2) (s := (out, (m : Int))) hb
      rw [butteryref02_num_l0, this]
      have ih := refnum_l k (m / 128) (BitVec.ofNat 8 (m % 128 + 128) :: out) (by rw [Nat.div_lt_iff_lt_mul (by decide)]; rw [Nat.pow_succ] at h; exact h) (by omega) (by simp; omega)
      rw [butteryref02_num_l0] at ih
      rw [ih, pre_pos (m := m) (by omega)]
      simp
theorem refnum_eq {n : Nat} (h : n < 9223372036854775808) : butteryref02_num (n : Int) = some (num7 n) := by
  simp only [butteryref02_num, lt_eq]
  have e1 : Int.tmod (n : Int) 128 = ((n % 128 : Nat) : Int) := tmod_nat n 128
  have e2 : quo64 (n : Int) 128 = ((n / 128 : Nat) : Int) := quo64_nat h
  rw [e1, e2, byte_int, refnum_l 9 (n / 128) _ (by omega) (by omega) (by simp)]
  rfl
/-- Numbers one behind the other. -/
def nums (l : List Int) : List (BitVec 8) := l.flatMap fun n => num7 n.toNat
def okN (l : List Int) : Prop := l.length ≤ 1000 ∧ ∀ n ∈ l, 0 ≤ n ∧ n ≤ 9223372036854775807
theorem nums_len : ∀ {l : List Int}, (∀ n ∈ l, 0 ≤ n ∧ n ≤ 9223372036854775807) → (nums l).length ≤ 9 * l.length
  | [], _ => Nat.le_refl _
  | n :: l, h => by
    have h1 := nums_len (l := l) (fun m hm => h m (List.mem_cons_of_mem _ hm))
    have h2 := h n List.mem_cons_self
    have h3 := num7_len (n := n.toNat) (by omega)
    simp only [nums, List.flatMap_cons, List.length_append, List.length_cons] at h1 ⊢
    omega
theorem nums_snoc (l : List Int) (n : Int) : nums (l ++ [n]) = nums l ++ num7 n.toNat := by simp [nums]
theorem refPut_eq (b : List (BitVec 8)) {l : List Int} (hb : b.length ≤ 1000000) (hl : okN l) : butteryref02_Put b l = some (b ++ nums l) := by
  simp only [butteryref02_Put]
  rw [app_eq (by simp; omega)]
  simp only [List.nil_append, Option.bind_some]
  have h := loopO_up (body := fun s => butteryref02_Put_b0 l s.1 s.2) (fun i => (b ++ nums (l.take i), (i : Int))) l.length (x := b ++ nums l) (fun i hi => by
    obtain ⟨hn0, hn1⟩ := hl.2 _ (List.getElem_mem hi)
    have hn : butteryref02_num l[i] = some (num7 l[i].toNat) := by
      have := refnum_eq (n := l[i].toNat) (by omega)
      rwa [Int.toNat_of_nonneg hn0] at this
    have h1 := nums_len (l := l.take i) (fun m hm => hl.2 m (List.mem_of_mem_take hm))
    have h2 := num7_len (n := l[i].toNat) (by omega)
    have h3 := hl.1
    simp only [List.length_take] at h1
    simp only [butteryref02_Put_b0, lt_eq, ix_nat hi, Option.bind_some, hn]
    rw [if_pos (by simpa using hi), app_eq (by simp only [List.length_append]; omega), w64_nat (by omega)]
    simp only [Option.bind_some]
    rw [List.take_succ_eq_append_getElem hi, nums_snoc, List.append_assoc]) (by simp [butteryref02_Put_b0, lt_eq])
  simp only [butteryref02_Put_l0]
  have h0 : b ++ nums (l.take 0) = b := by simp [nums]
  rw [h0] at h
  rw [show ((0 : Nat) : Int) = 0 from rfl] at h
  rw [h]; rfl
theorem oct_l1 (l : List Int) (v6 : Int) (c7 : List (BitVec 8)) (c8 : Int) {n : Nat} (hn : n < 9223372036854775808) : ∃ h : Nat, octets_Put_l1 l v6 c7 c8 (n : Int) 0 = some (h : Int) ∧ h ≤ 9 ∧ n / 128 ^ h < 128 ∧ ∀ j, j < h → 128 ≤ n / 128 ^ j := by
  have key := loopO_inv (body := fun s => octets_Put_b1 l v6 c7 c8 (n : Int) s) (fun s => ∃ h : Nat, s = (h : Int) ∧ h ≤ 9 ∧ ∀ j, j < h → 128 ≤ n / 128 ^ j) (fun s => 10 - s.toNat) (fun x => ∃ h : Nat, x = (h : Int) ∧ h ≤ 9 ∧ n / 128 ^ h < 128 ∧ ∀ j, j < h → 128 ≤ n / 128 ^ j) (fun s => by
    rintro ⟨h, rfl, h9, hj⟩
    have ew : w64 (7 * (h : Int)) = ((7 * h : Nat) : Int) := by rw [w64_eq (by omega) (by omega)]; omega
    have es : shr64 (n : Int) (7 * h) = ((n / 128 ^ h : Nat) : Int) := by
      rw [shr64_nat (by omega), Nat.pow_mul]
    simp only [octets_Put_b1, lt_eq, ew, sc_eq (Int.natCast_nonneg _), Int.toNat_natCast, Option.map_some, Option.bind_some, es]
    by_cases hc : 128 ≤ n / 128 ^ h
    · left
      have h8 : h ≤ 8 := by
        rcases Nat.lt_or_ge 8 h with h8 | h8
        · have : h = 9 := by omega
          subst this
          omega
        · exact h8
      refine ⟨((h + 1 : Nat) : Int), ?_, ⟨h + 1, rfl, by omega, fun j hj' => ?_⟩, by omega⟩
      · rw [if_pos (decide_eq_true (show ((n / 128 ^ h : Nat) : Int) ≥ 128 by omega)), w64_nat (by omega)]
      · by_cases e : j = h
        · subst e; exact hc
        · exact hj j (by omega)
    · right
      exact ⟨_, by rw [if_neg (by rw [decide_eq_false (show ¬ ((n / 128 ^ h : Nat) : Int) ≥ 128 by omega)]; simp)], h, rfl, h9, by omega, hj⟩) (s := 0) ⟨0, rfl, by omega, fun j hj => by omega⟩
  obtain ⟨x, h1, h, rfl, h2⟩ := key
  exact ⟨h, h1, h2⟩
theorem oct_l2 (l : List Int) (v6 : Int) (c8 : Int) {n : Nat} : ∀ (h : Nat) (out : List (BitVec 8)), h ≤ 9 → out.length + h ≤ 100000000 → octets_Put_l2 l v6 c8 (n : Int) (out, (h : Int)) = some (out ++ seq7 n h)
  | 0, out, h9, hl => by
    simp only [seq7, List.append_nil]
    exact loopO_out (by simp [octets_Put_b2, lt_eq])
  | h + 1, out, h9, hl => by
    have ew : w64 (7 * ((h + 1 : Nat) : Int)) = ((7 * (h + 1) : Nat) : Int) := by rw [w64_eq (by omega) (by omega)]; omega
    have es : shr64 (n : Int) (7 * (h + 1)) = ((n / 128 ^ (h + 1) : Nat) : Int) := by
      rw [shr64_nat (by omega), Nat.pow_mul]
    have hb : octets_Put_b2 l v6 c8 (n : Int) out ((h + 1 : Nat) : Int) = some (.inl (out ++ [BitVec.ofNat 8 (n / 128 ^ (h + 1) % 128 + 128)], (h : Int))) := by
      simp only [octets_Put_b2, lt_eq, ew, sc_eq (Int.natCast_nonneg _), Int.toNat_natCast, Option.map_some, Option.bind_some, es]
      rw [if_pos (decide_eq_true (by omega)), app_eq (by simp; omega), byte_hi, w64_eq (by omega) (by omega)]
      simp only [Option.bind_some]
      rw [show (((h + 1 : Nat) : Int) - 1) = (h : Int) by omega]
    have := loopO_in (body := fun s => octets_Put_b2 l v6 c8 (n : Int) s.1 s.2) (s := (out, ((h + 1 : Nat) : Int))) hb
    rw [octets_Put_l2, this]
    have ih := oct_l2 l v6 c8 (n := n) h (out ++ [BitVec.ofNat 8 (n / 128 ^ (h + 1) % 128 + 128)]) (by omega) (by simp; omega)
    rw [octets_Put_l2] at ih
    rw [ih, seq7, List.append_assoc]; rfl
theorem octPut_eq (b : List (BitVec 8)) {l : List Int} (hb : b.length ≤ 1000000) (hl : okN l) : octets_Put b l = some (b ++ nums l) := by
  simp only [octets_Put]
  rw [app_eq (by simp; omega)]
  simp only [List.nil_append, Option.bind_some, lt_eq]
  have h := loopO_up (body := fun s => octets_Put_b0 l (l.length : Int) s.1 s.2) (fun i => (b ++ nums (l.take i), (i : Int))) l.length (x := b ++ nums l) (fun i hi => by
    obtain ⟨hn0, hn1⟩ := hl.2 _ (List.getElem_mem hi)
    obtain ⟨n, hn⟩ : ∃ n : Nat, l[i] = (n : Int) := ⟨l[i].toNat, by omega⟩
    have hlt : n < 9223372036854775808 := by omega
    have h1 := nums_len (l := l.take i) (fun m hm => hl.2 m (List.mem_of_mem_take hm))
    have h3 := hl.1
    simp only [List.length_take] at h1
    obtain ⟨h, k1, k2, k3, k4⟩ := oct_l1 l (l.length : Int) (b ++ nums (l.take i)) (i : Int) hlt
    have h2 := num7_len hlt
    have hs := seq7_pre h n k3 k4
    simp only [octets_Put_b0, lt_eq, ix_nat hi, Option.bind_some, hn, k1]
    rw [oct_l2 l _ _ h _ k2 (by simp only [List.length_append]; omega), hs]
    have h2' : (pre (n / 128)).length ≤ 9 := by simp [num7] at h2; omega
    simp only [Option.bind_some, byte_lo]
    rw [if_pos (by simpa using hi), app_eq (by simp only [List.length_append, List.length_cons, List.length_nil]; omega), w64_nat (by omega)]
    simp only [Option.bind_some]
    rw [List.take_succ_eq_append_getElem hi, nums_snoc, hn, Int.toNat_natCast, num7]
    simp only [List.append_assoc]) (by simp [octets_Put_b0, lt_eq])
  simp only [octets_Put_l0]
  have h0 : b ++ nums (l.take 0) = b := by simp [nums]
  rw [h0] at h
  rw [show ((0 : Nat) : Int) = 0 from rfl] at h
  rw [h]; rfl
theorem okN_one {n : Nat} (h : n < 9223372036854775808) : okN [(n : Int)] := ⟨by simp, fun m hm => by simp at hm; omega⟩
theorem octBytes_eq (b t : List (BitVec 8)) (hb : b.length ≤ 1000000) (ht : t.length ≤ 1000000) : octets_Bytes b t = some (b ++ num7 t.length ++ t) := by
  have h2 := num7_len (n := t.length) (by omega)
  simp only [octets_Bytes, lt_eq, octPut_eq b hb (okN_one (n := t.length) (by omega)), Option.bind_some, nums, List.flatMap_cons, List.flatMap_nil, List.append_nil, Int.toNat_natCast]
  rw [app_eq (by simp only [List.length_append]; omega)]; rfl
theorem refBytes_eq (b t : List (BitVec 8)) (hb : b.length ≤ 1000000) (ht : t.length ≤ 1000000) : butteryref02_Bytes b t = some (b ++ num7 t.length ++ t) := by
  have h2 := num7_len (n := t.length) (by omega)
  simp only [butteryref02_Bytes, lt_eq, refPut_eq b hb (okN_one (n := t.length) (by omega)), Option.bind_some, nums, List.flatMap_cons, List.flatMap_nil, List.append_nil, Int.toNat_natCast]
  rw [app_eq (by simp only [List.length_append]; omega)]; rfl
end Go.Proofs.YtkmlinaofbcbaaaDoor
namespace Go.Proofs.YtkmlinaofbcbaaaDoor
open Go Go.Va
set_option linter.unusedVariables false
set_option linter.unusedSimpArgs false
/-- The first i bytes of a word. -/
def wd (n : BitVec 64) (i : Nat) : List (BitVec 8) := (List.range i).map fun j => (n >>> (56 - 8 * j)).setWidth 8
theorem wd_succ (n : BitVec 64) (i : Nat) : wd n (i + 1) = wd n i ++ [(n >>> (56 - 8 * i)).setWidth 8] := by
  simp [wd, List.range_succ]
theorem wd_len (n : BitVec 64) (i : Nat) : (wd n i).length = i := by simp [wd]
theorem shr35 {n : Nat} : shr64 (n : Int) 35 = ((n / 34359738368 : Nat) : Int) := by rw [shr64_nat (by omega)]
theorem octLen_n {n : Nat} (h : n < 9223372036854775808) : ∀ k, octets_Len_n (k + 3) (n : Int) = some (nlen n : Int) := by
  have hs : ∀ (rec : Int → Option Int) {n : Nat}, n < 34359738368 → octets_Len_F rec (n : Int) = some (nlen n : Int) := by
    intro rec n hn
    simp only [octets_Len_F, lt_eq]
    rw [if_neg (by rw [decide_eq_false (by omega)]; simp)]
    by_cases h4 : 268435456 ≤ n
    · rw [if_pos (decide_eq_true (by omega)), nlen_ge (by omega), nlen_ge (by omega), nlen_ge (by omega), nlen_ge (by omega), nlen_lt (by omega)]; rfl
    rw [if_neg (by rw [decide_eq_false (by omega)]; simp)]
    by_cases h3 : 2097152 ≤ n
    · rw [if_pos (decide_eq_true (by omega)), nlen_ge (by omega), nlen_ge (by omega), nlen_ge (by omega), nlen_lt (by omega)]; rfl
    rw [if_neg (by rw [decide_eq_false (by omega)]; simp)]
    by_cases h2 : 16384 ≤ n
    · rw [if_pos (decide_eq_true (by omega)), nlen_ge (by omega), nlen_ge (by omega), nlen_lt (by omega)]; rfl
    rw [if_neg (by rw [decide_eq_false (by omega)]; simp)]
    by_cases h1 : 128 ≤ n
    · rw [if_pos (decide_eq_true (by omega)), nlen_ge (by omega), nlen_lt (by omega)]; rfl
    rw [if_neg (by rw [decide_eq_false (by omega)]; simp), nlen_lt (by omega)]; rfl
  intro k
  by_cases hn : n < 34359738368
  · exact hs (octets_Len_n (k + 2)) hn
  · show octets_Len_F (octets_Len_n (k + 2)) (n : Int) = _
    simp only [octets_Len_F, lt_eq]
    rw [if_pos (decide_eq_true (by omega)), shr35]
    have : octets_Len_n (k + 2) ((n / 34359738368 : Nat) : Int) = _ := hs (octets_Len_n (k + 1)) (by omega)
    rw [this, Option.bind_some]
    have hq : nlen n = nlen (n / 34359738368) + 5 := by
      rw [nlen_ge (n := n) (by omega), nlen_ge (n := n / 128) (by omega), nlen_ge (n := n / 128 / 128) (by omega), nlen_ge (n := n / 128 / 128 / 128) (by omega), nlen_ge (n := n / 128 / 128 / 128 / 128) (by omega)]
      rw [show n / 128 / 128 / 128 / 128 / 128 = n / 34359738368 by omega]
    have hb : nlen (n / 34359738368) ≤ 10 := by
      have : n / 34359738368 < 268435456 := by omega
      generalize n / 34359738368 = m at this
      rcases Nat.lt_or_ge m 128 with h1 | h1
      · rw [nlen_lt h1]; omega
      rw [nlen_ge h1]
      rcases Nat.lt_or_ge (m / 128) 128 with h2 | h2
      · rw [nlen_lt h2]; omega
      rw [nlen_ge h2]
      rcases Nat.lt_or_ge (m / 128 / 128) 128 with h3 | h3
      · rw [nlen_lt h3]; omega
      rw [nlen_ge h3, nlen_lt (by omega)]; omega
    rw [w64_eq (by omega) (by omega), hq]
    congr 1; omega
theorem octLen_eq {n : Nat} (h : n < 9223372036854775808) : octets_Len (n : Int) = some (nlen n : Int) := octLen_n h 999997
theorem key_eq (x : List (BitVec 8)) : octets_Key x = butteryref02_Key x := by
  simp only [octets_Key, butteryref02_Key, lt_eq]
  cases x with
  | nil => rfl
  | cons a x => rw [if_neg (show ¬ ((((a :: x).length : Int) == 0) = true) by simp; omega), if_neg (show ¬ ((a :: x == []) = true) by simp)]
theorem key_some (x : List (BitVec 8)) : ∃ v, octets_Key x = some v := by
  simp only [octets_Key, lt_eq]
  split
  · exact ⟨_, rfl⟩
  · split <;> exact ⟨_, rfl⟩
end Go.Proofs.YtkmlinaofbcbaaaDoor
namespace Go.Proofs.YtkmlinaofbcbaaaDoor
open Go Go.Va
set_option linter.unusedVariables false
set_option linter.unusedSimpArgs false
set_option maxRecDepth 20000
noncomputable def octets_Reader_End (x0 : octets_Reader) : Option (Int × octets_Reader) :=
  (octets_Reader_Left x0).bind fun v2 =>
  lt (decide (v2 > (0 : Int))) fun v4 =>
  (
    if v4 = true then
      (octets_Reader_Fail x0 (5 : Int)).bind fun v11 =>
      some v11
    else
      some x0
   : Option (octets_Reader)).bind fun s5 =>
    some (s5.code, s5)
end Go.Proofs.YtkmlinaofbcbaaaDoor
namespace Go.Proofs.YtkmlinaofbcbaaaDoor
open Go Go.Va
set_option linter.unusedVariables false
set_option linter.unusedSimpArgs false
set_option maxRecDepth 20000
noncomputable def butteryref02_fail (x0 : butteryref02_Reader) (x1 : Int) : Option (butteryref02_Reader) :=
  lt (x0.Code == (0 : Int)) fun v7 =>
  if v7 = true then
    lt (({ (x0 : butteryref02_Reader) with Code := x1 } : butteryref02_Reader)) fun c10 =>
    some (c10 : butteryref02_Reader)
  else
    some ((x0 : butteryref02_Reader) : butteryref02_Reader)
end Go.Proofs.YtkmlinaofbcbaaaDoor
namespace Go.Proofs.YtkmlinaofbcbaaaDoor
open Go Go.Va
set_option linter.unusedVariables false
set_option linter.unusedSimpArgs false
set_option maxRecDepth 20000
noncomputable def butteryref02_Number_b0 (x0 : butteryref02_Reader) (x1 : Int) (c7 : Int) (c8 : Int) : Option ((Int × Int) ⊕ (Unit ⊕ (butteryref02_Reader × Int))) :=
  lt (((x0.B).length : Int)) fun v19 =>
  lt (decide (c8 < v19)) fun v21 =>
  if v21 = true then
    (ix x0.B c8).bind fun v24 =>
    lt ((BitVec.toNat v24 : Int)) fun v26 =>
    (
      lt (v26 == (128 : Int)) fun v32 =>
      if v32 = true then
        lt (c8 == x0.At) fun v35 =>
        some v35
      else
        some false
     : Option (Bool)).bind fun s27 =>
      if s27 = true then
        (butteryref02_fail x0 (5 : Int)).bind fun v39 =>
        some (.inr (.inr ((v39 : butteryref02_Reader), (0 : Int))))
      else
        lt (quo64 x1 (128 : Int)) fun v43 =>
        lt (decide (c7 > v43)) fun v45 =>
        if v45 = true then
          (butteryref02_fail x0 (2 : Int)).bind fun v48 =>
          some (.inr (.inr ((v48 : butteryref02_Reader), (0 : Int))))
        else
          lt (w64 (c7 * (128 : Int))) fun v52 =>
          lt (Int.tmod v26 (128 : Int)) fun v54 =>
          lt (w64 (v52 + v54)) fun v56 =>
          lt (decide (v26 ≥ (128 : Int))) fun v58 =>
          if v58 = true then
            lt (w64 (c8 + (1 : Int))) fun v61 =>
            some (.inl (v56, v61))
          else
            lt (decide (v56 > x1)) fun v63 =>
            if v63 = true then
              (butteryref02_fail x0 (2 : Int)).bind fun v66 =>
              some (.inr (.inr ((v66 : butteryref02_Reader), (0 : Int))))
            else
              lt (w64 (c8 + (1 : Int))) fun v73 =>
              lt (({ (x0 : butteryref02_Reader) with At := v73 } : butteryref02_Reader)) fun c75 =>
              some (.inr (.inr ((c75 : butteryref02_Reader), v56)))
  else
    some (.inr (.inl ()))
noncomputable def butteryref02_Number_l0 (x0 : butteryref02_Reader) (x1 : Int) (s : Int × Int) : Option (Unit ⊕ (butteryref02_Reader × Int)) := loopO (fun s => butteryref02_Number_b0 x0 x1 s.1 s.2) s
noncomputable def butteryref02_Number (x0 : butteryref02_Reader) (x1 : Int) : Option (butteryref02_Reader × Int) :=
  lt (x0.Code != (0 : Int)) fun v4 =>
  if v4 = true then
    some ((x0 : butteryref02_Reader), (0 : Int))
  else
    (butteryref02_Number_l0 x0 x1 ((0 : Int), x0.At)).bind fun o9 =>
      Sum.elim (fun s16 : Unit =>
        (butteryref02_fail x0 (6 : Int)).bind fun v81 =>
        some ((v81 : butteryref02_Reader), (0 : Int))
        ) (fun y => some y) o9
end Go.Proofs.YtkmlinaofbcbaaaDoor
namespace Go.Proofs.YtkmlinaofbcbaaaDoor
open Go Go.Va
set_option linter.unusedVariables false
set_option linter.unusedSimpArgs false
set_option maxRecDepth 20000
noncomputable def butteryref02_Text (x0 : butteryref02_Reader) (x1 : Int) : Option (butteryref02_Reader × (List (BitVec 8))) :=
  (butteryref02_Number x0 x1).bind fun v4 =>
  lt (((v4.1 : butteryref02_Reader).Code) != (0 : Int)) fun v9 =>
  if v9 = true then
    some (((v4.1 : butteryref02_Reader) : butteryref02_Reader), [])
  else
    lt ((((v4.1 : butteryref02_Reader).B).length : Int)) fun v13 =>
    lt (w64 (v13 - ((v4.1 : butteryref02_Reader).At))) fun v15 =>
    lt (decide (v4.2 > v15)) fun v17 =>
    if v17 = true then
      (butteryref02_fail x0 (6 : Int)).bind fun v20 =>
      some ((v20 : butteryref02_Reader), [])
    else
      lt (w64 (((v4.1 : butteryref02_Reader).At) + v4.2)) fun v23 =>
      (cutO ((v4.1 : butteryref02_Reader).B) ((v4.1 : butteryref02_Reader).At) v23).bind fun v25 =>
      (app 1 ([] : List (BitVec 8)) v25).bind fun v27 =>
      lt (w64 (((v4.1 : butteryref02_Reader).At) + v4.2)) fun v31 =>
      lt (({ (v4.1 : butteryref02_Reader) with At := v31 } : butteryref02_Reader)) fun c33 =>
      some ((c33 : butteryref02_Reader), v27)
end Go.Proofs.YtkmlinaofbcbaaaDoor
namespace Go.Proofs.YtkmlinaofbcbaaaDoor
open Go Go.Va
set_option linter.unusedVariables false
set_option linter.unusedSimpArgs false
set_option maxRecDepth 20000
noncomputable def butteryref02_End (x0 : butteryref02_Reader) : Option (Int) :=
  (
    lt (x0.Code == (0 : Int)) fun v6 =>
    if v6 = true then
      lt (((x0.B).length : Int)) fun v9 =>
      lt (decide (x0.At < v9)) fun v11 =>
      some v11
    else
      some false
   : Option (Bool)).bind fun s1 =>
    if s1 = true then
      some (5 : Int)
    else
      some x0.Code
end Go.Proofs.YtkmlinaofbcbaaaDoor
