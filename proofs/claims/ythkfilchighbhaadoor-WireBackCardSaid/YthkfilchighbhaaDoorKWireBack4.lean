/- THERE AND BACK: a message that may be is read as it was; bytes that are read are those of the message. (part 4 of 7) -/
import Derived.Test.YthkfilchighbhaaDoorKWireBack3
namespace Go.Proofs.YthkfilchighbhaaDoor
open Go Go.Va
set_option linter.unusedVariables false
set_option linter.unusedSimpArgs false
set_option maxRecDepth 20000
theorem butteryref23_only_ok {x0 : api_Msg} {r : api_Msg} (H : butteryref23_only x0 = some r) (σ : St)  : ACall Tryd.prog 39 [(e_api_Msg x0)] σ (fun a τ => a = e_api_Msg r ∧ τ = σ) := by
  unfold butteryref23_only at H
  refine ACall.pure (acall_start tk Tryd.func39 (by decide) rfl (Nat.le_of_ble_eq_true rfl) ?_)
  have hH := Holds.init σ
  refine awp_seq ?_
  refine awp_region rfl ?_
  refine wpo_mv (a := (.fptr (c_api_Msg x0) 0)) rfl rfl rfl (o_boxf tk rfl (.of_eq rfl) (b := (e_api_Msg x0)) (enc26.flat _)) ?_
  refine wpo_a (av := fun id => .ref id 0) rfl rfl rfl (h_allocw tk hH ty26 (c_api_Msg z_api_Msg) (.cons (.of_eq rfl) (.cons (.of_eq rfl) (.cons (.of_eq rfl) (.cons (.of_eq rfl) (.cons (.of_eq rfl) (.cons (.of_eq rfl) (.cons (.of_eq rfl) (.cons (.of_eq rfl) (.cons (.of_eq rfl) (.cons (wk_nils _) (.cons (.of_eq rfl) .nil)))))))))))) fun id1 τ ⟨hH, n2⟩ => ?_
  refine wpo_nil ?_
  refine awp_seq ?_
  refine awp_region rfl ?_
  refine wpo_mv (a := (.fptr (c_api_Msg x0) 0)) rfl rfl rfl (o_c tk false rfl (fun _ => rfl)) ?_
  refine wpo_mv (a := (eI x0.Kind)) rfl rfl rfl (o_ld tk rfl rfl) ?_
  refine wpo_mv (a := (.fptr (c_api_Msg x0) 1)) rfl rfl rfl (o_c tk false rfl (fun _ => rfl)) ?_
  refine wpo_mv (a := (eI x0.From)) rfl rfl rfl (o_ld tk rfl rfl) ?_
  refine wpo_mv (a := (.fptr (c_api_Msg x0) 2)) rfl rfl rfl (o_c tk false rfl (fun _ => rfl)) ?_
  refine wpo_mv (a := (eI x0.To)) rfl rfl rfl (o_ld tk rfl rfl) ?_
  refine wpo_mv (a := (.fptr (c_api_Msg x0) 3)) rfl rfl rfl (o_c tk false rfl (fun _ => rfl)) ?_
  refine wpo_mv (a := (eI x0.Epoch)) rfl rfl rfl (o_ld tk rfl rfl) ?_
  refine wpo_lt H e_api_Msg rfl rfl rfl (o_cw tk false (a := .agg ([(eI x0.Kind)] ++ [(eI x0.From)] ++ [(eI x0.To)] ++ [(eI x0.Epoch)] ++ [AV.int .i64 0] ++ [AV.str ⟨#[]⟩, AV.int .i64 0, AV.int .i64 0, AV.int .i64 0, AV.nils] ++ [AV.bool false])) rfl (fun _ => rfl) (wk_agg (WkL.append (WkL.append (WkL.append (WkL.append (WkL.append (WkL.append (.refl _) (.refl _)) (.refl _)) (.refl _)) (.cons (.of_eq rfl) .nil)) (.cons (.of_eq rfl) (.cons (.of_eq rfl) (.cons (.of_eq rfl) (.cons (.of_eq rfl) (.cons (wk_nils _) .nil)))))) (.cons (.of_eq rfl) .nil)))) fun v4 H3 => ?_
  refine wpo_a (av := fun id => .ref id 0) rfl rfl rfl (h_allocw tk hH ty26 (c_api_Msg z_api_Msg) (.cons (.of_eq rfl) (.cons (.of_eq rfl) (.cons (.of_eq rfl) (.cons (.of_eq rfl) (.cons (.of_eq rfl) (.cons (.of_eq rfl) (.cons (.of_eq rfl) (.cons (.of_eq rfl) (.cons (.of_eq rfl) (.cons (wk_nils _) (.cons (.of_eq rfl) .nil)))))))))))) fun id5 τ ⟨hH, n6⟩ => ?_
  obtain ⟨c8, hc9, H7⟩ := lt_ex H3
  refine wpo_z rfl rfl (h_st tk hH 0 rfl ty26 (by simp) rfl rfl (.of_eq rfl) (b := (e_api_Msg v4)) (enc26.flat _) rfl (Nat.le_of_ble_eq_true rfl) (c_api_Msg c8) (by rw [← hc9]; rfl)) fun τ hH => ?_
  refine wpo_nil ?_
  refine awp_seq ?_
  refine awp_seq ?_
  refine awp_region rfl ?_
  refine wpo_mv (a := (.fptr (c_api_Msg x0) 0)) rfl rfl rfl (o_c tk false rfl (fun _ => rfl)) ?_
  refine wpo_mv (a := (eI x0.Kind)) rfl rfl rfl (o_ld tk rfl rfl) ?_
  refine wpo_bd H7 eB rfl rfl rfl (fun v11 hv => OpP.of_call rfl rfl (.cons (.of_eq rfl) .nil) (butteryref23_lease_ok hv)) fun v11 hv11 H10 => ?_
  refine wpo_nil ?_
  obtain ⟨s12, hs14, hj15⟩ := Option.bind_eq_some_iff.1 H10
  refine awp_cutn (fun fr τ => WkF fr (fm [(1, (.fptr (c_api_Msg x0) 0)), (2, (.ref id1 0)), (3, (.ref id5 0))]) ∧ Holds σ [(id5, (c_api_Msg s12)), (id1, (c_api_Msg z_api_Msg))] [] τ) ?_ ?_
  · rintro fr τ ⟨hfr, hH⟩
    have H20 := hj15
    refine AWP.fm [(1, (.fptr (c_api_Msg x0) 0)), (2, (.ref id1 0)), (3, (.ref id5 0))] hfr ?_
    refine awp_seq ?_
    refine awp_seq ?_
    refine awp_region rfl ?_
    refine wpo_mv (a := (.fptr (c_api_Msg x0) 0)) rfl rfl rfl (o_c tk false rfl (fun _ => rfl)) ?_
    refine wpo_mv (a := (eI x0.Kind)) rfl rfl rfl (o_ld tk rfl rfl) ?_
    refine wpo_bd H20 eB rfl rfl rfl (fun v22 hv => OpP.of_call rfl rfl (.cons (.of_eq rfl) .nil) (butteryref23_key_ok hv)) fun v22 hv22 H21 => ?_
    refine wpo_nil ?_
    obtain ⟨s23, hs25, hj26⟩ := Option.bind_eq_some_iff.1 H21
    refine awp_cutn (fun fr τ => WkF fr (fm [(1, (.fptr (c_api_Msg x0) 0)), (2, (.ref id1 0)), (3, (.ref id5 0))]) ∧ Holds σ [(id5, (c_api_Msg s23)), (id1, (c_api_Msg z_api_Msg))] [] τ) ?_ ?_
    · rintro fr τ ⟨hfr, hH⟩
      have H31 := hj26
      refine AWP.fm [(1, (.fptr (c_api_Msg x0) 0)), (2, (.ref id1 0)), (3, (.ref id5 0))] hfr ?_
      refine awp_seq ?_
      refine awp_seq ?_
      refine awp_region rfl ?_
      refine wpo_mv (a := (.fptr (c_api_Msg x0) 0)) rfl rfl rfl (o_c tk false rfl (fun _ => rfl)) ?_
      refine wpo_mv (a := (eI x0.Kind)) rfl rfl rfl (o_ld tk rfl rfl) ?_
      refine wpo_bd H31 eB rfl rfl rfl (fun v33 hv => OpP.of_call rfl rfl (.cons (.of_eq rfl) .nil) (butteryref23_asof_ok hv)) fun v33 hv33 H32 => ?_
      refine wpo_nil ?_
      obtain ⟨s34, hs36, hj37⟩ := Option.bind_eq_some_iff.1 H32
      refine awp_cutn (fun fr τ => WkF fr (fm [(1, (.fptr (c_api_Msg x0) 0)), (2, (.ref id1 0)), (3, (.ref id5 0))]) ∧ Holds σ [(id5, (c_api_Msg s34)), (id1, (c_api_Msg z_api_Msg))] [] τ) ?_ ?_
      · rintro fr τ ⟨hfr, hH⟩
        have H42 := hj37
        refine AWP.fm [(1, (.fptr (c_api_Msg x0) 0)), (2, (.ref id1 0)), (3, (.ref id5 0))] hfr ?_
        refine awp_seq ?_
        refine awp_seq ?_
        refine awp_region rfl ?_
        refine wpo_mv (a := (.fptr (c_api_Msg x0) 0)) rfl rfl rfl (o_c tk false rfl (fun _ => rfl)) ?_
        refine wpo_mv (a := (eI x0.Kind)) rfl rfl rfl (o_ld tk rfl rfl) ?_
        refine wpo_bd H42 eB rfl rfl rfl (fun v44 hv => OpP.of_call rfl rfl (.cons (.of_eq rfl) .nil) (butteryref23_found_ok hv)) fun v44 hv44 H43 => ?_
        refine wpo_nil ?_
        obtain ⟨s45, hs47, hj48⟩ := Option.bind_eq_some_iff.1 H43
        refine awp_cutn (fun fr τ => WkF fr (fm [(1, (.fptr (c_api_Msg x0) 0)), (2, (.ref id1 0)), (3, (.ref id5 0))]) ∧ Holds σ [(id5, (c_api_Msg s45)), (id1, (c_api_Msg z_api_Msg))] [] τ) ?_ ?_
        · rintro fr τ ⟨hfr, hH⟩
          have H53 := hj48
          refine AWP.fm [(1, (.fptr (c_api_Msg x0) 0)), (2, (.ref id1 0)), (3, (.ref id5 0))] hfr ?_
          refine awp_seq ?_
          refine awp_seq ?_
          obtain ⟨s54, hs56, hj57⟩ := Option.bind_eq_some_iff.1 H53
          refine awp_cutn (fun fr τ => WkF fr (fm [(1, (.fptr (c_api_Msg x0) 0)), (2, (.ref id1 0)), (3, (.ref id5 0)), (47, (eB s54))]) ∧ Holds σ [(id5, (c_api_Msg s45)), (id1, (c_api_Msg z_api_Msg))] [] τ) ?_ ?_
          · rintro fr τ ⟨hfr, hH⟩
            have H61 := hj57
            refine AWP.fm [(1, (.fptr (c_api_Msg x0) 0)), (2, (.ref id1 0)), (3, (.ref id5 0)), (47, (eB s54))] hfr ?_
            refine awp_if H61 rfl (fun H62 => ?_) (fun H62 => ?_)
            · refine awp_region rfl ?_
              refine wpo_mv (a := (.fptr (c_api_Msg x0) 5)) rfl rfl rfl (o_c tk false rfl (fun _ => rfl)) ?_
              refine wpo_mv (a := (e_api_Entry x0.X)) rfl rfl rfl (o_ld tk rfl rfl) ?_
              refine wpo_mv (a := (.ref id5 5)) rfl rfl rfl (o_c tk false rfl (fun _ => rfl)) ?_
              obtain ⟨c64, hc65, H63⟩ := lt_ex H62
              refine wpo_z rfl rfl (h_st tk hH 0 rfl ty24 (by simp) rfl rfl (.of_eq rfl) (b := (e_api_Entry x0.X)) (enc24.flat _) rfl (Nat.le_of_ble_eq_true rfl) (c_api_Msg c64) (by rw [← hc65]; rfl)) fun τ hH => ?_
              refine wpo_nil ?_
              refine awp_seq ?_
              refine awp_region rfl ?_
              refine wpo_rd (a := (e_api_Msg c64)) rfl rfl rfl (h_ld tk hH 0 rfl rfl rfl) ?_
              obtain ⟨c67, hc68, H66⟩ := lt_ex H63
              refine wpo_z rfl rfl (h_st tk hH 1 rfl ty26 (by simp) rfl rfl (.of_eq rfl) (b := (e_api_Msg c64)) (enc26.flat _) rfl (Nat.le_of_ble_eq_true rfl) (c_api_Msg c67) (by rw [← hc68]; rfl)) fun τ hH => ?_
              refine wpo_nil ?_
              refine awp_ret ?_
              obtain rfl := Option.some.inj H66
              exact ⟨_, (e_api_Msg c67), (ares_1 (ares_cell hH 1 rfl rfl rfl)), (.of_eq rfl), .of_eq (enc26.cut _ _ _), ((hH.noT.drop n6).drop n2)⟩
            · refine awp_skip ?_
              refine awp_seq ?_
              refine awp_region rfl ?_
              refine wpo_rd (a := (e_api_Msg s45)) rfl rfl rfl (h_ld tk hH 0 rfl rfl rfl) ?_
              obtain ⟨c70, hc71, H69⟩ := lt_ex H62
              refine wpo_z rfl rfl (h_st tk hH 1 rfl ty26 (by simp) rfl rfl (.of_eq rfl) (b := (e_api_Msg s45)) (enc26.flat _) rfl (Nat.le_of_ble_eq_true rfl) (c_api_Msg c70) (by rw [← hc71]; rfl)) fun τ hH => ?_
              refine wpo_nil ?_
              refine awp_ret ?_
              obtain rfl := Option.some.inj H69
              exact ⟨_, (e_api_Msg c70), (ares_1 (ares_cell hH 1 rfl rfl rfl)), (.of_eq rfl), .of_eq (enc26.cut _ _ _), ((hH.noT.drop n6).drop n2)⟩
          · refine awp_region rfl ?_
            refine wpo_mv (a := (.fptr (c_api_Msg x0) 0)) rfl rfl rfl (o_c tk false rfl (fun _ => rfl)) ?_
            refine wpo_mv (a := (eI x0.Kind)) rfl rfl rfl (o_ld tk rfl rfl) ?_
            refine wpo_lt hs56 eB rfl rfl rfl (o_ar tk rfl rfl rfl) fun v59 H58 => ?_
            refine wpo_mv (a := (eB v59)) rfl rfl rfl (o_mv tk rfl (Wk.refl _)) ?_
            refine if_split H58 (fun hb H60 => ?_) (fun hb H60 => ?_)
            · subst hb
              refine wpo_mv (a := (.fptr (c_api_Msg x0) 10)) rfl rfl rfl (o_c tk false rfl (fun _ => rfl)) ?_
              refine wpo_mv (a := (eB x0.Found)) rfl rfl rfl (o_ld tk rfl rfl) ?_
              refine wpo_mv (a := (eB x0.Found)) rfl rfl rfl (o_pick_t tk rfl rfl (Wk.refl _)) ?_
              refine wpo_nil ?_
              have e := Option.some.inj H60
              subst e
              exact ⟨(wkf_cons (.of_eq rfl) (wkf_cons (.of_eq rfl) (wkf_cons (.of_eq rfl) (wkf_cons (.of_eq rfl) (wkf_nil _))))), hH⟩
            · subst hb
              refine wpo_skip rfl rfl rfl ?_
              refine wpo_skip rfl rfl rfl ?_
              refine wpo_mv (a := (eB false)) rfl rfl rfl (o_pick_f tk rfl rfl (Wk.refl _)) ?_
              refine wpo_nil ?_
              have e := Option.some.inj H60
              subst e
              exact ⟨(wkf_cons (.of_eq rfl) (wkf_cons (.of_eq rfl) (wkf_cons (.of_eq rfl) (wkf_cons (.of_eq rfl) (wkf_nil _))))), hH⟩
        · refine awp_if hs47 rfl (fun H49 => ?_) (fun H49 => ?_)
          · refine awp_region rfl ?_
            refine wpo_mv (a := (.fptr (c_api_Msg x0) 10)) rfl rfl rfl (o_c tk false rfl (fun _ => rfl)) ?_
            refine wpo_mv (a := (eB x0.Found)) rfl rfl rfl (o_ld tk rfl rfl) ?_
            refine wpo_mv (a := (.ref id5 10)) rfl rfl rfl (o_c tk false rfl (fun _ => rfl)) ?_
            obtain ⟨c51, hc52, H50⟩ := lt_ex H49
            refine wpo_z rfl rfl (h_st tk hH 0 rfl ty4 (by simp) rfl rfl (.of_eq rfl) (b := (eB x0.Found)) rfl rfl (Nat.le_of_ble_eq_true rfl) (c_api_Msg c51) (by rw [← hc52]; rfl)) fun τ hH => ?_
            refine wpo_nil ?_
            have e := Option.some.inj H50
            subst e
            exact ⟨(wkf_cons (.of_eq rfl) (wkf_cons (.of_eq rfl) (wkf_cons (.of_eq rfl) (wkf_nil _)))), hH⟩
          · refine awp_skip ?_
            have e := Option.some.inj H49
            subst e
            exact ⟨(wkf_cons (.of_eq rfl) (wkf_cons (.of_eq rfl) (wkf_cons (.of_eq rfl) (wkf_nil _)))), hH⟩
      · refine awp_if hs36 rfl (fun H38 => ?_) (fun H38 => ?_)
        · refine awp_region rfl ?_
          refine wpo_mv (a := (.fptr (c_api_Msg x0) 5)) rfl rfl rfl (o_c tk false rfl (fun _ => rfl)) ?_
          refine wpo_mv (a := (.fptr (c_api_Msg x0) 7)) rfl rfl rfl (o_c tk false rfl (fun _ => rfl)) ?_
          refine wpo_mv (a := (eI x0.X.AsOf)) rfl rfl rfl (o_ld tk rfl rfl) ?_
          refine wpo_mv (a := (.ref id5 5)) rfl rfl rfl (o_c tk false rfl (fun _ => rfl)) ?_
          refine wpo_mv (a := (.ref id5 7)) rfl rfl rfl (o_c tk false rfl (fun _ => rfl)) ?_
          obtain ⟨c40, hc41, H39⟩ := lt_ex H38
          refine wpo_z rfl rfl (h_st tk hH 0 rfl ty3 (by simp) rfl rfl (.of_eq rfl) (b := (eI x0.X.AsOf)) rfl rfl (Nat.le_of_ble_eq_true rfl) (c_api_Msg c40) (by rw [← hc41]; rfl)) fun τ hH => ?_
          refine wpo_nil ?_
          have e := Option.some.inj H39
          subst e
          exact ⟨(wkf_cons (.of_eq rfl) (wkf_cons (.of_eq rfl) (wkf_cons (.of_eq rfl) (wkf_nil _)))), hH⟩
        · refine awp_skip ?_
          have e := Option.some.inj H38
          subst e
          exact ⟨(wkf_cons (.of_eq rfl) (wkf_cons (.of_eq rfl) (wkf_cons (.of_eq rfl) (wkf_nil _)))), hH⟩
    · refine awp_if hs25 rfl (fun H27 => ?_) (fun H27 => ?_)
      · refine awp_region rfl ?_
        refine wpo_mv (a := (.fptr (c_api_Msg x0) 5)) rfl rfl rfl (o_c tk false rfl (fun _ => rfl)) ?_
        refine wpo_mv (a := (.fptr (c_api_Msg x0) 5)) rfl rfl rfl (o_c tk false rfl (fun _ => rfl)) ?_
        refine wpo_mv (a := (eS x0.X.Key)) rfl rfl rfl (o_ld tk rfl rfl) ?_
        refine wpo_mv (a := (.ref id5 5)) rfl rfl rfl (o_c tk false rfl (fun _ => rfl)) ?_
        refine wpo_mv (a := (.ref id5 5)) rfl rfl rfl (o_c tk false rfl (fun _ => rfl)) ?_
        obtain ⟨c29, hc30, H28⟩ := lt_ex H27
        refine wpo_z rfl rfl (h_st tk hH 0 rfl ty9 (by simp) rfl rfl (.of_eq rfl) (b := (eS x0.X.Key)) rfl rfl (Nat.le_of_ble_eq_true rfl) (c_api_Msg c29) (by rw [← hc30]; rfl)) fun τ hH => ?_
        refine wpo_nil ?_
        have e := Option.some.inj H28
        subst e
        exact ⟨(wkf_cons (.of_eq rfl) (wkf_cons (.of_eq rfl) (wkf_cons (.of_eq rfl) (wkf_nil _)))), hH⟩
      · refine awp_skip ?_
        have e := Option.some.inj H27
        subst e
        exact ⟨(wkf_cons (.of_eq rfl) (wkf_cons (.of_eq rfl) (wkf_cons (.of_eq rfl) (wkf_nil _)))), hH⟩
  · refine awp_if hs14 rfl (fun H16 => ?_) (fun H16 => ?_)
    · refine awp_region rfl ?_
      refine wpo_mv (a := (.fptr (c_api_Msg x0) 4)) rfl rfl rfl (o_c tk false rfl (fun _ => rfl)) ?_
      refine wpo_mv (a := (eI x0.Id)) rfl rfl rfl (o_ld tk rfl rfl) ?_
      refine wpo_mv (a := (.ref id5 4)) rfl rfl rfl (o_c tk false rfl (fun _ => rfl)) ?_
      obtain ⟨c18, hc19, H17⟩ := lt_ex H16
      refine wpo_z rfl rfl (h_st tk hH 0 rfl ty3 (by simp) rfl rfl (.of_eq rfl) (b := (eI x0.Id)) rfl rfl (Nat.le_of_ble_eq_true rfl) (c_api_Msg c18) (by rw [← hc19]; rfl)) fun τ hH => ?_
      refine wpo_nil ?_
      have e := Option.some.inj H17
      subst e
      exact ⟨(wkf_cons (.of_eq rfl) (wkf_cons (.of_eq rfl) (wkf_cons (.of_eq rfl) (wkf_nil _)))), hH⟩
    · refine awp_skip ?_
      have e := Option.some.inj H16
      subst e
      exact ⟨(wkf_cons (.of_eq rfl) (wkf_cons (.of_eq rfl) (wkf_cons (.of_eq rfl) (wkf_nil _)))), hH⟩
end Go.Proofs.YthkfilchighbhaaDoor
namespace Go.Proofs.YthkfilchighbhaaDoor
open Go Go.Va
set_option linter.unusedVariables false
set_option linter.unusedSimpArgs false
set_option maxRecDepth 20000
theorem butteryref23_Check_ok {x0 : api_Msg} {r : Int} (H : butteryref23_Check x0 = some r) (σ : St)  : ACall Tryd.prog 14 [(e_api_Msg x0)] σ (fun a τ => a = eI r ∧ τ = σ) := by
  unfold butteryref23_Check at H
  refine ACall.pure (acall_start tk Tryd.func14 (by decide) rfl (Nat.le_of_ble_eq_true rfl) ?_)
  have hH := Holds.init σ
  refine awp_seq ?_
  refine awp_region rfl ?_
  refine wpo_mv (a := (.fptr (c_api_Msg x0) 0)) rfl rfl rfl (o_boxf tk rfl (.of_eq rfl) (b := (e_api_Msg x0)) (enc26.flat _)) ?_
  refine wpo_mv (a := (eI (0 : Int))) rfl rfl rfl (o_as tk rfl (Wk.refl _)) ?_
  refine wpo_nil ?_
  refine awp_seq ?_
  refine awp_seq ?_
  obtain ⟨s1, hs3, hj4⟩ := Option.bind_eq_some_iff.1 H
  refine awp_cutn (fun fr τ => WkF fr (fm [(1, (.fptr (c_api_Msg x0) 0)), (13, (eB s1))]) ∧ Holds σ [] [] τ) ?_ ?_
  · rintro fr τ ⟨hfr, hH⟩
    have H10 := hj4
    refine AWP.fm [(1, (.fptr (c_api_Msg x0) 0)), (13, (eB s1))] hfr ?_
    refine awp_if H10 rfl (fun H11 => ?_) (fun H11 => ?_)
    · refine awp_seq ?_
      refine awp_region rfl ?_
      refine wpo_mv (a := (eI (12 : Int))) rfl rfl rfl (o_as tk rfl (Wk.refl _)) ?_
      refine wpo_nil ?_
      refine awp_ret ?_
      obtain rfl := Option.some.inj H11
      exact ⟨_, (eI (12 : Int)), rfl, (.of_eq rfl), .of_eq ((enc_i64 td33 sz33).cut _ _ _), hH.noT⟩
    · refine awp_skip ?_
      refine awp_seq ?_
      refine awp_region rfl ?_
      refine wpo_mv (a := (.fptr (c_api_Msg x0) 1)) rfl rfl rfl (o_c tk false rfl (fun _ => rfl)) ?_
      refine wpo_mv (a := (eI x0.From)) rfl rfl rfl (o_ld tk rfl rfl) ?_
      refine wpo_mv (a := (eI x0.From)) rfl rfl rfl (o_as tk rfl (Wk.refl _)) ?_
      refine wpo_nil ?_
      refine awp_seq ?_
      refine awp_region rfl ?_
      refine wpo_mv (a := (.fptr (c_api_Msg x0) 2)) rfl rfl rfl (o_c tk false rfl (fun _ => rfl)) ?_
      refine wpo_mv (a := (eI x0.To)) rfl rfl rfl (o_ld tk rfl rfl) ?_
      refine wpo_mv (a := (eI x0.To)) rfl rfl rfl (o_as tk rfl (Wk.refl _)) ?_
      refine wpo_nil ?_
      refine awp_seq ?_
      refine awp_seq ?_
      obtain ⟨s12, hs14, hj15⟩ := Option.bind_eq_some_iff.1 H11
      refine awp_cutn (fun fr τ => WkF fr (fm [(1, (.fptr (c_api_Msg x0) 0)), (3, (eI x0.From)), (4, (eI x0.To)), (30, (eB s12))]) ∧ Holds σ [] [] τ) ?_ ?_
      · rintro fr τ ⟨hfr, hH⟩
        have H24 := hj15
        refine AWP.fm [(1, (.fptr (c_api_Msg x0) 0)), (3, (eI x0.From)), (4, (eI x0.To)), (30, (eB s12))] hfr ?_
        obtain ⟨s25, hs27, hj28⟩ := Option.bind_eq_some_iff.1 H24
        refine awp_cutn (fun fr τ => WkF fr (fm [(1, (.fptr (c_api_Msg x0) 0)), (3, (eI s25.1)), (4, (eI s25.2))]) ∧ Holds σ [] [] τ) ?_ ?_
        · rintro fr τ ⟨hfr, hH⟩
          have H30 := hj28
          refine AWP.fm [(1, (.fptr (c_api_Msg x0) 0)), (3, (eI s25.1)), (4, (eI s25.2))] hfr ?_
          refine awp_seq ?_
          refine awp_seq ?_
          obtain ⟨s31, hs33, hj34⟩ := Option.bind_eq_some_iff.1 H30
          refine awp_cutn (fun fr τ => WkF fr (fm [(1, (.fptr (c_api_Msg x0) 0)), (54, (eB s31))]) ∧ Holds σ [] [] τ) ?_ ?_
          · rintro fr τ ⟨hfr, hH⟩
            have H49 := hj34
            refine AWP.fm [(1, (.fptr (c_api_Msg x0) 0)), (54, (eB s31))] hfr ?_
            refine awp_if H49 rfl (fun H50 => ?_) (fun H50 => ?_)
            · refine awp_seq ?_
              refine awp_region rfl ?_
              refine wpo_mv (a := (eI (2 : Int))) rfl rfl rfl (o_as tk rfl (Wk.refl _)) ?_
              refine wpo_nil ?_
              refine awp_ret ?_
              obtain rfl := Option.some.inj H50
              exact ⟨_, (eI (2 : Int)), rfl, (.of_eq rfl), .of_eq ((enc_i64 td33 sz33).cut _ _ _), hH.noT⟩
            · refine awp_skip ?_
              refine awp_seq ?_
              refine awp_seq ?_
              refine awp_region rfl ?_
              refine wpo_mv (a := (e_api_Msg x0)) rfl rfl rfl (o_ld tk rfl rfl) ?_
              refine wpo_bd H50 eI rfl rfl rfl (fun v52 hv => OpP.of_call rfl rfl (.cons (.of_eq rfl) .nil) (butteryref23_fields_ok hv)) fun v52 hv52 H51 => ?_
              refine wpo_mv (a := (eI v52)) rfl rfl rfl (o_as tk rfl (Wk.refl _)) ?_
              refine wpo_nil ?_
              refine awp_seq ?_
              refine awp_region rfl ?_
              refine wpo_mv (a := (eI v52)) rfl rfl rfl (o_mv tk rfl (Wk.refl _)) ?_
              refine wpo_lt H51 eB rfl rfl rfl (o_ar tk rfl rfl rfl) fun v54 H53 => ?_
              refine wpo_nil ?_
              refine awp_if H53 rfl (fun H55 => ?_) (fun H55 => ?_)
              · refine awp_seq ?_
                refine awp_region rfl ?_
                refine wpo_mv (a := (eI v52)) rfl rfl rfl (o_mv tk rfl (Wk.refl _)) ?_
                refine wpo_mv (a := (eI v52)) rfl rfl rfl (o_as tk rfl (Wk.refl _)) ?_
                refine wpo_nil ?_
                refine awp_ret ?_
                obtain rfl := Option.some.inj H55
                exact ⟨_, (eI v52), rfl, (.of_eq rfl), .of_eq ((enc_i64 td33 sz33).cut _ _ _), hH.noT⟩
              · refine awp_skip ?_
                refine awp_seq ?_
                refine awp_seq ?_
                refine awp_drawS mixed [] rfl (by decide +kernel) rfl rfl ?_
                refine wpdS_mv (a := (e_api_Msg x0)) rfl rfl rfl (o_ld tk rfl rfl) ?_
                refine wpdS_mv (a := (e_api_Msg x0)) rfl rfl rfl (o_ld tk rfl rfl) ?_
                refine wpdS_bd H55 e_api_Msg rfl rfl rfl (fun v57 hv => OpP.of_call rfl rfl (.cons (.of_eq rfl) .nil) (butteryref23_only_ok hv)) fun v57 hv57 H56 => ?_
                refine wpdS_bd H56 eB rfl rfl rfl (fun v59 hv => OpP.of_call rfl rfl (.cons (.of_eq rfl) (.cons (.of_eq rfl) .nil)) (butteryref23_Same_ok hv)) fun v59 hv59 H58 => ?_
                refine wpdS_lt H58 eB rfl rfl rfl (o_un tk rfl rfl) fun v61 H60 => ?_
                refine wpdS_nil ?_
                refine awp_if H60 rfl (fun H62 => ?_) (fun H62 => ?_)
                · refine awp_seq ?_
                  refine awp_region rfl ?_
                  refine wpo_mv (a := (eI (5 : Int))) rfl rfl rfl (o_as tk rfl (Wk.refl _)) ?_
                  refine wpo_nil ?_
                  refine awp_ret ?_
                  obtain rfl := Option.some.inj H62
                  exact ⟨_, (eI (5 : Int)), rfl, (.of_eq rfl), .of_eq ((enc_i64 td33 sz33).cut _ _ _), hH.noT⟩
                · refine awp_skip ?_
                  refine awp_seq ?_
                  refine awp_region rfl ?_
                  refine wpo_mv (a := (eI (0 : Int))) rfl rfl rfl (o_as tk rfl (Wk.refl _)) ?_
                  refine wpo_nil ?_
                  refine awp_ret ?_
                  obtain rfl := Option.some.inj H62
                  exact ⟨_, (eI (0 : Int)), rfl, (.of_eq rfl), .of_eq ((enc_i64 td33 sz33).cut _ _ _), hH.noT⟩
          · refine awp_region rfl ?_
            refine wpo_mv (a := (eI s25.1)) rfl rfl rfl (o_mv tk rfl (Wk.refl _)) ?_
            refine wpo_lt hs33 eB rfl rfl rfl (o_ar tk rfl rfl rfl) fun v36 H35 => ?_
            refine wpo_mv (a := (eB v36)) rfl rfl rfl (o_mv tk rfl (Wk.refl _)) ?_
            refine if_split H35 (fun hb H37 => ?_) (fun hb H37 => ?_)
            · subst hb
              refine wpo_skip rfl rfl rfl ?_
              refine wpo_skip rfl rfl rfl ?_
              refine wpo_mv (a := (eB true)) rfl rfl rfl (o_pick_t tk rfl rfl (Wk.refl _)) ?_
              refine wpo_mv (a := (eB true)) rfl rfl rfl (o_mv tk rfl (Wk.refl _)) ?_
              refine wpo_skip rfl rfl rfl ?_
              refine wpo_skip rfl rfl rfl ?_
              refine wpo_mv (a := (eB true)) rfl rfl rfl (o_pick_t tk rfl rfl (Wk.refl _)) ?_
              refine wpo_mv (a := (eB true)) rfl rfl rfl (o_mv tk rfl (Wk.refl _)) ?_
              refine wpo_skip rfl rfl rfl ?_
              refine wpo_skip rfl rfl rfl ?_
              refine wpo_skip rfl rfl rfl ?_
              refine wpo_mv (a := (eB true)) rfl rfl rfl (o_pick_t tk rfl rfl (Wk.refl _)) ?_
              refine wpo_mv (a := (eB true)) rfl rfl rfl (o_mv tk rfl (Wk.refl _)) ?_
              refine wpo_skip rfl rfl rfl ?_
              refine wpo_skip rfl rfl rfl ?_
              refine wpo_skip rfl rfl rfl ?_
              refine wpo_mv (a := (eB true)) rfl rfl rfl (o_pick_t tk rfl rfl (Wk.refl _)) ?_
              refine wpo_nil ?_
              have e := Option.some.inj H37
              subst e
              exact ⟨(wkf_cons (.of_eq rfl) (wkf_cons (.of_eq rfl) (wkf_nil _))), hH⟩
            · subst hb
              refine wpo_mv (a := (eI s25.1)) rfl rfl rfl (o_mv tk rfl (Wk.refl _)) ?_
              refine wpo_lt H37 eB rfl rfl rfl (o_ar tk rfl rfl rfl) fun v39 H38 => ?_
              refine wpo_mv (a := (eB v39)) rfl rfl rfl (o_pick_f tk rfl rfl (Wk.refl _)) ?_
              refine wpo_mv (a := (eB v39)) rfl rfl rfl (o_mv tk rfl (Wk.refl _)) ?_
              refine if_split H38 (fun hb H40 => ?_) (fun hb H40 => ?_)
              · subst hb
                refine wpo_skip rfl rfl rfl ?_
                refine wpo_skip rfl rfl rfl ?_
                refine wpo_mv (a := (eB true)) rfl rfl rfl (o_pick_t tk rfl rfl (Wk.refl _)) ?_
                refine wpo_mv (a := (eB true)) rfl rfl rfl (o_mv tk rfl (Wk.refl _)) ?_
                refine wpo_skip rfl rfl rfl ?_
                refine wpo_skip rfl rfl rfl ?_
                refine wpo_skip rfl rfl rfl ?_
                refine wpo_mv (a := (eB true)) rfl rfl rfl (o_pick_t tk rfl rfl (Wk.refl _)) ?_
                refine wpo_mv (a := (eB true)) rfl rfl rfl (o_mv tk rfl (Wk.refl _)) ?_
                refine wpo_skip rfl rfl rfl ?_
                refine wpo_skip rfl rfl rfl ?_
                refine wpo_skip rfl rfl rfl ?_
                refine wpo_mv (a := (eB true)) rfl rfl rfl (o_pick_t tk rfl rfl (Wk.refl _)) ?_
                refine wpo_nil ?_
                have e := Option.some.inj H40
                subst e
                exact ⟨(wkf_cons (.of_eq rfl) (wkf_cons (.of_eq rfl) (wkf_nil _))), hH⟩
              · subst hb
                refine wpo_mv (a := (eI s25.2)) rfl rfl rfl (o_mv tk rfl (Wk.refl _)) ?_
                refine wpo_lt H40 eB rfl rfl rfl (o_ar tk rfl rfl rfl) fun v42 H41 => ?_
                refine wpo_mv (a := (eB v42)) rfl rfl rfl (o_pick_f tk rfl rfl (Wk.refl _)) ?_
                refine wpo_mv (a := (eB v42)) rfl rfl rfl (o_mv tk rfl (Wk.refl _)) ?_
                refine if_split H41 (fun hb H43 => ?_) (fun hb H43 => ?_)
                · subst hb
                  refine wpo_skip rfl rfl rfl ?_
                  refine wpo_skip rfl rfl rfl ?_
                  refine wpo_skip rfl rfl rfl ?_
                  refine wpo_mv (a := (eB true)) rfl rfl rfl (o_pick_t tk rfl rfl (Wk.refl _)) ?_
                  refine wpo_mv (a := (eB true)) rfl rfl rfl (o_mv tk rfl (Wk.refl _)) ?_
                  refine wpo_skip rfl rfl rfl ?_
                  refine wpo_skip rfl rfl rfl ?_
                  refine wpo_skip rfl rfl rfl ?_
                  refine wpo_mv (a := (eB true)) rfl rfl rfl (o_pick_t tk rfl rfl (Wk.refl _)) ?_
                  refine wpo_nil ?_
                  have e := Option.some.inj H43
                  subst e
                  exact ⟨(wkf_cons (.of_eq rfl) (wkf_cons (.of_eq rfl) (wkf_nil _))), hH⟩
                · subst hb
                  refine wpo_mv (a := (.fptr (c_api_Msg x0) 3)) rfl rfl rfl (o_c tk false rfl (fun _ => rfl)) ?_
                  refine wpo_mv (a := (eI x0.Epoch)) rfl rfl rfl (o_ld tk rfl rfl) ?_
                  refine wpo_lt H43 eB rfl rfl rfl (o_ar tk rfl rfl rfl) fun v45 H44 => ?_
                  refine wpo_mv (a := (eB v45)) rfl rfl rfl (o_pick_f tk rfl rfl (Wk.refl _)) ?_
                  refine wpo_mv (a := (eB v45)) rfl rfl rfl (o_mv tk rfl (Wk.refl _)) ?_
                  refine if_split H44 (fun hb H46 => ?_) (fun hb H46 => ?_)
                  · subst hb
                    refine wpo_skip rfl rfl rfl ?_
                    refine wpo_skip rfl rfl rfl ?_
                    refine wpo_skip rfl rfl rfl ?_
                    refine wpo_mv (a := (eB true)) rfl rfl rfl (o_pick_t tk rfl rfl (Wk.refl _)) ?_
                    refine wpo_nil ?_
                    have e := Option.some.inj H46
                    subst e
                    exact ⟨(wkf_cons (.of_eq rfl) (wkf_cons (.of_eq rfl) (wkf_nil _))), hH⟩
                  · subst hb
                    refine wpo_mv (a := (.fptr (c_api_Msg x0) 3)) rfl rfl rfl (o_c tk false rfl (fun _ => rfl)) ?_
                    refine wpo_mv (a := (eI x0.Epoch)) rfl rfl rfl (o_ld tk rfl rfl) ?_
                    refine wpo_lt H46 eB rfl rfl rfl (o_ar tk rfl rfl rfl) fun v48 H47 => ?_
                    refine wpo_mv (a := (eB v48)) rfl rfl rfl (o_pick_f tk rfl rfl (Wk.refl _)) ?_
                    refine wpo_nil ?_
                    have e := Option.some.inj H47
                    subst e
                    exact ⟨(wkf_cons (.of_eq rfl) (wkf_cons (.of_eq rfl) (wkf_nil _))), hH⟩
        · refine awp_if hs27 rfl (fun H29 => ?_) (fun H29 => ?_)
          · refine awp_seq ?_
            refine awp_region rfl ?_
            refine wpo_mv (a := (.fptr (c_api_Msg x0) 2)) rfl rfl rfl (o_c tk false rfl (fun _ => rfl)) ?_
            refine wpo_mv (a := (eI x0.To)) rfl rfl rfl (o_ld tk rfl rfl) ?_
            refine wpo_mv (a := (eI x0.To)) rfl rfl rfl (o_as tk rfl (Wk.refl _)) ?_
            refine wpo_nil ?_
            refine awp_region rfl ?_
            refine wpo_mv (a := (.fptr (c_api_Msg x0) 1)) rfl rfl rfl (o_c tk false rfl (fun _ => rfl)) ?_
            refine wpo_mv (a := (eI x0.From)) rfl rfl rfl (o_ld tk rfl rfl) ?_
            refine wpo_mv (a := (eI x0.From)) rfl rfl rfl (o_as tk rfl (Wk.refl _)) ?_
            refine wpo_nil ?_
            have e := Option.some.inj H29
            subst e
            exact ⟨(wkf_cons (.of_eq rfl) (wkf_cons (.of_eq rfl) (wkf_cons (.of_eq rfl) (wkf_nil _)))), hH⟩
          · refine awp_skip ?_
            have e := Option.some.inj H29
            subst e
            exact ⟨(wkf_cons (.of_eq rfl) (wkf_cons (.of_eq rfl) (wkf_cons (.of_eq rfl) (wkf_nil _)))), hH⟩
      · refine awp_region rfl ?_
        refine wpo_mv (a := (.fptr (c_api_Msg x0) 0)) rfl rfl rfl (o_c tk false rfl (fun _ => rfl)) ?_
        refine wpo_mv (a := (eI x0.Kind)) rfl rfl rfl (o_ld tk rfl rfl) ?_
        refine wpo_lt hs14 eB rfl rfl rfl (o_ar tk rfl rfl rfl) fun v17 H16 => ?_
        refine wpo_mv (a := (eB v17)) rfl rfl rfl (o_mv tk rfl (Wk.refl _)) ?_
        refine if_split H16 (fun hb H18 => ?_) (fun hb H18 => ?_)
        · subst hb
          refine wpo_skip rfl rfl rfl ?_
          refine wpo_skip rfl rfl rfl ?_
          refine wpo_skip rfl rfl rfl ?_
          refine wpo_mv (a := (eB true)) rfl rfl rfl (o_pick_t tk rfl rfl (Wk.refl _)) ?_
          refine wpo_mv (a := (eB true)) rfl rfl rfl (o_mv tk rfl (Wk.refl _)) ?_
          refine wpo_skip rfl rfl rfl ?_
          refine wpo_skip rfl rfl rfl ?_
          refine wpo_skip rfl rfl rfl ?_
          refine wpo_mv (a := (eB true)) rfl rfl rfl (o_pick_t tk rfl rfl (Wk.refl _)) ?_
          refine wpo_nil ?_
          have e := Option.some.inj H18
          subst e
          exact ⟨(wkf_cons (.of_eq rfl) (wkf_cons (.of_eq rfl) (wkf_cons (.of_eq rfl) (wkf_cons (.of_eq rfl) (wkf_nil _))))), hH⟩
        · subst hb
          refine wpo_mv (a := (.fptr (c_api_Msg x0) 0)) rfl rfl rfl (o_c tk false rfl (fun _ => rfl)) ?_
          refine wpo_mv (a := (eI x0.Kind)) rfl rfl rfl (o_ld tk rfl rfl) ?_
          refine wpo_lt H18 eB rfl rfl rfl (o_ar tk rfl rfl rfl) fun v20 H19 => ?_
          refine wpo_mv (a := (eB v20)) rfl rfl rfl (o_pick_f tk rfl rfl (Wk.refl _)) ?_
          refine wpo_mv (a := (eB v20)) rfl rfl rfl (o_mv tk rfl (Wk.refl _)) ?_
          refine if_split H19 (fun hb H21 => ?_) (fun hb H21 => ?_)
          · subst hb
            refine wpo_skip rfl rfl rfl ?_
            refine wpo_skip rfl rfl rfl ?_
            refine wpo_skip rfl rfl rfl ?_
            refine wpo_mv (a := (eB true)) rfl rfl rfl (o_pick_t tk rfl rfl (Wk.refl _)) ?_
            refine wpo_nil ?_
            have e := Option.some.inj H21
            subst e
            exact ⟨(wkf_cons (.of_eq rfl) (wkf_cons (.of_eq rfl) (wkf_cons (.of_eq rfl) (wkf_cons (.of_eq rfl) (wkf_nil _))))), hH⟩
          · subst hb
            refine wpo_mv (a := (.fptr (c_api_Msg x0) 0)) rfl rfl rfl (o_c tk false rfl (fun _ => rfl)) ?_
            refine wpo_mv (a := (eI x0.Kind)) rfl rfl rfl (o_ld tk rfl rfl) ?_
            refine wpo_lt H21 eB rfl rfl rfl (o_ar tk rfl rfl rfl) fun v23 H22 => ?_
            refine wpo_mv (a := (eB v23)) rfl rfl rfl (o_pick_f tk rfl rfl (Wk.refl _)) ?_
            refine wpo_nil ?_
            have e := Option.some.inj H22
            subst e
            exact ⟨(wkf_cons (.of_eq rfl) (wkf_cons (.of_eq rfl) (wkf_cons (.of_eq rfl) (wkf_cons (.of_eq rfl) (wkf_nil _))))), hH⟩
  · refine awp_region rfl ?_
    refine wpo_mv (a := (.fptr (c_api_Msg x0) 0)) rfl rfl rfl (o_c tk false rfl (fun _ => rfl)) ?_
    refine wpo_mv (a := (eI x0.Kind)) rfl rfl rfl (o_ld tk rfl rfl) ?_
    refine wpo_lt hs3 eB rfl rfl rfl (o_ar tk rfl rfl rfl) fun v6 H5 => ?_
    refine wpo_mv (a := (eB v6)) rfl rfl rfl (o_mv tk rfl (Wk.refl _)) ?_
    refine if_split H5 (fun hb H7 => ?_) (fun hb H7 => ?_)
    · subst hb
      refine wpo_skip rfl rfl rfl ?_
      refine wpo_skip rfl rfl rfl ?_
      refine wpo_skip rfl rfl rfl ?_
      refine wpo_mv (a := (eB true)) rfl rfl rfl (o_pick_t tk rfl rfl (Wk.refl _)) ?_
      refine wpo_nil ?_
      have e := Option.some.inj H7
      subst e
      exact ⟨(wkf_cons (.of_eq rfl) (wkf_cons (.of_eq rfl) (wkf_nil _))), hH⟩
    · subst hb
      refine wpo_mv (a := (.fptr (c_api_Msg x0) 0)) rfl rfl rfl (o_c tk false rfl (fun _ => rfl)) ?_
      refine wpo_mv (a := (eI x0.Kind)) rfl rfl rfl (o_ld tk rfl rfl) ?_
      refine wpo_lt H7 eB rfl rfl rfl (o_ar tk rfl rfl rfl) fun v9 H8 => ?_
      refine wpo_mv (a := (eB v9)) rfl rfl rfl (o_pick_f tk rfl rfl (Wk.refl _)) ?_
      refine wpo_nil ?_
      have e := Option.some.inj H8
      subst e
      exact ⟨(wkf_cons (.of_eq rfl) (wkf_cons (.of_eq rfl) (wkf_nil _))), hH⟩
end Go.Proofs.YthkfilchighbhaaDoor
namespace Go.Proofs.YthkfilchighbhaaDoor
open Go Go.Va
set_option linter.unusedVariables false
set_option linter.unusedSimpArgs false
set_option maxRecDepth 20000
theorem butteryref03_Sum_ok {x0 : List (BitVec 8)} {r : (BitVec 32)} (H : butteryref03_Sum x0 = some r) (σ : St)  : ACall Tryd.prog 41 [((eL 1 (@eU .u8 8)) x0)] σ (fun a τ => a = (@eU .u32 32) r ∧ τ = σ) := by
  unfold butteryref03_Sum at H
  refine ACall.pure (acall_start tk Tryd.func41 (by decide) rfl (Nat.le_of_ble_eq_true rfl) ?_)
  have hH := Holds.init σ
  refine awp_seq ?_
  refine awp_region rfl ?_
  refine wpo_mv (a := ((@eU .u32 32) 0#32)) rfl rfl rfl (o_as tk rfl (Wk.refl _)) ?_
  refine wpo_nil ?_
  refine awp_seq ?_
  refine awp_region rfl ?_
  refine wpo_mv (a := ((@eU .u32 32) 4294967295#32)) rfl rfl rfl (o_as tk rfl (Wk.refl _)) ?_
  refine wpo_nil ?_
  refine awp_seq ?_
  refine awp_seq ?_
  refine awp_region rfl ?_
  refine wpo_mv (a := (eI (0 : Int))) rfl rfl rfl (o_as tk rfl (Wk.refl _)) ?_
  refine wpo_nil ?_
  refine awp_block ?_
  obtain ⟨s10, hs4, hj5⟩ := Option.bind_eq_some_iff.1 H
  refine awp_cutx 0 (fun fr τ => WkF fr (fm [(3, ((@eU .u32 32) s10))]) ∧ Holds σ [] [] τ) ?_ ?_
  · rintro fr τ ⟨hfr, hH⟩
    have H55 := hj5
    refine AWP.fm [(3, ((@eU .u32 32) s10))] hfr ?_
    refine awp_seq ?_
    refine awp_region rfl ?_
    refine wpo_mv (a := ((@eU .u32 32) s10)) rfl rfl rfl (o_mv tk rfl (Wk.refl _)) ?_
    refine wpo_lt H55 (@eU .u32 32) rfl rfl rfl (o_sub_u tk rfl rfl rfl) fun v57 H56 => ?_
    refine wpo_mv (a := ((@eU .u32 32) v57)) rfl rfl rfl (o_as tk rfl (Wk.refl _)) ?_
    refine wpo_nil ?_
    refine awp_ret ?_
    obtain rfl := Option.some.inj H56
    exact ⟨_, ((@eU .u32 32) v57), rfl, (.of_eq rfl), .of_eq ((enc_u td49 sz49).cut _ _ _), hH.noT⟩
  · refine awp_loopO (body := fun s => butteryref03_Sum_b0 x0 s.1 s.2) hs4 (fun (s : (BitVec 32) × Int) fr τ => WkF fr (fm [(0, ((eL 1 (@eU .u8 8)) x0)), (3, ((@eU .u32 32) s.1)), (4, (eI s.2))]) ∧ Holds σ [] [] τ) ⟨(wkf_cons (.of_eq rfl) (wkf_cons (.of_eq rfl) (wkf_cons (.of_eq rfl) (wkf_nil _)))), hH⟩ ?_
    rintro ⟨c1, c2⟩ fr τ y6 ⟨hfr, hH⟩ hb8 hy9
    have H11 : butteryref03_Sum_b0 x0 c1 c2 = some y6 := hb8
    unfold butteryref03_Sum_b0 at H11
    refine AWP.fm [(0, ((eL 1 (@eU .u8 8)) x0)), (3, ((@eU .u32 32) c1)), (4, (eI c2))] hfr ?_
    have hH : Holds σ [] [] τ := hH
    refine awp_seq ?_
    refine awp_seq ?_
    refine awp_region rfl ?_
    refine wpo_mv (a := (eI c2)) rfl rfl rfl (o_mv tk rfl (Wk.refl _)) ?_
    refine wpo_mv (a := ((eL 1 (@eU .u8 8)) x0)) rfl rfl rfl (o_mv tk rfl (Wk.refl _)) ?_
    refine wpo_lt H11 eI rfl rfl rfl (o_len tk td22 rfl) fun v13 H12 => ?_
    refine wpo_lt H12 eB rfl rfl rfl (o_ar tk rfl rfl rfl) fun v15 H14 => ?_
    refine wpo_nil ?_
    refine awp_if H14 rfl (fun H16 => ?_) (fun H16 => ?_)
    · refine awp_skip ?_
      refine awp_seq ?_
      refine awp_block ?_
      refine awp_seq ?_
      refine awp_region rfl ?_
      refine wpo_mv (a := (eI (0 : Int))) rfl rfl rfl (o_as tk rfl (Wk.refl _)) ?_
      refine wpo_nil ?_
      refine awp_block ?_
      obtain ⟨s26, hs20, hj21⟩ := Option.bind_eq_some_iff.1 H16
      refine awp_cutx 2 (fun fr τ => WkF fr (fm [(0, ((eL 1 (@eU .u8 8)) x0)), (3, ((@eU .u32 32) s26)), (4, (eI c2))]) ∧ Holds σ [] [] τ) ?_ ?_
      · rintro fr τ ⟨hfr, hH⟩
        have H52 := hj21
        refine AWP.fm [(0, ((eL 1 (@eU .u8 8)) x0)), (3, ((@eU .u32 32) s26)), (4, (eI c2))] hfr ?_
        refine awp_region rfl ?_
        refine wpo_mv (a := (eI c2)) rfl rfl rfl (o_mv tk rfl (Wk.refl _)) ?_
        refine wpo_lt H52 eI rfl rfl rfl (o_ar tk rfl rfl rfl) fun v54 H53 => ?_
        refine wpo_mv (a := (eI v54)) rfl rfl rfl (o_as tk rfl (Wk.refl _)) ?_
        refine wpo_nil ?_
        exact ⟨(s26, v54), inj_inl H53, (wkf_cons (.of_eq rfl) (wkf_cons (.of_eq rfl) (wkf_cons (.of_eq rfl) (wkf_nil _)))), hH⟩
      · refine awp_loopO (body := fun s => butteryref03_Sum_b1 x0 c2 s.1 s.2) hs20 (fun (s : (BitVec 32) × Int) fr τ => WkF fr (fm [(0, ((eL 1 (@eU .u8 8)) x0)), (3, ((@eU .u32 32) s.1)), (4, (eI c2)), (5, (eI s.2))]) ∧ Holds σ [] [] τ) ⟨(wkf_cons (.of_eq rfl) (wkf_cons (.of_eq rfl) (wkf_cons (.of_eq rfl) (wkf_cons (.of_eq rfl) (wkf_nil _))))), hH⟩ ?_
        rintro ⟨c17, c18⟩ fr τ y22 ⟨hfr, hH⟩ hb24 hy25
        have H27 : butteryref03_Sum_b1 x0 c2 c17 c18 = some y22 := hb24
        unfold butteryref03_Sum_b1 at H27
        refine AWP.fm [(0, ((eL 1 (@eU .u8 8)) x0)), (3, ((@eU .u32 32) c17)), (4, (eI c2)), (5, (eI c18))] hfr ?_
        have hH : Holds σ [] [] τ := hH
        refine awp_seq ?_
        refine awp_seq ?_
        refine awp_region rfl ?_
        refine wpo_mv (a := (eI c18)) rfl rfl rfl (o_mv tk rfl (Wk.refl _)) ?_
        refine wpo_lt H27 eB rfl rfl rfl (o_ar tk rfl rfl rfl) fun v29 H28 => ?_
        refine wpo_nil ?_
        refine awp_if H28 rfl (fun H30 => ?_) (fun H30 => ?_)
        · refine awp_skip ?_
          refine awp_seq ?_
          refine awp_block ?_
          refine awp_seq ?_
          refine awp_region rfl ?_
          refine wpo_mv (a := ((eL 1 (@eU .u8 8)) x0)) rfl rfl rfl (o_mv tk rfl (Wk.refl _)) ?_
          refine wpo_mv (a := (eI c2)) rfl rfl rfl (o_mv tk rfl (Wk.refl _)) ?_
          refine wpo_bd H30 (fun y => .fptr ((@eU .u8 8) y).cells 0) rfl rfl rfl (fun v32 hv => o_ixa tk hv td22 (enc_u td5 sz5) rfl rfl) fun v32 hv32 H31 => ?_
          refine wpo_mv (a := ((@eU .u8 8) v32)) rfl rfl rfl (o_ld_e tk (enc_u td5 sz5) rfl rfl) ?_
          refine wpo_mv (a := (eI c18)) rfl rfl rfl (o_mv tk rfl (Wk.refl _)) ?_
          refine wpo_bd H31 (@eU .u8 8) rfl rfl rfl (fun v34 hv => om_shr_u tk rfl hv rfl rfl) fun v34 hv34 H33 => ?_
          refine wpo_lt H33 (@eU .u32 32) rfl rfl rfl (o_cv_uu tk td5 td49 rfl rfl) fun v36 H35 => ?_
          refine wpo_lt H35 (@eU .u32 32) rfl rfl rfl (o_rem_u tk (k := .u32) (y := 2#32) (z := 2#32) rfl rfl rfl rfl) fun v38 H37 => ?_
          refine wpo_mv (a := ((@eU .u32 32) v38)) rfl rfl rfl (o_as tk rfl (Wk.refl _)) ?_
          refine wpo_nil ?_
          refine awp_seq ?_
          refine awp_region rfl ?_
          refine wpo_mv (a := ((@eU .u32 32) c17)) rfl rfl rfl (o_mv tk rfl (Wk.refl _)) ?_
          refine wpo_lt H37 (@eU .u32 32) rfl rfl rfl (o_rem_u tk (k := .u32) (y := 2#32) (z := 2#32) rfl rfl rfl rfl) fun v40 H39 => ?_
          refine wpo_mv (a := ((@eU .u32 32) v40)) rfl rfl rfl (o_as tk rfl (Wk.refl _)) ?_
          refine wpo_nil ?_
          refine awp_seq ?_
          refine awp_region rfl ?_
          refine wpo_mv (a := ((@eU .u32 32) c17)) rfl rfl rfl (o_mv tk rfl (Wk.refl _)) ?_
          refine wpo_lt H39 (@eU .u32 32) rfl rfl rfl (o_quo_u tk (k := .u32) (y := 2#32) (z := 2#32) rfl rfl rfl rfl) fun v42 H41 => ?_
          refine wpo_mv (a := ((@eU .u32 32) v42)) rfl rfl rfl (o_as tk rfl (Wk.refl _)) ?_
          refine wpo_nil ?_
          refine awp_seq ?_
          refine awp_region rfl ?_
          refine wpo_mv (a := ((@eU .u32 32) v38)) rfl rfl rfl (o_mv tk rfl (Wk.refl _)) ?_
          refine wpo_mv (a := ((@eU .u32 32) v40)) rfl rfl rfl (o_mv tk rfl (Wk.refl _)) ?_
          refine wpo_lt H41 eB rfl rfl rfl (o_neq_u tk rfl rfl) fun v44 H43 => ?_
          refine wpo_nil ?_
          refine awp_if H43 rfl (fun H45 => ?_) (fun H45 => ?_)
          · refine awp_region rfl ?_
            refine wpo_mv (a := ((@eU .u32 32) v42)) rfl rfl rfl (o_mv tk rfl (Wk.refl _)) ?_
            refine wpo_lt H45 (@eU .u32 32) rfl rfl rfl (o_xor_u tk rfl rfl rfl) fun v47 H46 => ?_
            refine wpo_mv (a := ((@eU .u32 32) v47)) rfl rfl rfl (o_as tk rfl (Wk.refl _)) ?_
            refine wpo_nil ?_
            refine awp_region rfl ?_
            refine wpo_mv (a := (eI c18)) rfl rfl rfl (o_mv tk rfl (Wk.refl _)) ?_
            refine wpo_lt H46 eI rfl rfl rfl (o_ar tk rfl rfl rfl) fun v49 H48 => ?_
            refine wpo_mv (a := (eI v49)) rfl rfl rfl (o_as tk rfl (Wk.refl _)) ?_
            refine wpo_nil ?_
            exact ⟨(v47, v49), inj_inl H48, (wkf_cons (.of_eq rfl) (wkf_cons (.of_eq rfl) (wkf_cons (.of_eq rfl) (wkf_cons (.of_eq rfl) (wkf_nil _))))), hH⟩
          · refine awp_skip ?_
            refine awp_region rfl ?_
            refine wpo_mv (a := (eI c18)) rfl rfl rfl (o_mv tk rfl (Wk.refl _)) ?_
            refine wpo_lt H45 eI rfl rfl rfl (o_ar tk rfl rfl rfl) fun v51 H50 => ?_
            refine wpo_mv (a := (eI v51)) rfl rfl rfl (o_as tk rfl (Wk.refl _)) ?_
            refine wpo_nil ?_
            exact ⟨(v42, v51), inj_inl H50, (wkf_cons (.of_eq rfl) (wkf_cons (.of_eq rfl) (wkf_cons (.of_eq rfl) (wkf_cons (.of_eq rfl) (wkf_nil _))))), hH⟩
        · refine awp_exit ?_
          have hz := hy25 _ (inj_inr H30)
          subst hz
          exact ⟨⟨_, inj_inr H30⟩, (wkf_cons (.of_eq rfl) (wkf_cons (.of_eq rfl) (wkf_cons (.of_eq rfl) (wkf_nil _)))), hH⟩
    · refine awp_exit ?_
      have hz := hy9 _ (inj_inr H16)
      subst hz
      exact ⟨⟨_, inj_inr H16⟩, (wkf_cons (.of_eq rfl) (wkf_nil _)), hH⟩
end Go.Proofs.YthkfilchighbhaaDoor
namespace Go.Proofs.YthkfilchighbhaaDoor
open Go Go.Va
set_option linter.unusedVariables false
set_option linter.unusedSimpArgs false
set_option maxRecDepth 20000
theorem butteryref03_Seal_app {x0 : List (BitVec 8)} {r : (List (BitVec 8))} (H : butteryref03_Seal x0 = some r) (σ : St)  : ACall Tryd.prog 17 [((eL 1 (@eU .u8 8)) x0)] σ (fun a τ => a = .sl (.own σ.opn.length) 1 (r.map (@eU .u8 8)) ∧ τ = σ.more) := by
  unfold butteryref03_Seal at H
  refine ACall.app (fun ρ κ => cutL_enc (enc_u td5 sz5).cut ρ κ r) (acall_start tk Tryd.func17 (by decide) rfl (Nat.le_of_ble_eq_true rfl) ?_)
  have hH := Holds.init σ
  refine awp_seq ?_
  refine awp_region rfl ?_
  refine wpo_mv (a := AV.nils) rfl rfl rfl (o_as tk rfl (Wk.refl _)) ?_
  refine wpo_nil ?_
  refine awp_seq ?_
  refine awp_region rfl ?_
  refine wpo_mv (a := AV.nils) rfl rfl rfl (o_as tk rfl (Wk.refl _)) ?_
  refine wpo_nil ?_
  refine awp_seq ?_
  refine awp_region rfl ?_
  refine wpo_mv (a := AV.nils) rfl rfl rfl (o_mv tk rfl (Wk.refl _)) ?_
  refine wpo_mv (a := ((eL 1 (@eU .u8 8)) x0)) rfl rfl rfl (o_mv tk rfl (Wk.refl _)) ?_
  obtain ⟨v2, hv3, H1⟩ := Option.bind_eq_some_iff.1 H
  refine wpo_a (av := fun t => eT t 1 (@eU .u8 8) v2) rfl rfl rfl (h_app0 tk hH hv3 td22 ty5 rfl (by decide) (.inl ⟨rfl, rfl⟩) (src_l td22 rfl)) fun tk4 τ hH => ?_
  refine wpo_mv (a := (eT tk4 1 (@eU .u8 8) v2)) rfl rfl rfl (o_as tk rfl (Wk.refl _)) ?_
  refine wpo_nil ?_
  refine awp_seq ?_
  refine awp_region rfl ?_
  refine wpo_mv (a := ((eL 1 (@eU .u8 8)) x0)) rfl rfl rfl (o_mv tk rfl (Wk.refl _)) ?_
  refine wpo_bd H1 (@eU .u32 32) rfl rfl rfl (fun v6 hv => OpP.of_call rfl rfl (.cons (.of_eq rfl) .nil) (butteryref03_Sum_ok hv)) fun v6 hv6 H5 => ?_
  refine wpo_mv (a := ((@eU .u32 32) v6)) rfl rfl rfl (o_as tk rfl (Wk.refl _)) ?_
  refine wpo_nil ?_
  refine awp_seq ?_
  refine awp_seq ?_
  refine awp_region rfl ?_
  refine wpo_mv (a := (eI (0 : Int))) rfl rfl rfl (o_as tk rfl (Wk.refl _)) ?_
  refine wpo_nil ?_
  refine awp_block ?_
  obtain ⟨s17, hs11, hj12⟩ := Option.bind_eq_some_iff.1 H5
  refine awp_cutx 0 (fun fr τ => ∃ tk_3, WkF fr (fm [(3, (eT tk_3 1 (@eU .u8 8) s17))]) ∧ Holds σ [] [tk_3] τ) ?_ ?_
  · rintro fr τ ⟨tk_3, hfr, hH⟩
    have H36 := hj12
    refine AWP.fm [(3, (eT tk_3 1 (@eU .u8 8) s17))] hfr ?_
    refine awp_seq ?_
    refine awp_region rfl ?_
    refine wpo_mv (a := (eT tk_3 1 (@eU .u8 8) s17)) rfl rfl rfl (o_mv tk rfl (Wk.refl _)) ?_
    refine wpo_mv (a := (eT tk_3 1 (@eU .u8 8) s17)) rfl rfl rfl (o_as tk rfl (Wk.refl _)) ?_
    refine wpo_nil ?_
    refine awp_ret ?_
    obtain rfl := Option.some.inj H36
    exact ⟨_, (eT tk_3 1 (@eU .u8 8) s17), rfl, .of_eq rfl, tk_3, rfl, hH⟩
  · refine awp_loopO (body := fun s => butteryref03_Seal_b0 s.1 s.2.1 s.2.2) hs11 (fun (s : (List (BitVec 8)) × (BitVec 32) × Int) fr τ => ∃ tk_3, WkF fr (fm [(3, (eT tk_3 1 (@eU .u8 8) s.1)), (4, ((@eU .u32 32) s.2.1)), (5, (eI s.2.2))]) ∧ Holds σ [] [tk_3] τ) ⟨tk4, (wkf_cons (.of_eq rfl) (wkf_cons (.of_eq rfl) (wkf_cons (.of_eq rfl) (wkf_nil _)))), hH⟩ ?_
    rintro ⟨c7, c8, c9⟩ fr τ y13 ⟨tk_3, hfr, hH⟩ hb15 hy16
    have H18 : butteryref03_Seal_b0 c7 c8 c9 = some y13 := hb15
    unfold butteryref03_Seal_b0 at H18
    refine AWP.fm [(3, (eT tk_3 1 (@eU .u8 8) c7)), (4, ((@eU .u32 32) c8)), (5, (eI c9))] hfr ?_
    have hH : Holds σ [] [tk_3] τ := hH
    refine awp_seq ?_
    refine awp_seq ?_
    refine awp_region rfl ?_
    refine wpo_mv (a := (eI c9)) rfl rfl rfl (o_mv tk rfl (Wk.refl _)) ?_
    refine wpo_lt H18 eB rfl rfl rfl (o_ar tk rfl rfl rfl) fun v20 H19 => ?_
    refine wpo_nil ?_
    refine awp_if H19 rfl (fun H21 => ?_) (fun H21 => ?_)
    · refine awp_skip ?_
      refine awp_seq ?_
      refine awp_block ?_
      refine awp_seq ?_
      refine awp_region rfl ?_
      refine wpo_mv (a := (eT tk_3 1 (@eU .u8 8) c7)) rfl rfl rfl (o_mv tk rfl (Wk.refl _)) ?_
      refine wpo_mv (a := ((@eU .u32 32) c8)) rfl rfl rfl (o_mv tk rfl (Wk.refl _)) ?_
      refine wpo_lt H21 (@eU .u32 32) rfl rfl rfl (o_rem_u tk (k := .u32) (y := 256#32) (z := 256#32) rfl rfl rfl rfl) fun v23 H22 => ?_
      refine wpo_lt H22 (@eU .u8 8) rfl rfl rfl (o_cv_uu tk td49 td5 rfl rfl) fun v25 H24 => ?_
      refine wpo_lt H24 (eF 1 (@eU .u8 8)) rfl rfl rfl (o_c tk false rfl (fun _ => rfl)) fun v27 H26 => ?_
      obtain ⟨v29, hv30, H28⟩ := Option.bind_eq_some_iff.1 H26
      refine wpo_a (av := fun t => eT t 1 (@eU .u8 8) v29) rfl rfl rfl (h_app tk hH 0 hv30 rfl td22 ty5 rfl (by decide) rfl (src_l td22 rfl)) fun tk31 τ hH => ?_
      refine wpo_mv (a := (eT tk31 1 (@eU .u8 8) v29)) rfl rfl rfl (o_as tk rfl (Wk.refl _)) ?_
      refine wpo_nil ?_
      refine awp_region rfl ?_
      refine wpo_mv (a := ((@eU .u32 32) c8)) rfl rfl rfl (o_mv tk rfl (Wk.refl _)) ?_
      refine wpo_lt H28 (@eU .u32 32) rfl rfl rfl (o_quo_u tk (k := .u32) (y := 256#32) (z := 256#32) rfl rfl rfl rfl) fun v33 H32 => ?_
      refine wpo_mv (a := ((@eU .u32 32) v33)) rfl rfl rfl (o_as tk rfl (Wk.refl _)) ?_
      refine wpo_nil ?_
      refine awp_region rfl ?_
      refine wpo_mv (a := (eI c9)) rfl rfl rfl (o_mv tk rfl (Wk.refl _)) ?_
      refine wpo_lt H32 eI rfl rfl rfl (o_ar tk rfl rfl rfl) fun v35 H34 => ?_
      refine wpo_mv (a := (eI v35)) rfl rfl rfl (o_as tk rfl (Wk.refl _)) ?_
      refine wpo_nil ?_
      exact ⟨(v29, v33, v35), inj_inl H34, tk31, (wkf_cons (.of_eq rfl) (wkf_cons (.of_eq rfl) (wkf_cons (.of_eq rfl) (wkf_nil _)))), hH⟩
    · refine awp_exit ?_
      have hz := hy16 _ (inj_inr H21)
      subst hz
      exact ⟨⟨_, inj_inr H21⟩, tk_3, (wkf_cons (.of_eq rfl) (wkf_nil _)), hH⟩
theorem butteryref03_Seal_ok {x0 : List (BitVec 8)} {r : (List (BitVec 8))} (H : butteryref03_Seal x0 = some r) (σ : St) : ACall Tryd.prog 17 [((eL 1 (@eU .u8 8)) x0)] σ (fun a τ => a = (eL 1 (@eU .u8 8)) r ∧ τ = σ) := (butteryref03_Seal_app H σ).unapp (fun ρ κ => cutL_enc (enc_u td5 sz5).cut ρ κ r)
end Go.Proofs.YthkfilchighbhaaDoor
namespace Go.Proofs.YthkfilchighbhaaDoor
open Go Go.Va
set_option linter.unusedVariables false
set_option linter.unusedSimpArgs false
set_option maxRecDepth 20000
theorem trouble_Wrap_ok {x0 : List (BitVec 8)} {x1 : Int} {x2 : Err} {r : Err} (H : trouble_Wrap x0 x1 x2 = some r) (σ : St)  : ACall Tryd.prog 21 [(eS x0), (eI x1), (eErr x2)] σ (fun a τ => a = eErr r ∧ τ = σ) := by
  unfold trouble_Wrap at H
  refine ACall.pure (acall_start tk Tryd.func21 (by decide) rfl (Nat.le_of_ble_eq_true rfl) ?_)
  have hH := Holds.init σ
  refine awp_seq ?_
  refine awp_region rfl ?_
  refine wpo_mv (a := (eErr Err.nil)) rfl rfl rfl (o_as tk rfl (Wk.refl _)) ?_
  refine wpo_nil ?_
  refine awp_seq ?_
  refine awp_seq ?_
  refine awp_region rfl ?_
  refine wpo_mv (a := (eErr x2)) rfl rfl rfl (o_mv tk rfl (Wk.refl _)) ?_
  refine wpo_lt H eB rfl rfl rfl (o_err_eql tk rfl rfl rfl) fun v2 H1 => ?_
  refine wpo_nil ?_
  refine awp_if H1 rfl (fun H3 => ?_) (fun H3 => ?_)
  · refine awp_seq ?_
    refine awp_region rfl ?_
    refine wpo_mv (a := (eErr Err.nil)) rfl rfl rfl (o_as tk rfl (Wk.refl _)) ?_
    refine wpo_nil ?_
    refine awp_ret ?_
    obtain rfl := Option.some.inj H3
    exact ⟨_, (eErr Err.nil), rfl, (.of_eq rfl), .of_eq (encErr.cut _ _ _), hH.noT⟩
  · refine awp_skip ?_
    refine awp_seq ?_
    refine awp_region rfl ?_
    refine wpo_mv (a := (eS x0)) rfl rfl rfl (o_mv tk rfl (Wk.refl _)) ?_
    refine wpo_mv (a := (eI x1)) rfl rfl rfl (o_mv tk rfl (Wk.refl _)) ?_
    refine wpo_mv (a := (eErr x2)) rfl rfl rfl (o_mv tk rfl (Wk.refl _)) ?_
    refine wpo_lt H3 e_trouble_fault rfl rfl rfl (o_c tk false rfl (fun _ => by generalize x2 = z0; cases z0 <;> rfl)) fun v5 H4 => ?_
    refine wpo_mv (a := (.fptr (c_trouble_fault v5) 0)) rfl rfl rfl (o_boxf tk rfl (.of_eq rfl) (b := (e_trouble_fault v5)) (enc64.flat _)) ?_
    refine wpo_mv (a := (eErr (Err.fault v5.op v5.at_ v5.code v5.under))) rfl rfl rfl (o_c tk false rfl (fun _ => rfl)) ?_
    refine wpo_mv (a := (eErr (Err.fault v5.op v5.at_ v5.code v5.under))) rfl rfl rfl (o_as tk rfl (Wk.refl _)) ?_
    refine wpo_nil ?_
    refine awp_ret ?_
    obtain rfl := Option.some.inj H4
    exact ⟨_, (eErr (Err.fault v5.op v5.at_ v5.code v5.under)), rfl, (.of_eq rfl), .of_eq (encErr.cut _ _ _), hH.noT⟩
end Go.Proofs.YthkfilchighbhaaDoor
namespace Go.Proofs.YthkfilchighbhaaDoor
open Go Go.Va
set_option linter.unusedVariables false
set_option linter.unusedSimpArgs false
set_option maxRecDepth 20000
theorem wire_parts_ok {x0 : Int} {r : (List (BitVec 8))} (H : wire_parts x0 = some r) (σ : St)  : ACall Tryd.prog 23 [(eI x0)] σ (fun a τ => a = eS r ∧ τ = σ) := by
  unfold wire_parts at H
  refine ACall.pure (acall_start tk Tryd.func23 (by decide) rfl (Nat.le_of_ble_eq_true rfl) ?_)
  have hH := Holds.init σ
  refine awp_seq ?_
  refine awp_region rfl ?_
  refine wpo_mv (a := (eS ([] : List (BitVec 8)))) rfl rfl rfl (o_as tk rfl (Wk.refl _)) ?_
  refine wpo_nil ?_
  refine awp_seq ?_
  refine awp_seq ?_
  refine awp_region rfl ?_
  refine wpo_mv (a := (eI x0)) rfl rfl rfl (o_mv tk rfl (Wk.refl _)) ?_
  refine wpo_nil ?_
  refine awp_block ?_
  refine awp_seq ?_
  refine awp_region rfl ?_
  refine wpo_lt H eB rfl rfl rfl (o_ar tk rfl rfl rfl) fun v2 H1 => ?_
  refine wpo_mv (a := (eB v2)) rfl rfl rfl (o_as tk rfl (Wk.refl _)) ?_
  refine wpo_nil ?_
  refine awp_if H1 rfl (fun H3 => ?_) (fun H3 => ?_)
  · refine awp_seq ?_
    refine awp_region rfl ?_
    refine wpo_mv (a := (eS ([65#8, 70#8] : List (BitVec 8)))) rfl rfl rfl (o_as tk rfl (Wk.refl _)) ?_
    refine wpo_nil ?_
    refine awp_ret ?_
    obtain rfl := Option.some.inj H3
    exact ⟨_, (eS ([65#8, 70#8] : List (BitVec 8))), rfl, (.of_eq rfl), .of_eq ((enc_s td9 sz9).cut _ _ _), hH.noT⟩
  · refine awp_seq ?_
    refine awp_seq ?_
    refine awp_region rfl ?_
    refine wpo_lt H3 eB rfl rfl rfl (o_ar tk rfl rfl rfl) fun v5 H4 => ?_
    refine wpo_mv (a := (eB v5)) rfl rfl rfl (o_as tk rfl (Wk.refl _)) ?_
    refine wpo_nil ?_
    obtain ⟨s6, hs8, hj9⟩ := Option.bind_eq_some_iff.1 H4
    refine awp_cutn (fun fr τ => WkF fr (fm [(3, (eI x0)), (6, (eB s6))]) ∧ Holds σ [] [] τ) ?_ ?_
    · rintro fr τ ⟨hfr, hH⟩
      have H13 := hj9
      refine AWP.fm [(3, (eI x0)), (6, (eB s6))] hfr ?_
      refine awp_if H13 rfl (fun H14 => ?_) (fun H14 => ?_)
      · refine awp_seq ?_
        refine awp_region rfl ?_
        refine wpo_mv (a := (eS ([75#8, 65#8] : List (BitVec 8)))) rfl rfl rfl (o_as tk rfl (Wk.refl _)) ?_
        refine wpo_nil ?_
        refine awp_ret ?_
        obtain rfl := Option.some.inj H14
        exact ⟨_, (eS ([75#8, 65#8] : List (BitVec 8))), rfl, (.of_eq rfl), .of_eq ((enc_s td9 sz9).cut _ _ _), hH.noT⟩
      · refine awp_seq ?_
        refine awp_region rfl ?_
        refine wpo_lt H14 eB rfl rfl rfl (o_ar tk rfl rfl rfl) fun v16 H15 => ?_
        refine wpo_mv (a := (eB v16)) rfl rfl rfl (o_as tk rfl (Wk.refl _)) ?_
        refine wpo_nil ?_
        refine awp_if H15 rfl (fun H17 => ?_) (fun H17 => ?_)
        · refine awp_seq ?_
          refine awp_region rfl ?_
          refine wpo_mv (a := (eS ([73#8, 75#8] : List (BitVec 8)))) rfl rfl rfl (o_as tk rfl (Wk.refl _)) ?_
          refine wpo_nil ?_
          refine awp_ret ?_
          obtain rfl := Option.some.inj H17
          exact ⟨_, (eS ([73#8, 75#8] : List (BitVec 8))), rfl, (.of_eq rfl), .of_eq ((enc_s td9 sz9).cut _ _ _), hH.noT⟩
        · refine awp_seq ?_
          refine awp_region rfl ?_
          refine wpo_lt H17 eB rfl rfl rfl (o_ar tk rfl rfl rfl) fun v19 H18 => ?_
          refine wpo_mv (a := (eB v19)) rfl rfl rfl (o_as tk rfl (Wk.refl _)) ?_
          refine wpo_nil ?_
          refine awp_if H18 rfl (fun H20 => ?_) (fun H20 => ?_)
          · refine awp_seq ?_
            refine awp_region rfl ?_
            refine wpo_mv (a := (eS ([73#8, 75#8, 65#8, 70#8, 86#8] : List (BitVec 8)))) rfl rfl rfl (o_as tk rfl (Wk.refl _)) ?_
            refine wpo_nil ?_
            refine awp_ret ?_
            obtain rfl := Option.some.inj H20
            exact ⟨_, (eS ([73#8, 75#8, 65#8, 70#8, 86#8] : List (BitVec 8))), rfl, (.of_eq rfl), .of_eq ((enc_s td9 sz9).cut _ _ _), hH.noT⟩
          · refine awp_skip ?_
            refine awp_seq ?_
            refine awp_region rfl ?_
            refine wpo_mv (a := (eS ([] : List (BitVec 8)))) rfl rfl rfl (o_as tk rfl (Wk.refl _)) ?_
            refine wpo_nil ?_
            refine awp_ret ?_
            obtain rfl := Option.some.inj H20
            exact ⟨_, (eS ([] : List (BitVec 8))), rfl, (.of_eq rfl), .of_eq ((enc_s td9 sz9).cut _ _ _), hH.noT⟩
    · refine awp_if hs8 rfl (fun H10 => ?_) (fun H10 => ?_)
      · refine awp_skip ?_
        have e := Option.some.inj H10
        subst e
        exact ⟨(wkf_cons (.of_eq rfl) (wkf_cons (.of_eq rfl) (wkf_nil _))), hH⟩
      · refine awp_region rfl ?_
        refine wpo_lt H10 eB rfl rfl rfl (o_ar tk rfl rfl rfl) fun v12 H11 => ?_
        refine wpo_mv (a := (eB v12)) rfl rfl rfl (o_as tk rfl (Wk.refl _)) ?_
        refine wpo_nil ?_
        have e := Option.some.inj H11
        subst e
        exact ⟨(wkf_cons (.of_eq rfl) (wkf_cons (.of_eq rfl) (wkf_nil _))), hH⟩
end Go.Proofs.YthkfilchighbhaaDoor
namespace Go.Proofs.YthkfilchighbhaaDoor
open Go Go.Va
set_option linter.unusedVariables false
set_option linter.unusedSimpArgs false
set_option maxRecDepth 20000
theorem trouble_New_ok {x0 : List (BitVec 8)} {x1 : Int} {x2 : Int} {r : Err} (H : trouble_New x0 x1 x2 = some r) (σ : St)  : ACall Tryd.prog 33 [(eS x0), (eI x1), (eI x2)] σ (fun a τ => a = eErr r ∧ τ = σ) := by
  unfold trouble_New at H
  refine ACall.pure (acall_start tk Tryd.func33 (by decide) rfl (Nat.le_of_ble_eq_true rfl) ?_)
  have hH := Holds.init σ
  refine awp_seq ?_
  refine awp_region rfl ?_
  refine wpo_mv (a := (eErr Err.nil)) rfl rfl rfl (o_as tk rfl (Wk.refl _)) ?_
  refine wpo_nil ?_
  refine awp_seq ?_
  refine awp_seq ?_
  refine awp_region rfl ?_
  refine wpo_mv (a := (eI x2)) rfl rfl rfl (o_mv tk rfl (Wk.refl _)) ?_
  refine wpo_lt H eB rfl rfl rfl (o_ar tk rfl rfl rfl) fun v2 H1 => ?_
  refine wpo_nil ?_
  refine awp_if H1 rfl (fun H3 => ?_) (fun H3 => ?_)
  · refine awp_seq ?_
    refine awp_region rfl ?_
    refine wpo_mv (a := (eErr Err.nil)) rfl rfl rfl (o_as tk rfl (Wk.refl _)) ?_
    refine wpo_nil ?_
    refine awp_ret ?_
    obtain rfl := Option.some.inj H3
    exact ⟨_, (eErr Err.nil), rfl, (.of_eq rfl), .of_eq (encErr.cut _ _ _), hH.noT⟩
  · refine awp_skip ?_
    refine awp_seq ?_
    refine awp_region rfl ?_
    refine wpo_mv (a := (eS x0)) rfl rfl rfl (o_mv tk rfl (Wk.refl _)) ?_
    refine wpo_mv (a := (eI x1)) rfl rfl rfl (o_mv tk rfl (Wk.refl _)) ?_
    refine wpo_mv (a := (eI x2)) rfl rfl rfl (o_mv tk rfl (Wk.refl _)) ?_
    refine wpo_lt H3 e_trouble_fault rfl rfl rfl (o_c tk false rfl (fun _ => rfl)) fun v5 H4 => ?_
    refine wpo_mv (a := (.fptr (c_trouble_fault v5) 0)) rfl rfl rfl (o_boxf tk rfl (.of_eq rfl) (b := (e_trouble_fault v5)) (enc64.flat _)) ?_
    refine wpo_mv (a := (eErr (Err.fault v5.op v5.at_ v5.code v5.under))) rfl rfl rfl (o_c tk false rfl (fun _ => rfl)) ?_
    refine wpo_mv (a := (eErr (Err.fault v5.op v5.at_ v5.code v5.under))) rfl rfl rfl (o_as tk rfl (Wk.refl _)) ?_
    refine wpo_nil ?_
    refine awp_ret ?_
    obtain rfl := Option.some.inj H4
    exact ⟨_, (eErr (Err.fault v5.op v5.at_ v5.code v5.under)), rfl, (.of_eq rfl), .of_eq (encErr.cut _ _ _), hH.noT⟩
end Go.Proofs.YthkfilchighbhaaDoor
namespace Go.Proofs.YthkfilchighbhaaDoor
open Go Go.Va
set_option linter.unusedVariables false
set_option linter.unusedSimpArgs false
set_option maxRecDepth 20000
theorem wire_down_ok {x0 : Int} {r : Bool} (H : wire_down x0 = some r) (σ : St)  : ACall Tryd.prog 34 [(eI x0)] σ (fun a τ => a = eB r ∧ τ = σ) := by
  unfold wire_down at H
  refine ACall.pure (acall_start tk Tryd.func34 (by decide) rfl (Nat.le_of_ble_eq_true rfl) ?_)
  have hH := Holds.init σ
  refine awp_seq ?_
  refine awp_region rfl ?_
  refine wpo_mv (a := (eB false)) rfl rfl rfl (o_as tk rfl (Wk.refl _)) ?_
  refine wpo_nil ?_
  refine awp_seq ?_
  refine awp_region rfl ?_
  refine wpo_mv (a := (eI x0)) rfl rfl rfl (o_mv tk rfl (Wk.refl _)) ?_
  refine wpo_lt H eB rfl rfl rfl (o_ar tk rfl rfl rfl) fun v2 H1 => ?_
  refine wpo_mv (a := (eB v2)) rfl rfl rfl (o_mv tk rfl (Wk.refl _)) ?_
  refine if_split H1 (fun hb H3 => ?_) (fun hb H3 => ?_)
  · subst hb
    refine wpo_skip rfl rfl rfl ?_
    refine wpo_skip rfl rfl rfl ?_
    refine wpo_mv (a := (eB true)) rfl rfl rfl (o_pick_t tk rfl rfl (Wk.refl _)) ?_
    refine wpo_mv (a := (eB true)) rfl rfl rfl (o_mv tk rfl (Wk.refl _)) ?_
    refine wpo_skip rfl rfl rfl ?_
    refine wpo_skip rfl rfl rfl ?_
    refine wpo_mv (a := (eB true)) rfl rfl rfl (o_pick_t tk rfl rfl (Wk.refl _)) ?_
    refine wpo_mv (a := (eB true)) rfl rfl rfl (o_as tk rfl (Wk.refl _)) ?_
    refine wpo_nil ?_
    refine awp_ret ?_
    obtain rfl := Option.some.inj H3
    exact ⟨_, (eB true), rfl, (.of_eq rfl), .of_eq ((enc_b td4 sz4).cut _ _ _), hH.noT⟩
  · subst hb
    refine wpo_mv (a := (eI x0)) rfl rfl rfl (o_mv tk rfl (Wk.refl _)) ?_
    refine wpo_lt H3 eB rfl rfl rfl (o_ar tk rfl rfl rfl) fun v5 H4 => ?_
    refine wpo_mv (a := (eB v5)) rfl rfl rfl (o_pick_f tk rfl rfl (Wk.refl _)) ?_
    refine wpo_mv (a := (eB v5)) rfl rfl rfl (o_mv tk rfl (Wk.refl _)) ?_
    refine if_split H4 (fun hb H6 => ?_) (fun hb H6 => ?_)
    · subst hb
      refine wpo_skip rfl rfl rfl ?_
      refine wpo_skip rfl rfl rfl ?_
      refine wpo_mv (a := (eB true)) rfl rfl rfl (o_pick_t tk rfl rfl (Wk.refl _)) ?_
      refine wpo_mv (a := (eB true)) rfl rfl rfl (o_as tk rfl (Wk.refl _)) ?_
      refine wpo_nil ?_
      refine awp_ret ?_
      obtain rfl := Option.some.inj H6
      exact ⟨_, (eB true), rfl, (.of_eq rfl), .of_eq ((enc_b td4 sz4).cut _ _ _), hH.noT⟩
    · subst hb
      refine wpo_mv (a := (eI x0)) rfl rfl rfl (o_mv tk rfl (Wk.refl _)) ?_
      refine wpo_lt H6 eB rfl rfl rfl (o_ar tk rfl rfl rfl) fun v8 H7 => ?_
      refine wpo_mv (a := (eB v8)) rfl rfl rfl (o_pick_f tk rfl rfl (Wk.refl _)) ?_
      refine wpo_mv (a := (eB v8)) rfl rfl rfl (o_as tk rfl (Wk.refl _)) ?_
      refine wpo_nil ?_
      refine awp_ret ?_
      obtain rfl := Option.some.inj H7
      exact ⟨_, (eB v8), rfl, (.of_eq rfl), .of_eq ((enc_b td4 sz4).cut _ _ _), hH.noT⟩
end Go.Proofs.YthkfilchighbhaaDoor
namespace Go.Proofs.YthkfilchighbhaaDoor
open Go Go.Va
set_option linter.unusedVariables false
set_option linter.unusedSimpArgs false
set_option maxRecDepth 20000
theorem octets_Key_ok {x0 : List (BitVec 8)} {r : Int} (H : octets_Key x0 = some r) (σ : St)  : ACall Tryd.prog 35 [(eS x0)] σ (fun a τ => a = eI r ∧ τ = σ) := by
  unfold octets_Key at H
  refine ACall.pure (acall_start tk Tryd.func35 (by decide) rfl (Nat.le_of_ble_eq_true rfl) ?_)
  have hH := Holds.init σ
  refine awp_seq ?_
  refine awp_region rfl ?_
  refine wpo_mv (a := (eI (0 : Int))) rfl rfl rfl (o_as tk rfl (Wk.refl _)) ?_
  refine wpo_nil ?_
  refine awp_seq ?_
  refine awp_seq ?_
  refine awp_region rfl ?_
  refine wpo_mv (a := (eS x0)) rfl rfl rfl (o_mv tk rfl (Wk.refl _)) ?_
  refine wpo_lt H eI rfl rfl rfl (o_len_s tk td9 rfl) fun v2 H1 => ?_
  refine wpo_mv (a := (eI v2)) rfl rfl rfl (o_as tk rfl (Wk.refl _)) ?_
  refine wpo_nil ?_
  refine awp_block ?_
  refine awp_seq ?_
  refine awp_region rfl ?_
  refine wpo_mv (a := (eI v2)) rfl rfl rfl (o_mv tk rfl (Wk.refl _)) ?_
  refine wpo_lt H1 eB rfl rfl rfl (o_ar tk rfl rfl rfl) fun v4 H3 => ?_
  refine wpo_mv (a := (eB v4)) rfl rfl rfl (o_as tk rfl (Wk.refl _)) ?_
  refine wpo_nil ?_
  refine awp_if H3 rfl (fun H5 => ?_) (fun H5 => ?_)
  · refine awp_seq ?_
    refine awp_region rfl ?_
    refine wpo_mv (a := (eI (1 : Int))) rfl rfl rfl (o_as tk rfl (Wk.refl _)) ?_
    refine wpo_nil ?_
    refine awp_ret ?_
    obtain rfl := Option.some.inj H5
    exact ⟨_, (eI (1 : Int)), rfl, (.of_eq rfl), .of_eq ((enc_i64 td33 sz33).cut _ _ _), hH.noT⟩
  · refine awp_seq ?_
    refine awp_region rfl ?_
    refine wpo_mv (a := (eI v2)) rfl rfl rfl (o_mv tk rfl (Wk.refl _)) ?_
    refine wpo_lt H5 eB rfl rfl rfl (o_ar tk rfl rfl rfl) fun v7 H6 => ?_
    refine wpo_mv (a := (eB v7)) rfl rfl rfl (o_as tk rfl (Wk.refl _)) ?_
    refine wpo_nil ?_
    refine awp_if H6 rfl (fun H8 => ?_) (fun H8 => ?_)
    · refine awp_seq ?_
      refine awp_region rfl ?_
      refine wpo_mv (a := (eI (3 : Int))) rfl rfl rfl (o_as tk rfl (Wk.refl _)) ?_
      refine wpo_nil ?_
      refine awp_ret ?_
      obtain rfl := Option.some.inj H8
      exact ⟨_, (eI (3 : Int)), rfl, (.of_eq rfl), .of_eq ((enc_i64 td33 sz33).cut _ _ _), hH.noT⟩
    · refine awp_skip ?_
      refine awp_seq ?_
      refine awp_region rfl ?_
      refine wpo_mv (a := (eI (0 : Int))) rfl rfl rfl (o_as tk rfl (Wk.refl _)) ?_
      refine wpo_nil ?_
      refine awp_ret ?_
      obtain rfl := Option.some.inj H8
      exact ⟨_, (eI (0 : Int)), rfl, (.of_eq rfl), .of_eq ((enc_i64 td33 sz33).cut _ _ _), hH.noT⟩
end Go.Proofs.YthkfilchighbhaaDoor
namespace Go.Proofs.YthkfilchighbhaaDoor
open Go Go.Va
set_option linter.unusedVariables false
set_option linter.unusedSimpArgs false
set_option maxRecDepth 20000
theorem item_Check_1_c_ok {x0 : List (BitVec 8)} {x1 : Int} {x2 : Int} {x3 : Err} {r : Err} (H : item_Check_1_c x0 x1 x2 x3 = some r) (σ : St) {p3 : Nat} (h3 : σ.objs[p3]? = some [eErr x3]) : ACall Tryd.prog 60 [(eS x0), (eI x1), (eI x2), (.ref p3 0)] σ (fun a τ => a = .tup [] ∧ τ = σ.puts [(p3, [eErr r])]) := by
  unfold item_Check_1_c at H
  refine ACall.out [(p3, [eErr r])] (by simp only [List.mem_cons, List.not_mem_nil, or_false]; rintro _ (rfl) ρ κ <;> exact (by simp only [cutL, encErr.cut ρ κ])) (acall_start tk Tryd.func60 (by decide) rfl (Nat.le_of_ble_eq_true rfl) ?_)
  have hH := Holds.init σ
  have hH := hH.bring h3 (fun _ h => by cases h)
  refine awp_seq ?_
  obtain ⟨s1, hs3, hj4⟩ := Option.bind_eq_some_iff.1 H
  refine awp_cutn (fun fr τ => WkF fr (fm [(0, (eS x0)), (1, (eI x1)), (3, (.ref p3 0)), (17, (eB s1))]) ∧ Holds σ [(p3, [eErr x3])] [] τ) ?_ ?_
  · rintro fr τ ⟨hfr, hH⟩
    have H13 := hj4
    refine AWP.fm [(0, (eS x0)), (1, (eI x1)), (3, (.ref p3 0)), (17, (eB s1))] hfr ?_
    refine awp_if H13 rfl (fun H14 => ?_) (fun H14 => ?_)
    · refine awp_region rfl ?_
      refine wpo_mv (a := (eS x0)) rfl rfl rfl (o_mv tk rfl (Wk.refl _)) ?_
      refine wpo_mv (a := (eI x1)) rfl rfl rfl (o_mv tk rfl (Wk.refl _)) ?_
      refine wpo_bd H14 eErr rfl rfl rfl (fun v16 hv => OpP.of_call rfl rfl (.cons (.of_eq rfl) (.cons (.of_eq rfl) (.cons (.of_eq rfl) .nil))) (trouble_New_ok hv)) fun v16 hv16 H15 => ?_
      obtain ⟨c18, hc19, H17⟩ := lt_ex H15
      refine wpo_z rfl rfl (h_st tk hH 0 rfl ty30 (by simp) rfl rfl (.of_eq rfl) (b := (eErr v16)) (encErr.flat _) (by rw [show (eErr _).cells = [eErr _] from encErr.one rfl _]; rfl) (Nat.le_of_ble_eq_true rfl) [eErr c18] (by rw [← hc19, show (eErr _).cells = [eErr _] from encErr.one rfl _]; rfl) (hsp := nsp_err _)) fun τ hH => ?_
      refine wpo_nil ?_
      obtain rfl := Option.some.inj H17
      exact ⟨_, (.tup []), rfl, (.of_eq rfl), .of_eq rfl, hH.noT⟩
    · refine awp_skip ?_
      obtain rfl := Option.some.inj H14
      exact ⟨_, (.tup []), rfl, (.of_eq rfl), .of_eq rfl, hH.noT⟩
  · refine awp_region rfl ?_
    refine wpo_rd (a := (eErr x3)) rfl rfl rfl (h_ld tk hH 0 rfl rfl rfl (hsp := nsp_err _)) ?_
    refine wpo_lt hs3 eB rfl rfl rfl (o_err_eql tk rfl rfl rfl) fun v6 H5 => ?_
    refine wpo_mv (a := (eB v6)) rfl rfl rfl (o_mv tk rfl (Wk.refl _)) ?_
    refine if_split H5 (fun hb H7 => ?_) (fun hb H7 => ?_)
    · subst hb
      refine wpo_mv (a := (eI x1)) rfl rfl rfl (o_mv tk rfl (Wk.refl _)) ?_
      refine wpo_mv (a := (eI x2)) rfl rfl rfl (o_mv tk rfl (Wk.refl _)) ?_
      refine wpo_lt H7 eB rfl rfl rfl (o_ar tk rfl rfl rfl) fun v9 H8 => ?_
      refine wpo_mv (a := (eB v9)) rfl rfl rfl (o_mv tk rfl (Wk.refl _)) ?_
      refine if_split H8 (fun hb H10 => ?_) (fun hb H10 => ?_)
      · subst hb
        refine wpo_skip rfl rfl rfl ?_
        refine wpo_skip rfl rfl rfl ?_
        refine wpo_mv (a := (eB true)) rfl rfl rfl (o_pick_t tk rfl rfl (Wk.refl _)) ?_
        refine wpo_mv (a := (eB true)) rfl rfl rfl (o_pick_t tk rfl rfl (Wk.refl _)) ?_
        refine wpo_nil ?_
        have e := Option.some.inj H10
        subst e
        exact ⟨(wkf_cons (.of_eq rfl) (wkf_cons (.of_eq rfl) (wkf_cons (.of_eq rfl) (wkf_cons (.of_eq rfl) (wkf_nil _))))), hH⟩
      · subst hb
        refine wpo_mv (a := (eI x1)) rfl rfl rfl (o_mv tk rfl (Wk.refl _)) ?_
        refine wpo_lt H10 eB rfl rfl rfl (o_ar tk rfl rfl rfl) fun v12 H11 => ?_
        refine wpo_mv (a := (eB v12)) rfl rfl rfl (o_pick_f tk rfl rfl (Wk.refl _)) ?_
        refine wpo_mv (a := (eB v12)) rfl rfl rfl (o_pick_t tk rfl rfl (Wk.refl _)) ?_
        refine wpo_nil ?_
        have e := Option.some.inj H11
        subst e
        exact ⟨(wkf_cons (.of_eq rfl) (wkf_cons (.of_eq rfl) (wkf_cons (.of_eq rfl) (wkf_cons (.of_eq rfl) (wkf_nil _))))), hH⟩
    · subst hb
      refine wpo_skip rfl rfl rfl ?_
      refine wpo_skip rfl rfl rfl ?_
      refine wpo_skip rfl rfl rfl ?_
      refine wpo_skip rfl rfl rfl ?_
      refine wpo_skip rfl rfl rfl ?_
      refine wpo_skip rfl rfl rfl ?_
      refine wpo_skip rfl rfl rfl ?_
      refine wpo_mv (a := (eB false)) rfl rfl rfl (o_pick_f tk rfl rfl (Wk.refl _)) ?_
      refine wpo_nil ?_
      have e := Option.some.inj H7
      subst e
      exact ⟨(wkf_cons (.of_eq rfl) (wkf_cons (.of_eq rfl) (wkf_cons (.of_eq rfl) (wkf_cons (.of_eq rfl) (wkf_nil _))))), hH⟩
end Go.Proofs.YthkfilchighbhaaDoor
namespace Go.Proofs.YthkfilchighbhaaDoor
open Go Go.Va
set_option linter.unusedVariables false
set_option linter.unusedSimpArgs false
set_option maxRecDepth 20000
theorem item_Check_ok {x0 : api_Entry} {r : Err} (H : item_Check x0 = some r) (σ : St)  : ACall Tryd.prog 36 [(e_api_Entry x0)] σ (fun a τ => a = eErr r ∧ τ = σ) := by
  unfold item_Check at H
  refine ACall.pure (acall_start tk Tryd.func36 (by decide) rfl (Nat.le_of_ble_eq_true rfl) ?_)
  have hH := Holds.init σ
  refine awp_seq ?_
  refine awp_region rfl ?_
  refine wpo_mv (a := (.fptr (c_api_Entry x0) 0)) rfl rfl rfl (o_boxf tk rfl (.of_eq rfl) (b := (e_api_Entry x0)) (enc24.flat _)) ?_
  refine wpo_mv (a := (eErr Err.nil)) rfl rfl rfl (o_as tk rfl (Wk.refl _)) ?_
  refine wpo_nil ?_
  refine awp_seq ?_
  refine awp_seq ?_
  refine awp_region rfl ?_
  refine wpo_mv (a := (.fptr (c_api_Entry x0) 0)) rfl rfl rfl (o_c tk false rfl (fun _ => rfl)) ?_
  refine wpo_mv (a := (eS x0.Key)) rfl rfl rfl (o_ld tk rfl rfl) ?_
  refine wpo_bd H eI rfl rfl rfl (fun v2 hv => OpP.of_call rfl rfl (.cons (.of_eq rfl) .nil) (octets_Key_ok hv)) fun v2 hv2 H1 => ?_
  refine wpo_mv (a := (eI v2)) rfl rfl rfl (o_as tk rfl (Wk.refl _)) ?_
  refine wpo_nil ?_
  refine awp_seq ?_
  refine awp_region rfl ?_
  refine wpo_mv (a := (eI v2)) rfl rfl rfl (o_mv tk rfl (Wk.refl _)) ?_
  refine wpo_lt H1 eB rfl rfl rfl (o_ar tk rfl rfl rfl) fun v4 H3 => ?_
  refine wpo_nil ?_
  refine awp_if H3 rfl (fun H5 => ?_) (fun H5 => ?_)
  · refine awp_seq ?_
    refine awp_region rfl ?_
    refine wpo_mv (a := (.fptr (c_api_Entry x0) 0)) rfl rfl rfl (o_c tk false rfl (fun _ => rfl)) ?_
    refine wpo_mv (a := (eS x0.Key)) rfl rfl rfl (o_ld tk rfl rfl) ?_
    refine wpo_lt H5 eI rfl rfl rfl (o_len_s tk td9 rfl) fun v7 H6 => ?_
    refine wpo_mv (a := (eI v2)) rfl rfl rfl (o_mv tk rfl (Wk.refl _)) ?_
    refine wpo_bd H6 eErr rfl rfl rfl (fun v9 hv => OpP.of_call rfl rfl (.cons (.of_eq rfl) (.cons (.of_eq rfl) (.cons (.of_eq rfl) .nil))) (trouble_New_ok hv)) fun v9 hv9 H8 => ?_
    refine wpo_mv (a := (eErr v9)) rfl rfl rfl (o_as tk rfl (Wk.refl _)) ?_
    refine wpo_nil ?_
    refine awp_ret ?_
    obtain rfl := Option.some.inj H8
    exact ⟨_, (eErr v9), rfl, (.of_eq rfl), .of_eq (encErr.cut _ _ _), hH.noT⟩
  · refine awp_skip ?_
    refine awp_seq ?_
    refine awp_region rfl ?_
    refine wpo_a (av := fun id => .ref id 0) rfl rfl rfl (h_alloc tk hH ty30 [eErr Err.nil] rfl) fun id10 τ ⟨hH, n11⟩ => ?_
    refine wpo_nil ?_
    refine awp_seq ?_
    refine awp_region rfl ?_
    refine wpo_mv (a := (.fn (.func 60) [] [(.ref id10 0)])) rfl rfl rfl (o_c tk false rfl (fun _ => rfl)) ?_
    refine wpo_mv (a := (.fn (.func 60) [] [(.ref id10 0)])) rfl rfl rfl (o_as tk rfl (Wk.refl _)) ?_
    refine wpo_nil ?_
    refine awp_seq ?_
    refine awp_region rfl ?_
    refine wpo_mv (a := (.fn (.func 60) [] [(.ref id10 0)])) rfl rfl rfl (o_mv tk rfl (Wk.refl _)) ?_
    refine wpo_mv (a := (.fptr (c_api_Entry x0) 1)) rfl rfl rfl (o_c tk false rfl (fun _ => rfl)) ?_
    refine wpo_mv (a := (eI x0.Version)) rfl rfl rfl (o_ld tk rfl rfl) ?_
    refine wpo_cb H5 (fun x _ => .tup []) rfl rfl rfl (fun v13 hv => h_call1 hH [(0, (id10, [eErr v13]))] ⟨⟨_, rfl⟩, trivial⟩ rfl rfl (.cons (.of_eq rfl) (.cons (.of_eq rfl) (.cons (.of_eq rfl) (.cons (.of_eq rfl) .nil)))) (item_Check_1_c_ok hv _ (hH.at_ 0 rfl))) fun v13 _ τ hv13 H12 hH => ?_
    refine wpo_nil ?_
    refine awp_seq ?_
    refine awp_region rfl ?_
    refine wpo_mv (a := (.fn (.func 60) [] [(.ref id10 0)])) rfl rfl rfl (o_mv tk rfl (Wk.refl _)) ?_
    refine wpo_mv (a := (.fptr (c_api_Entry x0) 2)) rfl rfl rfl (o_c tk false rfl (fun _ => rfl)) ?_
    refine wpo_mv (a := (eI x0.AsOf)) rfl rfl rfl (o_ld tk rfl rfl) ?_
    refine wpo_mv (a := (.fptr (c_api_Entry x0) 1)) rfl rfl rfl (o_c tk false rfl (fun _ => rfl)) ?_
    refine wpo_mv (a := (eI x0.Version)) rfl rfl rfl (o_ld tk rfl rfl) ?_
    refine wpo_cb H12 (fun x _ => .tup []) rfl rfl rfl (fun v15 hv => h_call1 hH [(0, (id10, [eErr v15]))] ⟨⟨_, rfl⟩, trivial⟩ rfl rfl (.cons (.of_eq rfl) (.cons (.of_eq rfl) (.cons (.of_eq rfl) (.cons (.of_eq rfl) .nil)))) (item_Check_1_c_ok hv _ (hH.at_ 0 rfl))) fun v15 _ τ hv15 H14 hH => ?_
    refine wpo_nil ?_
    refine awp_seq ?_
    refine awp_region rfl ?_
    refine wpo_mv (a := (.fn (.func 60) [] [(.ref id10 0)])) rfl rfl rfl (o_mv tk rfl (Wk.refl _)) ?_
    refine wpo_mv (a := (.fptr (c_api_Entry x0) 3)) rfl rfl rfl (o_c tk false rfl (fun _ => rfl)) ?_
    refine wpo_mv (a := (eI x0.Ends)) rfl rfl rfl (o_ld tk rfl rfl) ?_
    refine wpo_cb H14 (fun x _ => .tup []) rfl rfl rfl (fun v17 hv => h_call1 hH [(0, (id10, [eErr v17]))] ⟨⟨_, rfl⟩, trivial⟩ rfl rfl (.cons (.of_eq rfl) (.cons (.of_eq rfl) (.cons (.of_eq rfl) (.cons (.of_eq rfl) .nil)))) (item_Check_1_c_ok hv _ (hH.at_ 0 rfl))) fun v17 _ τ hv17 H16 hH => ?_
    refine wpo_nil ?_
    refine awp_seq ?_
    refine awp_seq ?_
    obtain ⟨s18, hs20, hj21⟩ := Option.bind_eq_some_iff.1 H16
    refine awp_cutn (fun fr τ => WkF fr (fm [(1, (.fptr (c_api_Entry x0) 0)), (4, (.ref id10 0)), (38, (eB s18))]) ∧ Holds σ [(id10, [eErr v17])] [] τ) ?_ ?_
    · rintro fr τ ⟨hfr, hH⟩
      have H29 := hj21
      refine AWP.fm [(1, (.fptr (c_api_Entry x0) 0)), (4, (.ref id10 0)), (38, (eB s18))] hfr ?_
      refine awp_if H29 rfl (fun H30 => ?_) (fun H30 => ?_)
      · refine awp_region rfl ?_
        refine wpo_mv (a := (.fptr (c_api_Entry x0) 4)) rfl rfl rfl (o_c tk false rfl (fun _ => rfl)) ?_
        refine wpo_mv (a := ((eL 1 (@eU .u8 8)) x0.Value)) rfl rfl rfl (o_ld tk rfl rfl) ?_
        refine wpo_lt H30 eI rfl rfl rfl (o_len tk td22 rfl) fun v32 H31 => ?_
        refine wpo_bd H31 eErr rfl rfl rfl (fun v34 hv => OpP.of_call rfl rfl (.cons (.of_eq rfl) (.cons (.of_eq rfl) (.cons (.of_eq rfl) .nil))) (trouble_New_ok hv)) fun v34 hv34 H33 => ?_
        obtain ⟨c36, hc37, H35⟩ := lt_ex H33
        refine wpo_z rfl rfl (h_st tk hH 0 rfl ty30 (by simp) rfl rfl (.of_eq rfl) (b := (eErr v34)) (encErr.flat _) (by rw [show (eErr _).cells = [eErr _] from encErr.one rfl _]; rfl) (Nat.le_of_ble_eq_true rfl) [eErr c36] (by rw [← hc37, show (eErr _).cells = [eErr _] from encErr.one rfl _]; rfl) (hsp := nsp_err _)) fun τ hH => ?_
        refine wpo_nil ?_
        refine awp_seq ?_
        refine awp_region rfl ?_
        refine wpo_rd (a := (eErr c36)) rfl rfl rfl (h_ld tk hH 0 rfl rfl rfl (hsp := nsp_err _)) ?_
        refine wpo_mv (a := (eErr c36)) rfl rfl rfl (o_as tk rfl (Wk.refl _)) ?_
        refine wpo_nil ?_
        refine awp_ret ?_
        obtain rfl := Option.some.inj H35
        exact ⟨_, (eErr c36), rfl, (.of_eq rfl), .of_eq (encErr.cut _ _ _), (hH.noT.drop n11)⟩
      · refine awp_skip ?_
        refine awp_seq ?_
        refine awp_region rfl ?_
        refine wpo_rd (a := (eErr v17)) rfl rfl rfl (h_ld tk hH 0 rfl rfl rfl (hsp := nsp_err _)) ?_
        refine wpo_mv (a := (eErr v17)) rfl rfl rfl (o_as tk rfl (Wk.refl _)) ?_
        refine wpo_nil ?_
        refine awp_ret ?_
        obtain rfl := Option.some.inj H30
        exact ⟨_, (eErr v17), rfl, (.of_eq rfl), .of_eq (encErr.cut _ _ _), (hH.noT.drop n11)⟩
    · refine awp_region rfl ?_
      refine wpo_rd (a := (eErr v17)) rfl rfl rfl (h_ld tk hH 0 rfl rfl rfl (hsp := nsp_err _)) ?_
      refine wpo_lt hs20 eB rfl rfl rfl (o_err_eql tk rfl rfl rfl) fun v23 H22 => ?_
      refine wpo_mv (a := (eB v23)) rfl rfl rfl (o_mv tk rfl (Wk.refl _)) ?_
      refine if_split H22 (fun hb H24 => ?_) (fun hb H24 => ?_)
      · subst hb
        refine wpo_mv (a := (.fptr (c_api_Entry x0) 4)) rfl rfl rfl (o_c tk false rfl (fun _ => rfl)) ?_
        refine wpo_mv (a := ((eL 1 (@eU .u8 8)) x0.Value)) rfl rfl rfl (o_ld tk rfl rfl) ?_
        refine wpo_lt H24 eI rfl rfl rfl (o_len tk td22 rfl) fun v26 H25 => ?_
        refine wpo_lt H25 eB rfl rfl rfl (o_ar tk rfl rfl rfl) fun v28 H27 => ?_
        refine wpo_mv (a := (eB v28)) rfl rfl rfl (o_pick_t tk rfl rfl (Wk.refl _)) ?_
        refine wpo_nil ?_
        have e := Option.some.inj H27
        subst e
        exact ⟨(wkf_cons (.of_eq rfl) (wkf_cons (.of_eq rfl) (wkf_cons (.of_eq rfl) (wkf_nil _)))), hH⟩
      · subst hb
        refine wpo_skip rfl rfl rfl ?_
        refine wpo_skip rfl rfl rfl ?_
        refine wpo_skip rfl rfl rfl ?_
        refine wpo_skip rfl rfl rfl ?_
        refine wpo_mv (a := (eB false)) rfl rfl rfl (o_pick_f tk rfl rfl (Wk.refl _)) ?_
        refine wpo_nil ?_
        have e := Option.some.inj H24
        subst e
        exact ⟨(wkf_cons (.of_eq rfl) (wkf_cons (.of_eq rfl) (wkf_cons (.of_eq rfl) (wkf_nil _)))), hH⟩
end Go.Proofs.YthkfilchighbhaaDoor
namespace Go.Proofs.YthkfilchighbhaaDoor
open Go Go.Va
set_option linter.unusedVariables false
set_option linter.unusedSimpArgs false
set_option maxRecDepth 20000
theorem item_Same_ok {x0 : api_Entry} {x1 : api_Entry} {r : Bool} (H : item_Same x0 x1 = some r) (σ : St)  : ACall Tryd.prog 37 [(e_api_Entry x0), (e_api_Entry x1)] σ (fun a τ => a = eB r ∧ τ = σ) := by
  unfold item_Same at H
  refine ACall.pure (acall_start tk Tryd.func37 (by decide) rfl (Nat.le_of_ble_eq_true rfl) ?_)
  have hH := Holds.init σ
  refine awp_seq ?_
  refine awp_region rfl ?_
  refine wpo_mv (a := (.fptr (c_api_Entry x0) 0)) rfl rfl rfl (o_boxf tk rfl (.of_eq rfl) (b := (e_api_Entry x0)) (enc24.flat _)) ?_
  refine wpo_mv (a := (.fptr (c_api_Entry x1) 0)) rfl rfl rfl (o_boxf tk rfl (.of_eq rfl) (b := (e_api_Entry x1)) (enc24.flat _)) ?_
  refine wpo_mv (a := (eB false)) rfl rfl rfl (o_as tk rfl (Wk.refl _)) ?_
  refine wpo_nil ?_
  refine awp_seq ?_
  refine awp_region rfl ?_
  refine wpo_mv (a := (.fptr (c_api_Entry x0) 0)) rfl rfl rfl (o_c tk false rfl (fun _ => rfl)) ?_
  refine wpo_mv (a := (eS x0.Key)) rfl rfl rfl (o_ld tk rfl rfl) ?_
  refine wpo_mv (a := (.fptr (c_api_Entry x1) 0)) rfl rfl rfl (o_c tk false rfl (fun _ => rfl)) ?_
  refine wpo_mv (a := (eS x1.Key)) rfl rfl rfl (o_ld tk rfl rfl) ?_
  refine wpo_lt H eB rfl rfl rfl (o_eql_s tk rfl rfl) fun v2 H1 => ?_
  refine wpo_mv (a := (eB v2)) rfl rfl rfl (o_mv tk rfl (Wk.refl _)) ?_
  refine if_split H1 (fun hb H3 => ?_) (fun hb H3 => ?_)
  · subst hb
    refine wpo_mv (a := (.fptr (c_api_Entry x0) 1)) rfl rfl rfl (o_c tk false rfl (fun _ => rfl)) ?_
    refine wpo_mv (a := (eI x0.Version)) rfl rfl rfl (o_ld tk rfl rfl) ?_
    refine wpo_mv (a := (.fptr (c_api_Entry x1) 1)) rfl rfl rfl (o_c tk false rfl (fun _ => rfl)) ?_
    refine wpo_mv (a := (eI x1.Version)) rfl rfl rfl (o_ld tk rfl rfl) ?_
    refine wpo_lt H3 eB rfl rfl rfl (o_ar tk rfl rfl rfl) fun v5 H4 => ?_
    refine wpo_mv (a := (eB v5)) rfl rfl rfl (o_pick_t tk rfl rfl (Wk.refl _)) ?_
    refine wpo_mv (a := (eB v5)) rfl rfl rfl (o_mv tk rfl (Wk.refl _)) ?_
    refine if_split H4 (fun hb H6 => ?_) (fun hb H6 => ?_)
    · subst hb
      refine wpo_mv (a := (.fptr (c_api_Entry x0) 2)) rfl rfl rfl (o_c tk false rfl (fun _ => rfl)) ?_
      refine wpo_mv (a := (eI x0.AsOf)) rfl rfl rfl (o_ld tk rfl rfl) ?_
      refine wpo_mv (a := (.fptr (c_api_Entry x1) 2)) rfl rfl rfl (o_c tk false rfl (fun _ => rfl)) ?_
      refine wpo_mv (a := (eI x1.AsOf)) rfl rfl rfl (o_ld tk rfl rfl) ?_
      refine wpo_lt H6 eB rfl rfl rfl (o_ar tk rfl rfl rfl) fun v8 H7 => ?_
      refine wpo_mv (a := (eB v8)) rfl rfl rfl (o_pick_t tk rfl rfl (Wk.refl _)) ?_
      refine wpo_mv (a := (eB v8)) rfl rfl rfl (o_mv tk rfl (Wk.refl _)) ?_
      refine if_split H7 (fun hb H9 => ?_) (fun hb H9 => ?_)
      · subst hb
        refine wpo_mv (a := (.fptr (c_api_Entry x0) 3)) rfl rfl rfl (o_c tk false rfl (fun _ => rfl)) ?_
        refine wpo_mv (a := (eI x0.Ends)) rfl rfl rfl (o_ld tk rfl rfl) ?_
        refine wpo_mv (a := (.fptr (c_api_Entry x1) 3)) rfl rfl rfl (o_c tk false rfl (fun _ => rfl)) ?_
        refine wpo_mv (a := (eI x1.Ends)) rfl rfl rfl (o_ld tk rfl rfl) ?_
        refine wpo_lt H9 eB rfl rfl rfl (o_ar tk rfl rfl rfl) fun v11 H10 => ?_
        refine wpo_mv (a := (eB v11)) rfl rfl rfl (o_pick_t tk rfl rfl (Wk.refl _)) ?_
        refine wpo_mv (a := (eB v11)) rfl rfl rfl (o_mv tk rfl (Wk.refl _)) ?_
        refine if_split H10 (fun hb H12 => ?_) (fun hb H12 => ?_)
        · subst hb
          refine wpo_mv (a := (.fptr (c_api_Entry x0) 4)) rfl rfl rfl (o_c tk false rfl (fun _ => rfl)) ?_
          refine wpo_mv (a := ((eL 1 (@eU .u8 8)) x0.Value)) rfl rfl rfl (o_ld tk rfl rfl) ?_
          refine wpo_mv (a := (eS x0.Value)) rfl rfl rfl (o_b2s tk td22 td9 td5 rfl) ?_
          refine wpo_mv (a := (.fptr (c_api_Entry x1) 4)) rfl rfl rfl (o_c tk false rfl (fun _ => rfl)) ?_
          refine wpo_mv (a := ((eL 1 (@eU .u8 8)) x1.Value)) rfl rfl rfl (o_ld tk rfl rfl) ?_
          refine wpo_mv (a := (eS x1.Value)) rfl rfl rfl (o_b2s tk td22 td9 td5 rfl) ?_
          refine wpo_lt H12 eB rfl rfl rfl (o_eql_s tk rfl rfl) fun v14 H13 => ?_
          refine wpo_mv (a := (eB v14)) rfl rfl rfl (o_pick_t tk rfl rfl (Wk.refl _)) ?_
          refine wpo_mv (a := (eB v14)) rfl rfl rfl (o_as tk rfl (Wk.refl _)) ?_
          refine wpo_nil ?_
          refine awp_ret ?_
          obtain rfl := Option.some.inj H13
          exact ⟨_, (eB v14), rfl, (.of_eq rfl), .of_eq ((enc_b td4 sz4).cut _ _ _), hH.noT⟩
        · subst hb
          refine wpo_skip rfl rfl rfl ?_
          refine wpo_skip rfl rfl rfl ?_
          refine wpo_skip rfl rfl rfl ?_
          refine wpo_skip rfl rfl rfl ?_
          refine wpo_skip rfl rfl rfl ?_
          refine wpo_skip rfl rfl rfl ?_
          refine wpo_skip rfl rfl rfl ?_
          refine wpo_mv (a := (eB false)) rfl rfl rfl (o_pick_f tk rfl rfl (Wk.refl _)) ?_
          refine wpo_mv (a := (eB false)) rfl rfl rfl (o_as tk rfl (Wk.refl _)) ?_
          refine wpo_nil ?_
          refine awp_ret ?_
          obtain rfl := Option.some.inj H12
          exact ⟨_, (eB false), rfl, (.of_eq rfl), .of_eq ((enc_b td4 sz4).cut _ _ _), hH.noT⟩
      · subst hb
        refine wpo_skip rfl rfl rfl ?_
        refine wpo_skip rfl rfl rfl ?_
        refine wpo_skip rfl rfl rfl ?_
        refine wpo_skip rfl rfl rfl ?_
        refine wpo_skip rfl rfl rfl ?_
        refine wpo_mv (a := (eB false)) rfl rfl rfl (o_pick_f tk rfl rfl (Wk.refl _)) ?_
        refine wpo_mv (a := (eB false)) rfl rfl rfl (o_mv tk rfl (Wk.refl _)) ?_
        refine wpo_skip rfl rfl rfl ?_
        refine wpo_skip rfl rfl rfl ?_
        refine wpo_skip rfl rfl rfl ?_
        refine wpo_skip rfl rfl rfl ?_
        refine wpo_skip rfl rfl rfl ?_
        refine wpo_skip rfl rfl rfl ?_
        refine wpo_skip rfl rfl rfl ?_
        refine wpo_mv (a := (eB false)) rfl rfl rfl (o_pick_f tk rfl rfl (Wk.refl _)) ?_
        refine wpo_mv (a := (eB false)) rfl rfl rfl (o_as tk rfl (Wk.refl _)) ?_
        refine wpo_nil ?_
        refine awp_ret ?_
        obtain rfl := Option.some.inj H9
        exact ⟨_, (eB false), rfl, (.of_eq rfl), .of_eq ((enc_b td4 sz4).cut _ _ _), hH.noT⟩
    · subst hb
      refine wpo_skip rfl rfl rfl ?_
      refine wpo_skip rfl rfl rfl ?_
      refine wpo_skip rfl rfl rfl ?_
      refine wpo_skip rfl rfl rfl ?_
      refine wpo_skip rfl rfl rfl ?_
      refine wpo_mv (a := (eB false)) rfl rfl rfl (o_pick_f tk rfl rfl (Wk.refl _)) ?_
      refine wpo_mv (a := (eB false)) rfl rfl rfl (o_mv tk rfl (Wk.refl _)) ?_
      refine wpo_skip rfl rfl rfl ?_
      refine wpo_skip rfl rfl rfl ?_
      refine wpo_skip rfl rfl rfl ?_
      refine wpo_skip rfl rfl rfl ?_
      refine wpo_skip rfl rfl rfl ?_
      refine wpo_mv (a := (eB false)) rfl rfl rfl (o_pick_f tk rfl rfl (Wk.refl _)) ?_
      refine wpo_mv (a := (eB false)) rfl rfl rfl (o_mv tk rfl (Wk.refl _)) ?_
      refine wpo_skip rfl rfl rfl ?_
      refine wpo_skip rfl rfl rfl ?_
      refine wpo_skip rfl rfl rfl ?_
      refine wpo_skip rfl rfl rfl ?_
      refine wpo_skip rfl rfl rfl ?_
      refine wpo_skip rfl rfl rfl ?_
      refine wpo_skip rfl rfl rfl ?_
      refine wpo_mv (a := (eB false)) rfl rfl rfl (o_pick_f tk rfl rfl (Wk.refl _)) ?_
      refine wpo_mv (a := (eB false)) rfl rfl rfl (o_as tk rfl (Wk.refl _)) ?_
      refine wpo_nil ?_
      refine awp_ret ?_
      obtain rfl := Option.some.inj H6
      exact ⟨_, (eB false), rfl, (.of_eq rfl), .of_eq ((enc_b td4 sz4).cut _ _ _), hH.noT⟩
  · subst hb
    refine wpo_skip rfl rfl rfl ?_
    refine wpo_skip rfl rfl rfl ?_
    refine wpo_skip rfl rfl rfl ?_
    refine wpo_skip rfl rfl rfl ?_
    refine wpo_skip rfl rfl rfl ?_
    refine wpo_mv (a := (eB false)) rfl rfl rfl (o_pick_f tk rfl rfl (Wk.refl _)) ?_
    refine wpo_mv (a := (eB false)) rfl rfl rfl (o_mv tk rfl (Wk.refl _)) ?_
    refine wpo_skip rfl rfl rfl ?_
    refine wpo_skip rfl rfl rfl ?_
    refine wpo_skip rfl rfl rfl ?_
    refine wpo_skip rfl rfl rfl ?_
    refine wpo_skip rfl rfl rfl ?_
    refine wpo_mv (a := (eB false)) rfl rfl rfl (o_pick_f tk rfl rfl (Wk.refl _)) ?_
    refine wpo_mv (a := (eB false)) rfl rfl rfl (o_mv tk rfl (Wk.refl _)) ?_
    refine wpo_skip rfl rfl rfl ?_
    refine wpo_skip rfl rfl rfl ?_
    refine wpo_skip rfl rfl rfl ?_
    refine wpo_skip rfl rfl rfl ?_
    refine wpo_skip rfl rfl rfl ?_
    refine wpo_mv (a := (eB false)) rfl rfl rfl (o_pick_f tk rfl rfl (Wk.refl _)) ?_
    refine wpo_mv (a := (eB false)) rfl rfl rfl (o_mv tk rfl (Wk.refl _)) ?_
    refine wpo_skip rfl rfl rfl ?_
    refine wpo_skip rfl rfl rfl ?_
    refine wpo_skip rfl rfl rfl ?_
    refine wpo_skip rfl rfl rfl ?_
    refine wpo_skip rfl rfl rfl ?_
    refine wpo_skip rfl rfl rfl ?_
    refine wpo_skip rfl rfl rfl ?_
    refine wpo_mv (a := (eB false)) rfl rfl rfl (o_pick_f tk rfl rfl (Wk.refl _)) ?_
    refine wpo_mv (a := (eB false)) rfl rfl rfl (o_as tk rfl (Wk.refl _)) ?_
    refine wpo_nil ?_
    refine awp_ret ?_
    obtain rfl := Option.some.inj H3
    exact ⟨_, (eB false), rfl, (.of_eq rfl), .of_eq ((enc_b td4 sz4).cut _ _ _), hH.noT⟩
end Go.Proofs.YthkfilchighbhaaDoor
namespace Go.Proofs.YthkfilchighbhaaDoor
open Go Go.Va
set_option linter.unusedVariables false
set_option linter.unusedSimpArgs false
set_option maxRecDepth 20000
theorem wire_Check_ok {x0 : api_Msg} {r : Err} (H : wire_Check x0 = some r) (σ : St)  : ACall Tryd.prog 13 [(e_api_Msg x0)] σ (fun a τ => a = eErr r ∧ τ = σ) := by
  unfold wire_Check at H
  refine ACall.pure (acall_start tk Tryd.func13 (by decide) rfl (Nat.le_of_ble_eq_true rfl) ?_)
  have hH := Holds.init σ
  refine awp_seq ?_
  refine awp_region rfl ?_
  refine wpo_mv (a := (.fptr (c_api_Msg x0) 0)) rfl rfl rfl (o_boxf tk rfl (.of_eq rfl) (b := (e_api_Msg x0)) (enc26.flat _)) ?_
  refine wpo_mv (a := (eErr Err.nil)) rfl rfl rfl (o_as tk rfl (Wk.refl _)) ?_
  refine wpo_nil ?_
  refine awp_seq ?_
  refine awp_seq ?_
  obtain ⟨s1, hs3, hj4⟩ := Option.bind_eq_some_iff.1 H
  refine awp_cutn (fun fr τ => WkF fr (fm [(1, (.fptr (c_api_Msg x0) 0)), (17, (eB s1))]) ∧ Holds σ [] [] τ) ?_ ?_
  · rintro fr τ ⟨hfr, hH⟩
    have H10 := hj4
    refine AWP.fm [(1, (.fptr (c_api_Msg x0) 0)), (17, (eB s1))] hfr ?_
    refine awp_if H10 rfl (fun H11 => ?_) (fun H11 => ?_)
    · refine awp_seq ?_
      refine awp_region rfl ?_
      refine wpo_mv (a := (.fptr (c_api_Msg x0) 0)) rfl rfl rfl (o_c tk false rfl (fun _ => rfl)) ?_
      refine wpo_mv (a := (eI x0.Kind)) rfl rfl rfl (o_ld tk rfl rfl) ?_
      refine wpo_bd H11 eErr rfl rfl rfl (fun v13 hv => OpP.of_call rfl rfl (.cons (.of_eq rfl) (.cons (.of_eq rfl) (.cons (.of_eq rfl) .nil))) (trouble_New_ok hv)) fun v13 hv13 H12 => ?_
      refine wpo_mv (a := (eErr v13)) rfl rfl rfl (o_as tk rfl (Wk.refl _)) ?_
      refine wpo_nil ?_
      refine awp_ret ?_
      obtain rfl := Option.some.inj H12
      exact ⟨_, (eErr v13), rfl, (.of_eq rfl), .of_eq (encErr.cut _ _ _), hH.noT⟩
    · refine awp_skip ?_
      refine awp_seq ?_
      refine awp_drawS mixed [] rfl (by decide +kernel) rfl rfl ?_
      refine wpdS_mv (a := (.fptr (c_api_Msg x0) 1)) rfl rfl rfl (o_c tk false rfl (fun _ => rfl)) ?_
      refine wpdS_mv (a := (eI x0.From)) rfl rfl rfl (o_ld tk rfl rfl) ?_
      refine wpdS_mv (a := (.fptr (c_api_Msg x0) 2)) rfl rfl rfl (o_c tk false rfl (fun _ => rfl)) ?_
      refine wpdS_mv (a := (eI x0.To)) rfl rfl rfl (o_ld tk rfl rfl) ?_
      refine wpdS_mv (a := (eI x0.From)) rfl rfl rfl (o_as tk rfl (Wk.refl _)) ?_
      refine wpdS_mv (a := (eI x0.To)) rfl rfl rfl (o_as tk rfl (Wk.refl _)) ?_
      refine wpdS_nil ?_
      refine awp_seq ?_
      refine awp_seq ?_
      refine awp_region rfl ?_
      refine wpo_mv (a := (.fptr (c_api_Msg x0) 0)) rfl rfl rfl (o_c tk false rfl (fun _ => rfl)) ?_
      refine wpo_mv (a := (eI x0.Kind)) rfl rfl rfl (o_ld tk rfl rfl) ?_
      refine wpo_bd H11 eB rfl rfl rfl (fun v15 hv => OpP.of_call rfl rfl (.cons (.of_eq rfl) .nil) (wire_down_ok hv)) fun v15 hv15 H14 => ?_
      refine wpo_nil ?_
      obtain ⟨s16, hs18, hj19⟩ := Option.bind_eq_some_iff.1 H14
      refine awp_cutn (fun fr τ => WkF fr (fm [(1, (.fptr (c_api_Msg x0) 0)), (3, (eI s16.1)), (4, (eI s16.2))]) ∧ Holds σ [] [] τ) ?_ ?_
      · rintro fr τ ⟨hfr, hH⟩
        have H21 := hj19
        refine AWP.fm [(1, (.fptr (c_api_Msg x0) 0)), (3, (eI s16.1)), (4, (eI s16.2))] hfr ?_
        refine awp_seq ?_
        refine awp_block ?_
        refine awp_seq ?_
        obtain ⟨s22, hs24, hj25⟩ := Option.bind_eq_some_iff.1 H21
        refine awp_cutn (fun fr τ => WkF fr (fm [(1, (.fptr (c_api_Msg x0) 0)), (3, (eI s16.1)), (30, (eB s22))]) ∧ Holds σ [] [] τ) ?_ ?_
        · rintro fr τ ⟨hfr, hH⟩
          have H34 := hj25
          refine AWP.fm [(1, (.fptr (c_api_Msg x0) 0)), (3, (eI s16.1)), (30, (eB s22))] hfr ?_
          refine awp_if H34 rfl (fun H35 => ?_) (fun H35 => ?_)
          · refine awp_seq ?_
            refine awp_region rfl ?_
            refine wpo_mv (a := (eI s16.1)) rfl rfl rfl (o_mv tk rfl (Wk.refl _)) ?_
            refine wpo_bd H35 eErr rfl rfl rfl (fun v37 hv => OpP.of_call rfl rfl (.cons (.of_eq rfl) (.cons (.of_eq rfl) (.cons (.of_eq rfl) .nil))) (trouble_New_ok hv)) fun v37 hv37 H36 => ?_
            refine wpo_mv (a := (eErr v37)) rfl rfl rfl (o_as tk rfl (Wk.refl _)) ?_
            refine wpo_nil ?_
            refine awp_ret ?_
            obtain rfl := Option.some.inj H36
            exact ⟨_, (eErr v37), rfl, (.of_eq rfl), .of_eq (encErr.cut _ _ _), hH.noT⟩
          · refine awp_seq ?_
            obtain ⟨s38, hs40, hj41⟩ := Option.bind_eq_some_iff.1 H35
            refine awp_cutn (fun fr τ => WkF fr (fm [(1, (.fptr (c_api_Msg x0) 0)), (43, (eB s38))]) ∧ Holds σ [] [] τ) ?_ ?_
            · rintro fr τ ⟨hfr, hH⟩
              have H47 := hj41
              refine AWP.fm [(1, (.fptr (c_api_Msg x0) 0)), (43, (eB s38))] hfr ?_
              refine awp_if H47 rfl (fun H48 => ?_) (fun H48 => ?_)
              · refine awp_seq ?_
                refine awp_region rfl ?_
                refine wpo_mv (a := (.fptr (c_api_Msg x0) 3)) rfl rfl rfl (o_c tk false rfl (fun _ => rfl)) ?_
                refine wpo_mv (a := (eI x0.Epoch)) rfl rfl rfl (o_ld tk rfl rfl) ?_
                refine wpo_bd H48 eErr rfl rfl rfl (fun v50 hv => OpP.of_call rfl rfl (.cons (.of_eq rfl) (.cons (.of_eq rfl) (.cons (.of_eq rfl) .nil))) (trouble_New_ok hv)) fun v50 hv50 H49 => ?_
                refine wpo_mv (a := (eErr v50)) rfl rfl rfl (o_as tk rfl (Wk.refl _)) ?_
                refine wpo_nil ?_
                refine awp_ret ?_
                obtain rfl := Option.some.inj H49
                exact ⟨_, (eErr v50), rfl, (.of_eq rfl), .of_eq (encErr.cut _ _ _), hH.noT⟩
              · refine awp_skip ?_
                refine awp_seq ?_
                refine awp_region rfl ?_
                refine wpo_mv (a := (e_api_Msg x0)) rfl rfl rfl (o_ld tk rfl rfl) ?_
                refine wpo_a (av := fun id => .ref id 0) rfl rfl rfl (h_allocw tk hH ty26 (c_api_Msg z_api_Msg) (.cons (.of_eq rfl) (.cons (.of_eq rfl) (.cons (.of_eq rfl) (.cons (.of_eq rfl) (.cons (.of_eq rfl) (.cons (.of_eq rfl) (.cons (.of_eq rfl) (.cons (.of_eq rfl) (.cons (.of_eq rfl) (.cons (wk_nils _) (.cons (.of_eq rfl) .nil)))))))))))) fun id51 τ ⟨hH, n52⟩ => ?_
                obtain ⟨c54, hc55, H53⟩ := lt_ex H48
                refine wpo_z rfl rfl (h_st tk hH 0 rfl ty26 (by simp) rfl rfl (.of_eq rfl) (b := (e_api_Msg x0)) (enc26.flat _) rfl (Nat.le_of_ble_eq_true rfl) (c_api_Msg c54) (by rw [← hc55]; rfl)) fun τ hH => ?_
                refine wpo_nil ?_
                refine awp_seq ?_
                refine awp_region rfl ?_
                refine wpo_mv (a := (.ref id51 0)) rfl rfl rfl (o_c tk false rfl (fun _ => rfl)) ?_
                obtain ⟨c57, hc58, H56⟩ := lt_ex H53
                refine wpo_z rfl rfl (h_st tk hH 0 rfl ty3 (by simp) rfl rfl (.of_eq rfl) (b := (eI (0 : Int))) rfl rfl (Nat.le_of_ble_eq_true rfl) (c_api_Msg c57) (by rw [← hc58]; rfl)) fun τ hH => ?_
                refine wpo_mv (a := (.ref id51 1)) rfl rfl rfl (o_c tk false rfl (fun _ => rfl)) ?_
                obtain ⟨c60, hc61, H59⟩ := lt_ex H56
                refine wpo_z rfl rfl (h_st tk hH 0 rfl ty3 (by simp) rfl rfl (.of_eq rfl) (b := (eI (0 : Int))) rfl rfl (Nat.le_of_ble_eq_true rfl) (c_api_Msg c60) (by rw [← hc61]; rfl)) fun τ hH => ?_
                refine wpo_mv (a := (.ref id51 2)) rfl rfl rfl (o_c tk false rfl (fun _ => rfl)) ?_
                obtain ⟨c63, hc64, H62⟩ := lt_ex H59
                refine wpo_z rfl rfl (h_st tk hH 0 rfl ty3 (by simp) rfl rfl (.of_eq rfl) (b := (eI (0 : Int))) rfl rfl (Nat.le_of_ble_eq_true rfl) (c_api_Msg c63) (by rw [← hc64]; rfl)) fun τ hH => ?_
                refine wpo_mv (a := (.ref id51 3)) rfl rfl rfl (o_c tk false rfl (fun _ => rfl)) ?_
                obtain ⟨c66, hc67, H65⟩ := lt_ex H62
                refine wpo_z rfl rfl (h_st tk hH 0 rfl ty3 (by simp) rfl rfl (.of_eq rfl) (b := (eI (0 : Int))) rfl rfl (Nat.le_of_ble_eq_true rfl) (c_api_Msg c66) (by rw [← hc67]; rfl)) fun τ hH => ?_
                refine wpo_nil ?_
                refine awp_seq ?_
                refine awp_seq ?_
                refine awp_region rfl ?_
                refine wpo_mv (a := (.fptr (c_api_Msg x0) 0)) rfl rfl rfl (o_c tk false rfl (fun _ => rfl)) ?_
                refine wpo_mv (a := (eI x0.Kind)) rfl rfl rfl (o_ld tk rfl rfl) ?_
                refine wpo_bd H65 eS rfl rfl rfl (fun v69 hv => OpP.of_call rfl rfl (.cons (.of_eq rfl) .nil) (wire_parts_ok hv)) fun v69 hv69 H68 => ?_
                refine wpo_a (av := fun id => .spc id) rfl rfl rfl (h_range tk hH td9 rfl) fun id70 τ ⟨hH, n71⟩ => ?_
                refine wpo_nil ?_
                refine awp_block ?_
                obtain ⟨o74, hs75, hj76⟩ := Option.bind_eq_some_iff.1 H68
                refine awp_cutx 1 (fun fr τ => ∃ s81 : (List (BitVec 8) × Nat) × api_Msg, o74 = .inl s81 ∧ WkF fr (fm [(1, (.fptr (c_api_Msg x0) 0)), (5, (.ref id51 0))]) ∧ Holds σ [(id70, (cIt s81.1)), (id51, (c_api_Msg s81.2))] [] τ) ?_ ?_
                · rintro fr τ ⟨s81, rfl, hfr, hH⟩
                  have H166 := hj76
                  simp only [Sum.elim_inl] at H166
                  refine AWP.fm [(1, (.fptr (c_api_Msg x0) 0)), (5, (.ref id51 0))] hfr ?_
                  refine awp_seq ?_
                  refine awp_seq ?_
                  obtain ⟨s167, hs169, hj170⟩ := Option.bind_eq_some_iff.1 H166
                  refine awp_cutn (fun fr τ => WkF fr (fm [(1, (.fptr (c_api_Msg x0) 0)), (148, (eB s167))]) ∧ Holds σ [(id70, (cIt s81.1)), (id51, (c_api_Msg s81.2))] [] τ) ?_ ?_
                  · rintro fr τ ⟨hfr, hH⟩
                    have H179 := hj170
                    refine AWP.fm [(1, (.fptr (c_api_Msg x0) 0)), (148, (eB s167))] hfr ?_
                    refine awp_if H179 rfl (fun H180 => ?_) (fun H180 => ?_)
                    · refine awp_seq ?_
                      refine awp_region rfl ?_
                      refine wpo_mv (a := (.fptr (c_api_Msg x0) 0)) rfl rfl rfl (o_c tk false rfl (fun _ => rfl)) ?_
                      refine wpo_mv (a := (eI x0.Kind)) rfl rfl rfl (o_ld tk rfl rfl) ?_
                      refine wpo_bd H180 eErr rfl rfl rfl (fun v182 hv => OpP.of_call rfl rfl (.cons (.of_eq rfl) (.cons (.of_eq rfl) (.cons (.of_eq rfl) .nil))) (trouble_New_ok hv)) fun v182 hv182 H181 => ?_
                      refine wpo_mv (a := (eErr v182)) rfl rfl rfl (o_as tk rfl (Wk.refl _)) ?_
                      refine wpo_nil ?_
                      refine awp_ret ?_
                      obtain rfl := Option.some.inj H181
                      exact ⟨_, (eErr v182), rfl, (.of_eq rfl), .of_eq (encErr.cut _ _ _), ((hH.noT.drop n71).drop n52)⟩
                    · refine awp_skip ?_
                      refine awp_seq ?_
                      refine awp_region rfl ?_
                      refine wpo_mv (a := (eErr Err.nil)) rfl rfl rfl (o_as tk rfl (Wk.refl _)) ?_
                      refine wpo_nil ?_
                      refine awp_ret ?_
                      obtain rfl := Option.some.inj H180
                      exact ⟨_, (eErr Err.nil), rfl, (.of_eq rfl), .of_eq (encErr.cut _ _ _), ((hH.noT.drop n71).drop n52)⟩
                  · refine awp_region rfl ?_
                    refine wpo_mv (a := (.ref id51 4)) rfl rfl rfl (o_c tk false rfl (fun _ => rfl)) ?_
                    refine wpo_rd (a := (eI s81.2.Id)) rfl rfl rfl (h_ld tk hH 1 rfl rfl rfl) ?_
                    refine wpo_lt hs169 eB rfl rfl rfl (o_ar tk rfl rfl rfl) fun v172 H171 => ?_
                    refine wpo_mv (a := (eB v172)) rfl rfl rfl (o_mv tk rfl (Wk.refl _)) ?_
                    refine if_split H171 (fun hb H173 => ?_) (fun hb H173 => ?_)
                    · subst hb
                      refine wpo_skip rfl rfl rfl ?_
                      refine wpo_skip rfl rfl rfl ?_
                      refine wpo_mv (a := (eB true)) rfl rfl rfl (o_pick_t tk rfl rfl (Wk.refl _)) ?_
                      refine wpo_mv (a := (eB true)) rfl rfl rfl (o_mv tk rfl (Wk.refl _)) ?_
                      refine wpo_skip rfl rfl rfl ?_
                      refine wpo_skip rfl rfl rfl ?_
                      refine wpo_skip rfl rfl rfl ?_
                      refine wpo_skip rfl rfl rfl ?_
                      refine wpo_skip rfl rfl rfl ?_
                      refine wpo_mv (a := (eB true)) rfl rfl rfl (o_pick_t tk rfl rfl (Wk.refl _)) ?_
                      refine wpo_nil ?_
                      have e := Option.some.inj H173
                      subst e
                      exact ⟨(wkf_cons (.of_eq rfl) (wkf_cons (.of_eq rfl) (wkf_nil _))), hH⟩
                    · subst hb
                      refine wpo_mv (a := (.ref id51 10)) rfl rfl rfl (o_c tk false rfl (fun _ => rfl)) ?_
                      refine wpo_rd (a := (eB s81.2.Found)) rfl rfl rfl (h_ld tk hH 1 rfl rfl rfl) ?_
                      refine wpo_mv (a := (eB s81.2.Found)) rfl rfl rfl (o_pick_f tk rfl rfl (Wk.refl _)) ?_
                      refine wpo_mv (a := (eB s81.2.Found)) rfl rfl rfl (o_mv tk rfl (Wk.refl _)) ?_
                      refine if_split H173 (fun hb H174 => ?_) (fun hb H174 => ?_)
                      · rw [hb]
                        refine wpo_skip rfl rfl rfl ?_
                        refine wpo_skip rfl rfl rfl ?_
                        refine wpo_skip rfl rfl rfl ?_
                        refine wpo_skip rfl rfl rfl ?_
                        refine wpo_skip rfl rfl rfl ?_
                        refine wpo_mv (a := (eB true)) rfl rfl rfl (o_pick_t tk rfl rfl (Wk.refl _)) ?_
                        refine wpo_nil ?_
                        have e := Option.some.inj H174
                        subst e
                        exact ⟨(wkf_cons (.of_eq rfl) (wkf_cons (.of_eq rfl) (wkf_nil _))), hH⟩
                      · rw [hb]
                        refine wpo_mv (a := (.ref id51 5)) rfl rfl rfl (o_c tk false rfl (fun _ => rfl)) ?_
                        refine wpo_rd (a := (e_api_Entry s81.2.X)) rfl rfl rfl (h_ld tk hH 1 rfl rfl rfl) ?_
                        refine wpo_mv (a := (.agg [(eS (⟨([] : List (BitVec 8)), (0 : Int), (0 : Int), (0 : Int), ([] : List (BitVec 8))⟩ : api_Entry).Key), (eI (⟨([] : List (BitVec 8)), (0 : Int), (0 : Int), (0 : Int), ([] : List (BitVec 8))⟩ : api_Entry).Version), (eI (⟨([] : List (BitVec 8)), (0 : Int), (0 : Int), (0 : Int), ([] : List (BitVec 8))⟩ : api_Entry).AsOf), (eI (⟨([] : List (BitVec 8)), (0 : Int), (0 : Int), (0 : Int), ([] : List (BitVec 8))⟩ : api_Entry).Ends), AV.nils])) rfl rfl rfl (o_c tk false rfl (fun _ => rfl)) ?_
                        refine wpo_bd H174 eB rfl rfl rfl (fun v176 hv => OpP.of_call rfl rfl (.cons (.of_eq rfl) (.cons (wk_agg (.cons (.of_eq rfl) (.cons (.of_eq rfl) (.cons (.of_eq rfl) (.cons (.of_eq rfl) (.cons (wk_nils _) .nil)))))) .nil)) (item_Same_ok hv)) fun v176 hv176 H175 => ?_
                        refine wpo_lt H175 eB rfl rfl rfl (o_un tk rfl rfl) fun v178 H177 => ?_
                        refine wpo_mv (a := (eB v178)) rfl rfl rfl (o_pick_f tk rfl rfl (Wk.refl _)) ?_
                        refine wpo_nil ?_
                        have e := Option.some.inj H177
                        subst e
                        exact ⟨(wkf_cons (.of_eq rfl) (wkf_cons (.of_eq rfl) (wkf_nil _))), hH⟩
                · refine awp_loopO (body := fun s => wire_Check_b0 x0 s.1 s.2) hs75 (fun (s : (List (BitVec 8) × Nat) × api_Msg) fr τ => WkF fr (fm [(1, (.fptr (c_api_Msg x0) 0)), (5, (.ref id51 0)), (63, (.spc id70))]) ∧ Holds σ [(id70, (cIt s.1)), (id51, (c_api_Msg s.2))] [] τ) ⟨(wkf_cons (.of_eq rfl) (wkf_cons (.of_eq rfl) (wkf_cons (.of_eq rfl) (wkf_nil _)))), hH⟩ ?_
                  rintro ⟨c72, c73⟩ fr τ y77 ⟨hfr, hH⟩ hb79 hy80
                  have H82 : wire_Check_b0 x0 c72 c73 = some y77 := hb79
                  unfold wire_Check_b0 at H82
                  refine AWP.fm [(1, (.fptr (c_api_Msg x0) 0)), (5, (.ref id51 0)), (63, (.spc id70))] hfr ?_
                  have hH : Holds σ [(id70, (cIt c72)), (id51, (c_api_Msg c73))] [] τ := hH
                  refine awp_seq ?_
                  refine awp_region rfl ?_
                  obtain ⟨v84, hv85, H83⟩ := Option.bind_eq_some_iff.1 H82
                  rcases v84 with _ | c86
                  · rw [Option.elim_none] at H83
                    refine wpo_a (av := fun _ => .tup [eB false]) rfl rfl rfl (h_next0 hH 0 hv85 rfl rfl) fun _ τ hH => ?_
                    refine wpo_mv (a := (eB false)) rfl rfl rfl (o_ext tk rfl rfl) ?_
                    refine wpo_nil ?_
                    refine awp_seq ?_
                    refine awp_false rfl ?_
                    refine awp_exit ?_
                    have hz := hy80 _ (inj_inr H83)
                    exact ⟨⟨_, inj_inr H83⟩, (c72, c73), hz.symm, (wkf_cons (.of_eq rfl) (wkf_cons (.of_eq rfl) (wkf_nil _))), hH⟩
                  · rw [Option.elim_some] at H83
                    refine wpo_a (av := fun _ => .tup [eB true, eI (c72.2 : Int), eK .i32 c86]) rfl rfl rfl (h_next1 hH 0 hv85 rfl rfl) fun _ τ (hH : Holds σ [(id70, (cIt (c72.1, c72.2 + 1))), (id51, (c_api_Msg c73))] [] τ) => ?_
                    refine wpo_mv (a := (eB true)) rfl rfl rfl (o_ext tk rfl rfl) ?_
                    refine wpo_nil ?_
                    refine awp_seq ?_
                    refine awp_true rfl ?_
                    refine awp_skip ?_
                    refine awp_block ?_
                    refine awp_seq ?_
                    refine awp_region rfl ?_
                    refine wpo_mv (a := ((eK .i32) c86)) rfl rfl rfl (o_ext tk rfl rfl) ?_
                    refine wpo_mv (a := ((eK .i32) c86)) rfl rfl rfl (o_as tk rfl (Wk.refl _)) ?_
                    refine wpo_nil ?_
                    refine awp_seq ?_
                    refine awp_region rfl ?_
                    refine wpo_mv (a := ((eK .i32) c86)) rfl rfl rfl (o_mv tk rfl (Wk.refl _)) ?_
                    refine wpo_nil ?_
                    refine awp_block ?_
                    refine awp_seq ?_
                    refine awp_region rfl ?_
                    refine wpo_lt H83 eB rfl rfl rfl (o_ar tk rfl rfl rfl) fun v88 H87 => ?_
                    refine wpo_mv (a := (eB v88)) rfl rfl rfl (o_as tk rfl (Wk.refl _)) ?_
                    refine wpo_nil ?_
                    refine awp_if H87 rfl (fun H89 => ?_) (fun H89 => ?_)
                    · refine awp_seq ?_
                      refine awp_seq ?_
                      obtain ⟨s90, hs92, hj93⟩ := Option.bind_eq_some_iff.1 H89
                      refine awp_cutn (fun fr τ => WkF fr (fm [(1, (.fptr (c_api_Msg x0) 0)), (5, (.ref id51 0)), (63, (.spc id70)), (77, (eB s90))]) ∧ Holds σ [(id70, (cIt (c72.1, c72.2 + 1))), (id51, (c_api_Msg c73))] [] τ) ?_ ?_
                      · rintro fr τ ⟨hfr, hH⟩
                        have H99 := hj93
                        refine AWP.fm [(1, (.fptr (c_api_Msg x0) 0)), (5, (.ref id51 0)), (63, (.spc id70)), (77, (eB s90))] hfr ?_
                        refine awp_if H99 rfl (fun H100 => ?_) (fun H100 => ?_)
                        · refine awp_seq ?_
                          refine awp_region rfl ?_
                          refine wpo_mv (a := (.fptr (c_api_Msg x0) 4)) rfl rfl rfl (o_c tk false rfl (fun _ => rfl)) ?_
                          refine wpo_mv (a := (eI x0.Id)) rfl rfl rfl (o_ld tk rfl rfl) ?_
                          refine wpo_bd H100 eErr rfl rfl rfl (fun v102 hv => OpP.of_call rfl rfl (.cons (.of_eq rfl) (.cons (.of_eq rfl) (.cons (.of_eq rfl) .nil))) (trouble_New_ok hv)) fun v102 hv102 H101 => ?_
                          refine wpo_mv (a := (eErr v102)) rfl rfl rfl (o_as tk rfl (Wk.refl _)) ?_
                          refine wpo_nil ?_
                          refine awp_ret ?_
                          have hz := hy80 _ (inj_inr H101)
                          refine ⟨⟨_, inj_inr H101⟩, ?_⟩
                          rw [← hz] at hj76
                          have H103 := (show some _ = some _ from hj76)
                          obtain rfl := Option.some.inj H103
                          exact ⟨_, (eErr v102), rfl, (.of_eq rfl), .of_eq (encErr.cut _ _ _), ((hH.noT.drop n71).drop n52)⟩
                        · refine awp_skip ?_
                          refine awp_region rfl ?_
                          refine wpo_mv (a := (.ref id51 4)) rfl rfl rfl (o_c tk false rfl (fun _ => rfl)) ?_
                          obtain ⟨c105, hc106, H104⟩ := lt_ex H100
                          refine wpo_z rfl rfl (h_st tk hH 1 rfl ty3 (by simp) rfl rfl (.of_eq rfl) (b := (eI (0 : Int))) rfl rfl (Nat.le_of_ble_eq_true rfl) (c_api_Msg c105) (by rw [← hc106]; rfl)) fun τ hH => ?_
                          refine wpo_nil ?_
                          exact ⟨((c72.1, c72.2 + 1), c105), inj_inl H104, (wkf_cons (.of_eq rfl) (wkf_cons (.of_eq rfl) (wkf_cons (.of_eq rfl) (wkf_nil _)))), hH⟩
                      · refine awp_region rfl ?_
                        refine wpo_mv (a := (.fptr (c_api_Msg x0) 4)) rfl rfl rfl (o_c tk false rfl (fun _ => rfl)) ?_
                        refine wpo_mv (a := (eI x0.Id)) rfl rfl rfl (o_ld tk rfl rfl) ?_
                        refine wpo_lt hs92 eB rfl rfl rfl (o_ar tk rfl rfl rfl) fun v95 H94 => ?_
                        refine wpo_mv (a := (eB v95)) rfl rfl rfl (o_mv tk rfl (Wk.refl _)) ?_
                        refine if_split H94 (fun hb H96 => ?_) (fun hb H96 => ?_)
                        · subst hb
                          refine wpo_skip rfl rfl rfl ?_
                          refine wpo_skip rfl rfl rfl ?_
                          refine wpo_skip rfl rfl rfl ?_
                          refine wpo_mv (a := (eB true)) rfl rfl rfl (o_pick_t tk rfl rfl (Wk.refl _)) ?_
                          refine wpo_nil ?_
                          have e := Option.some.inj H96
                          subst e
                          exact ⟨(wkf_cons (.of_eq rfl) (wkf_cons (.of_eq rfl) (wkf_cons (.of_eq rfl) (wkf_cons (.of_eq rfl) (wkf_nil _))))), hH⟩
                        · subst hb
                          refine wpo_mv (a := (.fptr (c_api_Msg x0) 4)) rfl rfl rfl (o_c tk false rfl (fun _ => rfl)) ?_
                          refine wpo_mv (a := (eI x0.Id)) rfl rfl rfl (o_ld tk rfl rfl) ?_
                          refine wpo_lt H96 eB rfl rfl rfl (o_ar tk rfl rfl rfl) fun v98 H97 => ?_
                          refine wpo_mv (a := (eB v98)) rfl rfl rfl (o_pick_f tk rfl rfl (Wk.refl _)) ?_
                          refine wpo_nil ?_
                          have e := Option.some.inj H97
                          subst e
                          exact ⟨(wkf_cons (.of_eq rfl) (wkf_cons (.of_eq rfl) (wkf_cons (.of_eq rfl) (wkf_cons (.of_eq rfl) (wkf_nil _))))), hH⟩
                    · refine awp_seq ?_
                      refine awp_region rfl ?_
                      refine wpo_lt H89 eB rfl rfl rfl (o_ar tk rfl rfl rfl) fun v108 H107 => ?_
                      refine wpo_mv (a := (eB v108)) rfl rfl rfl (o_as tk rfl (Wk.refl _)) ?_
                      refine wpo_nil ?_
                      refine awp_if H107 rfl (fun H109 => ?_) (fun H109 => ?_)
                      · refine awp_seq ?_
                        refine awp_seq ?_
                        refine awp_region rfl ?_
                        refine wpo_mv (a := (.fptr (c_api_Msg x0) 5)) rfl rfl rfl (o_c tk false rfl (fun _ => rfl)) ?_
                        refine wpo_mv (a := (.fptr (c_api_Msg x0) 5)) rfl rfl rfl (o_c tk false rfl (fun _ => rfl)) ?_
                        refine wpo_mv (a := (eS x0.X.Key)) rfl rfl rfl (o_ld tk rfl rfl) ?_
                        refine wpo_bd H109 eI rfl rfl rfl (fun v111 hv => OpP.of_call rfl rfl (.cons (.of_eq rfl) .nil) (octets_Key_ok hv)) fun v111 hv111 H110 => ?_
                        refine wpo_mv (a := (eI v111)) rfl rfl rfl (o_as tk rfl (Wk.refl _)) ?_
                        refine wpo_nil ?_
                        refine awp_seq ?_
                        refine awp_region rfl ?_
                        refine wpo_mv (a := (eI v111)) rfl rfl rfl (o_mv tk rfl (Wk.refl _)) ?_
                        refine wpo_lt H110 eB rfl rfl rfl (o_ar tk rfl rfl rfl) fun v113 H112 => ?_
                        refine wpo_nil ?_
                        refine awp_if H112 rfl (fun H114 => ?_) (fun H114 => ?_)
                        · refine awp_seq ?_
                          refine awp_region rfl ?_
                          refine wpo_mv (a := (.fptr (c_api_Msg x0) 5)) rfl rfl rfl (o_c tk false rfl (fun _ => rfl)) ?_
                          refine wpo_mv (a := (.fptr (c_api_Msg x0) 5)) rfl rfl rfl (o_c tk false rfl (fun _ => rfl)) ?_
                          refine wpo_mv (a := (eS x0.X.Key)) rfl rfl rfl (o_ld tk rfl rfl) ?_
                          refine wpo_lt H114 eI rfl rfl rfl (o_len_s tk td9 rfl) fun v116 H115 => ?_
                          refine wpo_mv (a := (eI v111)) rfl rfl rfl (o_mv tk rfl (Wk.refl _)) ?_
                          refine wpo_bd H115 eErr rfl rfl rfl (fun v118 hv => OpP.of_call rfl rfl (.cons (.of_eq rfl) (.cons (.of_eq rfl) (.cons (.of_eq rfl) .nil))) (trouble_New_ok hv)) fun v118 hv118 H117 => ?_
                          refine wpo_mv (a := (eErr v118)) rfl rfl rfl (o_as tk rfl (Wk.refl _)) ?_
                          refine wpo_nil ?_
                          refine awp_ret ?_
                          have hz := hy80 _ (inj_inr H117)
                          refine ⟨⟨_, inj_inr H117⟩, ?_⟩
                          rw [← hz] at hj76
                          have H119 := (show some _ = some _ from hj76)
                          obtain rfl := Option.some.inj H119
                          exact ⟨_, (eErr v118), rfl, (.of_eq rfl), .of_eq (encErr.cut _ _ _), ((hH.noT.drop n71).drop n52)⟩
                        · refine awp_skip ?_
                          refine awp_region rfl ?_
                          refine wpo_mv (a := (.ref id51 5)) rfl rfl rfl (o_c tk false rfl (fun _ => rfl)) ?_
                          refine wpo_mv (a := (.ref id51 5)) rfl rfl rfl (o_c tk false rfl (fun _ => rfl)) ?_
                          obtain ⟨c121, hc122, H120⟩ := lt_ex H114
                          refine wpo_z rfl rfl (h_st tk hH 1 rfl ty9 (by simp) rfl rfl (.of_eq rfl) (b := (eS ([] : List (BitVec 8)))) rfl rfl (Nat.le_of_ble_eq_true rfl) (c_api_Msg c121) (by rw [← hc122]; rfl)) fun τ hH => ?_
                          refine wpo_nil ?_
                          exact ⟨((c72.1, c72.2 + 1), c121), inj_inl H120, (wkf_cons (.of_eq rfl) (wkf_cons (.of_eq rfl) (wkf_cons (.of_eq rfl) (wkf_nil _)))), hH⟩
                      · refine awp_seq ?_
                        refine awp_region rfl ?_
                        refine wpo_lt H109 eB rfl rfl rfl (o_ar tk rfl rfl rfl) fun v124 H123 => ?_
                        refine wpo_mv (a := (eB v124)) rfl rfl rfl (o_as tk rfl (Wk.refl _)) ?_
                        refine wpo_nil ?_
                        refine awp_if H123 rfl (fun H125 => ?_) (fun H125 => ?_)
                        · refine awp_seq ?_
                          refine awp_seq ?_
                          obtain ⟨s126, hs128, hj129⟩ := Option.bind_eq_some_iff.1 H125
                          refine awp_cutn (fun fr τ => WkF fr (fm [(1, (.fptr (c_api_Msg x0) 0)), (5, (.ref id51 0)), (63, (.spc id70)), (109, (eB s126))]) ∧ Holds σ [(id70, (cIt (c72.1, c72.2 + 1))), (id51, (c_api_Msg c73))] [] τ) ?_ ?_
                          · rintro fr τ ⟨hfr, hH⟩
                            have H135 := hj129
                            refine AWP.fm [(1, (.fptr (c_api_Msg x0) 0)), (5, (.ref id51 0)), (63, (.spc id70)), (109, (eB s126))] hfr ?_
                            refine awp_if H135 rfl (fun H136 => ?_) (fun H136 => ?_)
                            · refine awp_seq ?_
                              refine awp_region rfl ?_
                              refine wpo_mv (a := (.fptr (c_api_Msg x0) 5)) rfl rfl rfl (o_c tk false rfl (fun _ => rfl)) ?_
                              refine wpo_mv (a := (.fptr (c_api_Msg x0) 7)) rfl rfl rfl (o_c tk false rfl (fun _ => rfl)) ?_
                              refine wpo_mv (a := (eI x0.X.AsOf)) rfl rfl rfl (o_ld tk rfl rfl) ?_
                              refine wpo_bd H136 eErr rfl rfl rfl (fun v138 hv => OpP.of_call rfl rfl (.cons (.of_eq rfl) (.cons (.of_eq rfl) (.cons (.of_eq rfl) .nil))) (trouble_New_ok hv)) fun v138 hv138 H137 => ?_
                              refine wpo_mv (a := (eErr v138)) rfl rfl rfl (o_as tk rfl (Wk.refl _)) ?_
                              refine wpo_nil ?_
                              refine awp_ret ?_
                              have hz := hy80 _ (inj_inr H137)
                              refine ⟨⟨_, inj_inr H137⟩, ?_⟩
                              rw [← hz] at hj76
                              have H139 := (show some _ = some _ from hj76)
                              obtain rfl := Option.some.inj H139
                              exact ⟨_, (eErr v138), rfl, (.of_eq rfl), .of_eq (encErr.cut _ _ _), ((hH.noT.drop n71).drop n52)⟩
                            · refine awp_skip ?_
                              refine awp_region rfl ?_
                              refine wpo_mv (a := (.ref id51 5)) rfl rfl rfl (o_c tk false rfl (fun _ => rfl)) ?_
                              refine wpo_mv (a := (.ref id51 7)) rfl rfl rfl (o_c tk false rfl (fun _ => rfl)) ?_
                              obtain ⟨c141, hc142, H140⟩ := lt_ex H136
                              refine wpo_z rfl rfl (h_st tk hH 1 rfl ty3 (by simp) rfl rfl (.of_eq rfl) (b := (eI (0 : Int))) rfl rfl (Nat.le_of_ble_eq_true rfl) (c_api_Msg c141) (by rw [← hc142]; rfl)) fun τ hH => ?_
                              refine wpo_nil ?_
                              exact ⟨((c72.1, c72.2 + 1), c141), inj_inl H140, (wkf_cons (.of_eq rfl) (wkf_cons (.of_eq rfl) (wkf_cons (.of_eq rfl) (wkf_nil _)))), hH⟩
                          · refine awp_region rfl ?_
                            refine wpo_mv (a := (.fptr (c_api_Msg x0) 5)) rfl rfl rfl (o_c tk false rfl (fun _ => rfl)) ?_
                            refine wpo_mv (a := (.fptr (c_api_Msg x0) 7)) rfl rfl rfl (o_c tk false rfl (fun _ => rfl)) ?_
                            refine wpo_mv (a := (eI x0.X.AsOf)) rfl rfl rfl (o_ld tk rfl rfl) ?_
                            refine wpo_lt hs128 eB rfl rfl rfl (o_ar tk rfl rfl rfl) fun v131 H130 => ?_
                            refine wpo_mv (a := (eB v131)) rfl rfl rfl (o_mv tk rfl (Wk.refl _)) ?_
                            refine if_split H130 (fun hb H132 => ?_) (fun hb H132 => ?_)
                            · subst hb
                              refine wpo_skip rfl rfl rfl ?_
                              refine wpo_skip rfl rfl rfl ?_
                              refine wpo_skip rfl rfl rfl ?_
                              refine wpo_skip rfl rfl rfl ?_
                              refine wpo_mv (a := (eB true)) rfl rfl rfl (o_pick_t tk rfl rfl (Wk.refl _)) ?_
                              refine wpo_nil ?_
                              have e := Option.some.inj H132
                              subst e
                              exact ⟨(wkf_cons (.of_eq rfl) (wkf_cons (.of_eq rfl) (wkf_cons (.of_eq rfl) (wkf_cons (.of_eq rfl) (wkf_nil _))))), hH⟩
                            · subst hb
                              refine wpo_mv (a := (.fptr (c_api_Msg x0) 5)) rfl rfl rfl (o_c tk false rfl (fun _ => rfl)) ?_
                              refine wpo_mv (a := (.fptr (c_api_Msg x0) 7)) rfl rfl rfl (o_c tk false rfl (fun _ => rfl)) ?_
                              refine wpo_mv (a := (eI x0.X.AsOf)) rfl rfl rfl (o_ld tk rfl rfl) ?_
                              refine wpo_lt H132 eB rfl rfl rfl (o_ar tk rfl rfl rfl) fun v134 H133 => ?_
                              refine wpo_mv (a := (eB v134)) rfl rfl rfl (o_pick_f tk rfl rfl (Wk.refl _)) ?_
                              refine wpo_nil ?_
                              have e := Option.some.inj H133
                              subst e
                              exact ⟨(wkf_cons (.of_eq rfl) (wkf_cons (.of_eq rfl) (wkf_cons (.of_eq rfl) (wkf_cons (.of_eq rfl) (wkf_nil _))))), hH⟩
                        · refine awp_seq ?_
                          refine awp_region rfl ?_
                          refine wpo_lt H125 eB rfl rfl rfl (o_ar tk rfl rfl rfl) fun v144 H143 => ?_
                          refine wpo_mv (a := (eB v144)) rfl rfl rfl (o_as tk rfl (Wk.refl _)) ?_
                          refine wpo_nil ?_
                          refine awp_if H143 rfl (fun H145 => ?_) (fun H145 => ?_)
                          · refine awp_region rfl ?_
                            refine wpo_mv (a := (.ref id51 10)) rfl rfl rfl (o_c tk false rfl (fun _ => rfl)) ?_
                            obtain ⟨c147, hc148, H146⟩ := lt_ex H145
                            refine wpo_z rfl rfl (h_st tk hH 1 rfl ty4 (by simp) rfl rfl (.of_eq rfl) (b := (eB false)) rfl rfl (Nat.le_of_ble_eq_true rfl) (c_api_Msg c147) (by rw [← hc148]; rfl)) fun τ hH => ?_
                            refine wpo_nil ?_
                            exact ⟨((c72.1, c72.2 + 1), c147), inj_inl H146, (wkf_cons (.of_eq rfl) (wkf_cons (.of_eq rfl) (wkf_cons (.of_eq rfl) (wkf_nil _)))), hH⟩
                          · refine awp_seq ?_
                            refine awp_region rfl ?_
                            refine wpo_lt H145 eB rfl rfl rfl (o_ar tk rfl rfl rfl) fun v150 H149 => ?_
                            refine wpo_mv (a := (eB v150)) rfl rfl rfl (o_as tk rfl (Wk.refl _)) ?_
                            refine wpo_nil ?_
                            refine awp_if H149 rfl (fun H151 => ?_) (fun H151 => ?_)
                            · refine awp_seq ?_
                              refine awp_seq ?_
                              refine awp_region rfl ?_
                              refine wpo_mv (a := (.fptr (c_api_Msg x0) 10)) rfl rfl rfl (o_c tk false rfl (fun _ => rfl)) ?_
                              refine wpo_mv (a := (eB x0.Found)) rfl rfl rfl (o_ld tk rfl rfl) ?_
                              refine wpo_lt H151 eB rfl rfl rfl (o_un tk rfl rfl) fun v153 H152 => ?_
                              refine wpo_nil ?_
                              refine awp_if H152 rfl (fun H154 => ?_) (fun H154 => ?_)
                              · refine awp_exit ?_
                                exact ⟨((c72.1, c72.2 + 1), c73), inj_inl H154, (wkf_cons (.of_eq rfl) (wkf_cons (.of_eq rfl) (wkf_cons (.of_eq rfl) (wkf_nil _)))), hH⟩
                              · refine awp_skip ?_
                                refine awp_seq ?_
                                refine awp_seq ?_
                                refine awp_region rfl ?_
                                refine wpo_mv (a := (.fptr (c_api_Msg x0) 5)) rfl rfl rfl (o_c tk false rfl (fun _ => rfl)) ?_
                                refine wpo_mv (a := (e_api_Entry x0.X)) rfl rfl rfl (o_ld tk rfl rfl) ?_
                                refine wpo_bd H154 eErr rfl rfl rfl (fun v156 hv => OpP.of_call rfl rfl (.cons (.of_eq rfl) .nil) (item_Check_ok hv)) fun v156 hv156 H155 => ?_
                                refine wpo_mv (a := (eErr v156)) rfl rfl rfl (o_as tk rfl (Wk.refl _)) ?_
                                refine wpo_nil ?_
                                refine awp_seq ?_
                                refine awp_region rfl ?_
                                refine wpo_mv (a := (eErr v156)) rfl rfl rfl (o_mv tk rfl (Wk.refl _)) ?_
                                refine wpo_lt H155 eB rfl rfl rfl (o_err_neq tk rfl rfl rfl) fun v158 H157 => ?_
                                refine wpo_nil ?_
                                refine awp_if H157 rfl (fun H159 => ?_) (fun H159 => ?_)
                                · refine awp_seq ?_
                                  refine awp_region rfl ?_
                                  refine wpo_mv (a := (.fptr (c_api_Msg x0) 4)) rfl rfl rfl (o_c tk false rfl (fun _ => rfl)) ?_
                                  refine wpo_mv (a := (eI x0.Id)) rfl rfl rfl (o_ld tk rfl rfl) ?_
                                  refine wpo_mv (a := (eErr v156)) rfl rfl rfl (o_mv tk rfl (Wk.refl _)) ?_
                                  refine wpo_bd H159 eErr rfl rfl rfl (fun v161 hv => OpP.of_call rfl rfl (.cons (.of_eq rfl) (.cons (.of_eq rfl) (.cons (.of_eq rfl) .nil))) (trouble_Wrap_ok hv)) fun v161 hv161 H160 => ?_
                                  refine wpo_mv (a := (eErr v161)) rfl rfl rfl (o_as tk rfl (Wk.refl _)) ?_
                                  refine wpo_nil ?_
                                  refine awp_ret ?_
                                  have hz := hy80 _ (inj_inr H160)
                                  refine ⟨⟨_, inj_inr H160⟩, ?_⟩
                                  rw [← hz] at hj76
                                  have H162 := (show some _ = some _ from hj76)
                                  obtain rfl := Option.some.inj H162
                                  exact ⟨_, (eErr v161), rfl, (.of_eq rfl), .of_eq (encErr.cut _ _ _), ((hH.noT.drop n71).drop n52)⟩
                                · refine awp_skip ?_
                                  refine awp_region rfl ?_
                                  refine wpo_mv (a := (.agg [(eS (⟨([] : List (BitVec 8)), (0 : Int), (0 : Int), (0 : Int), ([] : List (BitVec 8))⟩ : api_Entry).Key), (eI (⟨([] : List (BitVec 8)), (0 : Int), (0 : Int), (0 : Int), ([] : List (BitVec 8))⟩ : api_Entry).Version), (eI (⟨([] : List (BitVec 8)), (0 : Int), (0 : Int), (0 : Int), ([] : List (BitVec 8))⟩ : api_Entry).AsOf), (eI (⟨([] : List (BitVec 8)), (0 : Int), (0 : Int), (0 : Int), ([] : List (BitVec 8))⟩ : api_Entry).Ends), AV.nils])) rfl rfl rfl (o_c tk false rfl (fun _ => rfl)) ?_
                                  refine wpo_mv (a := (.ref id51 5)) rfl rfl rfl (o_c tk false rfl (fun _ => rfl)) ?_
                                  obtain ⟨c164, hc165, H163⟩ := lt_ex H159
                                  refine wpo_z rfl rfl (h_st (y := (.agg [(eS (⟨([] : List (BitVec 8)), (0 : Int), (0 : Int), (0 : Int), ([] : List (BitVec 8))⟩ : api_Entry).Key), (eI (⟨([] : List (BitVec 8)), (0 : Int), (0 : Int), (0 : Int), ([] : List (BitVec 8))⟩ : api_Entry).Version), (eI (⟨([] : List (BitVec 8)), (0 : Int), (0 : Int), (0 : Int), ([] : List (BitVec 8))⟩ : api_Entry).AsOf), (eI (⟨([] : List (BitVec 8)), (0 : Int), (0 : Int), (0 : Int), ([] : List (BitVec 8))⟩ : api_Entry).Ends), AV.nils])) tk hH 1 rfl ty24 (by simp) rfl rfl (wk_agg (.cons (.of_eq rfl) (.cons (.of_eq rfl) (.cons (.of_eq rfl) (.cons (.of_eq rfl) (.cons (wk_nils _) .nil)))))) (b := (e_api_Entry (⟨([] : List (BitVec 8)), (0 : Int), (0 : Int), (0 : Int), ([] : List (BitVec 8))⟩ : api_Entry))) (enc24.flat _) rfl (Nat.le_of_ble_eq_true rfl) (c_api_Msg c164) (by rw [← hc165]; rfl)) fun τ hH => ?_
                                  refine wpo_nil ?_
                                  exact ⟨((c72.1, c72.2 + 1), c164), inj_inl H163, (wkf_cons (.of_eq rfl) (wkf_cons (.of_eq rfl) (wkf_cons (.of_eq rfl) (wkf_nil _)))), hH⟩
                            · refine awp_skip ?_
                              exact ⟨((c72.1, c72.2 + 1), c73), inj_inl H151, (wkf_cons (.of_eq rfl) (wkf_cons (.of_eq rfl) (wkf_cons (.of_eq rfl) (wkf_nil _)))), hH⟩
            · refine awp_region rfl ?_
              refine wpo_mv (a := (.fptr (c_api_Msg x0) 3)) rfl rfl rfl (o_c tk false rfl (fun _ => rfl)) ?_
              refine wpo_mv (a := (eI x0.Epoch)) rfl rfl rfl (o_ld tk rfl rfl) ?_
              refine wpo_lt hs40 eB rfl rfl rfl (o_ar tk rfl rfl rfl) fun v43 H42 => ?_
              refine wpo_mv (a := (eB v43)) rfl rfl rfl (o_mv tk rfl (Wk.refl _)) ?_
              refine if_split H42 (fun hb H44 => ?_) (fun hb H44 => ?_)
              · subst hb
                refine wpo_skip rfl rfl rfl ?_
                refine wpo_skip rfl rfl rfl ?_
                refine wpo_skip rfl rfl rfl ?_
                refine wpo_mv (a := (eB true)) rfl rfl rfl (o_pick_t tk rfl rfl (Wk.refl _)) ?_
                refine wpo_mv (a := (eB true)) rfl rfl rfl (o_as tk rfl (Wk.refl _)) ?_
                refine wpo_nil ?_
                have e := Option.some.inj H44
                subst e
                exact ⟨(wkf_cons (.of_eq rfl) (wkf_cons (.of_eq rfl) (wkf_nil _))), hH⟩
              · subst hb
                refine wpo_mv (a := (.fptr (c_api_Msg x0) 3)) rfl rfl rfl (o_c tk false rfl (fun _ => rfl)) ?_
                refine wpo_mv (a := (eI x0.Epoch)) rfl rfl rfl (o_ld tk rfl rfl) ?_
                refine wpo_lt H44 eB rfl rfl rfl (o_ar tk rfl rfl rfl) fun v46 H45 => ?_
                refine wpo_mv (a := (eB v46)) rfl rfl rfl (o_pick_f tk rfl rfl (Wk.refl _)) ?_
                refine wpo_mv (a := (eB v46)) rfl rfl rfl (o_as tk rfl (Wk.refl _)) ?_
                refine wpo_nil ?_
                have e := Option.some.inj H45
                subst e
                exact ⟨(wkf_cons (.of_eq rfl) (wkf_cons (.of_eq rfl) (wkf_nil _))), hH⟩
        · refine awp_region rfl ?_
          refine wpo_mv (a := (eI s16.1)) rfl rfl rfl (o_mv tk rfl (Wk.refl _)) ?_
          refine wpo_lt hs24 eB rfl rfl rfl (o_ar tk rfl rfl rfl) fun v27 H26 => ?_
          refine wpo_mv (a := (eB v27)) rfl rfl rfl (o_mv tk rfl (Wk.refl _)) ?_
          refine if_split H26 (fun hb H28 => ?_) (fun hb H28 => ?_)
          · subst hb
            refine wpo_skip rfl rfl rfl ?_
            refine wpo_skip rfl rfl rfl ?_
            refine wpo_mv (a := (eB true)) rfl rfl rfl (o_pick_t tk rfl rfl (Wk.refl _)) ?_
            refine wpo_mv (a := (eB true)) rfl rfl rfl (o_mv tk rfl (Wk.refl _)) ?_
            refine wpo_skip rfl rfl rfl ?_
            refine wpo_skip rfl rfl rfl ?_
            refine wpo_mv (a := (eB true)) rfl rfl rfl (o_pick_t tk rfl rfl (Wk.refl _)) ?_
            refine wpo_mv (a := (eB true)) rfl rfl rfl (o_as tk rfl (Wk.refl _)) ?_
            refine wpo_nil ?_
            have e := Option.some.inj H28
            subst e
            exact ⟨(wkf_cons (.of_eq rfl) (wkf_cons (.of_eq rfl) (wkf_cons (.of_eq rfl) (wkf_nil _)))), hH⟩
          · subst hb
            refine wpo_mv (a := (eI s16.1)) rfl rfl rfl (o_mv tk rfl (Wk.refl _)) ?_
            refine wpo_lt H28 eB rfl rfl rfl (o_ar tk rfl rfl rfl) fun v30 H29 => ?_
            refine wpo_mv (a := (eB v30)) rfl rfl rfl (o_pick_f tk rfl rfl (Wk.refl _)) ?_
            refine wpo_mv (a := (eB v30)) rfl rfl rfl (o_mv tk rfl (Wk.refl _)) ?_
            refine if_split H29 (fun hb H31 => ?_) (fun hb H31 => ?_)
            · subst hb
              refine wpo_skip rfl rfl rfl ?_
              refine wpo_skip rfl rfl rfl ?_
              refine wpo_mv (a := (eB true)) rfl rfl rfl (o_pick_t tk rfl rfl (Wk.refl _)) ?_
              refine wpo_mv (a := (eB true)) rfl rfl rfl (o_as tk rfl (Wk.refl _)) ?_
              refine wpo_nil ?_
              have e := Option.some.inj H31
              subst e
              exact ⟨(wkf_cons (.of_eq rfl) (wkf_cons (.of_eq rfl) (wkf_cons (.of_eq rfl) (wkf_nil _)))), hH⟩
            · subst hb
              refine wpo_mv (a := (eI s16.2)) rfl rfl rfl (o_mv tk rfl (Wk.refl _)) ?_
              refine wpo_lt H31 eB rfl rfl rfl (o_ar tk rfl rfl rfl) fun v33 H32 => ?_
              refine wpo_mv (a := (eB v33)) rfl rfl rfl (o_pick_f tk rfl rfl (Wk.refl _)) ?_
              refine wpo_mv (a := (eB v33)) rfl rfl rfl (o_as tk rfl (Wk.refl _)) ?_
              refine wpo_nil ?_
              have e := Option.some.inj H32
              subst e
              exact ⟨(wkf_cons (.of_eq rfl) (wkf_cons (.of_eq rfl) (wkf_cons (.of_eq rfl) (wkf_nil _)))), hH⟩
      · refine awp_if hs18 rfl (fun H20 => ?_) (fun H20 => ?_)
        · refine awp_region rfl ?_
          refine wpo_mv (a := (eI x0.To)) rfl rfl rfl (o_mv tk rfl (Wk.refl _)) ?_
          refine wpo_mv (a := (eI x0.From)) rfl rfl rfl (o_mv tk rfl (Wk.refl _)) ?_
          refine wpo_mv (a := (eI x0.To)) rfl rfl rfl (o_as tk rfl (Wk.refl _)) ?_
          refine wpo_mv (a := (eI x0.From)) rfl rfl rfl (o_as tk rfl (Wk.refl _)) ?_
          refine wpo_nil ?_
          have e := Option.some.inj H20
          subst e
          exact ⟨(wkf_cons (.of_eq rfl) (wkf_cons (.of_eq rfl) (wkf_cons (.of_eq rfl) (wkf_nil _)))), hH⟩
        · refine awp_skip ?_
          have e := Option.some.inj H20
          subst e
          exact ⟨(wkf_cons (.of_eq rfl) (wkf_cons (.of_eq rfl) (wkf_cons (.of_eq rfl) (wkf_nil _)))), hH⟩
  · refine awp_region rfl ?_
    refine wpo_mv (a := (.fptr (c_api_Msg x0) 0)) rfl rfl rfl (o_c tk false rfl (fun _ => rfl)) ?_
    refine wpo_mv (a := (eI x0.Kind)) rfl rfl rfl (o_ld tk rfl rfl) ?_
    refine wpo_lt hs3 eB rfl rfl rfl (o_ar tk rfl rfl rfl) fun v6 H5 => ?_
    refine wpo_mv (a := (eB v6)) rfl rfl rfl (o_mv tk rfl (Wk.refl _)) ?_
    refine if_split H5 (fun hb H7 => ?_) (fun hb H7 => ?_)
    · subst hb
      refine wpo_skip rfl rfl rfl ?_
      refine wpo_skip rfl rfl rfl ?_
      refine wpo_skip rfl rfl rfl ?_
      refine wpo_mv (a := (eB true)) rfl rfl rfl (o_pick_t tk rfl rfl (Wk.refl _)) ?_
      refine wpo_nil ?_
      have e := Option.some.inj H7
      subst e
      exact ⟨(wkf_cons (.of_eq rfl) (wkf_cons (.of_eq rfl) (wkf_nil _))), hH⟩
    · subst hb
      refine wpo_mv (a := (.fptr (c_api_Msg x0) 0)) rfl rfl rfl (o_c tk false rfl (fun _ => rfl)) ?_
      refine wpo_mv (a := (eI x0.Kind)) rfl rfl rfl (o_ld tk rfl rfl) ?_
      refine wpo_lt H7 eB rfl rfl rfl (o_ar tk rfl rfl rfl) fun v9 H8 => ?_
      refine wpo_mv (a := (eB v9)) rfl rfl rfl (o_pick_f tk rfl rfl (Wk.refl _)) ?_
      refine wpo_nil ?_
      have e := Option.some.inj H8
      subst e
      exact ⟨(wkf_cons (.of_eq rfl) (wkf_cons (.of_eq rfl) (wkf_nil _))), hH⟩
end Go.Proofs.YthkfilchighbhaaDoor
namespace Go.Proofs.YthkfilchighbhaaDoor
open Go Go.Va
set_option linter.unusedVariables false
set_option linter.unusedSimpArgs false
set_option maxRecDepth 20000
theorem checksum_Four_ok {x0 : BitVec 32} {r : (List (BitVec 8))} (H : checksum_Four x0 = some r) (σ : St)  : ACall Tryd.prog 53 [((@eU .u32 32) x0)] σ (fun a τ => a = (eA (@eU .u8 8)) r ∧ τ = σ) := by
  unfold checksum_Four at H
  refine ACall.pure (acall_start tk Tryd.func53 (by decide) rfl (Nat.le_of_ble_eq_true rfl) ?_)
  have hH := Holds.init σ
  refine awp_seq ?_
  refine awp_region rfl ?_
  refine wpo_a (av := fun id => .ref id 0) rfl rfl rfl (h_alloc tk hH ty85 (cL (@eU .u8 8) (List.replicate 4 0#8)) rfl) fun id1 τ ⟨hH, n2⟩ => ?_
  refine wpo_nil ?_
  refine awp_seq ?_
  refine awp_region rfl ?_
  refine wpo_mv (a := ((@eU .u32 32) x0)) rfl rfl rfl (o_mv tk rfl (Wk.refl _)) ?_
  refine wpo_lt H (@eU .u8 8) rfl rfl rfl (o_cv_uu tk td49 td5 rfl rfl) fun v4 H3 => ?_
  refine wpo_mv (a := ((@eU .u32 32) x0)) rfl rfl rfl (o_mv tk rfl (Wk.refl _)) ?_
  refine wpo_lt H3 (@eU .u32 32) rfl rfl rfl (o_shr_u tk rfl (y := (8 : Int)) rfl rfl rfl) fun v6 H5 => ?_
  refine wpo_lt H5 (@eU .u8 8) rfl rfl rfl (o_cv_uu tk td49 td5 rfl rfl) fun v8 H7 => ?_
  refine wpo_mv (a := ((@eU .u32 32) x0)) rfl rfl rfl (o_mv tk rfl (Wk.refl _)) ?_
  refine wpo_lt H7 (@eU .u32 32) rfl rfl rfl (o_shr_u tk rfl (y := (16 : Int)) rfl rfl rfl) fun v10 H9 => ?_
  refine wpo_lt H9 (@eU .u8 8) rfl rfl rfl (o_cv_uu tk td49 td5 rfl rfl) fun v12 H11 => ?_
  refine wpo_mv (a := ((@eU .u32 32) x0)) rfl rfl rfl (o_mv tk rfl (Wk.refl _)) ?_
  refine wpo_lt H11 (@eU .u32 32) rfl rfl rfl (o_shr_u tk rfl (y := (24 : Int)) rfl rfl rfl) fun v14 H13 => ?_
  refine wpo_lt H13 (@eU .u8 8) rfl rfl rfl (o_cv_uu tk td49 td5 rfl rfl) fun v16 H15 => ?_
  refine wpo_lt H15 (eA (@eU .u8 8)) rfl rfl rfl (o_c tk false rfl (fun _ => rfl)) fun v18 H17 => ?_
  obtain ⟨c20, hc21, H19⟩ := Option.bind_eq_some_iff.1 H17
  refine wpo_z rfl rfl (h_stw tk hH 0 hc21 rfl (enc_u td5 sz5) ty85 rfl (by simp) rfl rfl) fun τ hH => ?_
  refine wpo_nil ?_
  refine awp_ret ?_
  obtain ⟨w22, hw22, H23⟩ := Option.bind_eq_some_iff.1 H19
  obtain ⟨hw22, rfl⟩ := whole_some hw22
  obtain rfl := Option.some.inj H23
  exact ⟨_, ((eA (@eU .u8 8)) w22), (ares_1 (ares_cell hH 0 rfl rfl (acut_whole (enc_u td5 sz5) td85 sz85 rfl (hw22)) (hsp := spcl_cL (enc_u td5 sz5) _))), (.of_eq rfl), .of_eq ((cut_eA (enc_u td5 sz5).cut) _ _ _), (hH.noT.drop n2)⟩
end Go.Proofs.YthkfilchighbhaaDoor
namespace Go.Proofs.YthkfilchighbhaaDoor
open Go Go.Va
set_option linter.unusedVariables false
set_option linter.unusedSimpArgs false
set_option maxRecDepth 20000
theorem checksum_column_ok {x0 : BitVec 8} {r : (BitVec 32)} (H : checksum_column x0 = some r) (σ : St)  : ACall Tryd.prog 71 [((@eU .u8 8) x0)] σ (fun a τ => a = (@eU .u32 32) r ∧ τ = σ) := by
  unfold checksum_column at H
  refine ACall.pure (acall_start tk Tryd.func71 (by decide) rfl (Nat.le_of_ble_eq_true rfl) ?_)
  have hH := Holds.init σ
  refine awp_seq ?_
  refine awp_region rfl ?_
  refine wpo_mv (a := ((@eU .u32 32) 0#32)) rfl rfl rfl (o_as tk rfl (Wk.refl _)) ?_
  refine wpo_nil ?_
  refine awp_seq ?_
  refine awp_region rfl ?_
  refine wpo_mv (a := ((@eU .u8 8) x0)) rfl rfl rfl (o_mv tk rfl (Wk.refl _)) ?_
  refine wpo_lt H (@eU .u32 32) rfl rfl rfl (o_cv_uu tk td5 td49 rfl rfl) fun v2 H1 => ?_
  refine wpo_mv (a := ((@eU .u32 32) v2)) rfl rfl rfl (o_as tk rfl (Wk.refl _)) ?_
  refine wpo_nil ?_
  refine awp_seq ?_
  refine awp_seq ?_
  refine awp_region rfl ?_
  refine wpo_mv (a := (eI (0 : Int))) rfl rfl rfl (o_mv tk rfl (Wk.refl _)) ?_
  refine wpo_nil ?_
  refine awp_block ?_
  obtain ⟨s12, hs6, hj7⟩ := Option.bind_eq_some_iff.1 H1
  refine awp_cutx 0 (fun fr τ => WkF fr (fm [(3, ((@eU .u32 32) s12))]) ∧ Holds σ [] [] τ) ?_ ?_
  · rintro fr τ ⟨hfr, hH⟩
    have H32 := hj7
    refine AWP.fm [(3, ((@eU .u32 32) s12))] hfr ?_
    refine awp_seq ?_
    refine awp_region rfl ?_
    refine wpo_mv (a := ((@eU .u32 32) s12)) rfl rfl rfl (o_mv tk rfl (Wk.refl _)) ?_
    refine wpo_mv (a := ((@eU .u32 32) s12)) rfl rfl rfl (o_as tk rfl (Wk.refl _)) ?_
    refine wpo_nil ?_
    refine awp_ret ?_
    obtain rfl := Option.some.inj H32
    exact ⟨_, ((@eU .u32 32) s12), rfl, (.of_eq rfl), .of_eq ((enc_u td49 sz49).cut _ _ _), hH.noT⟩
  · refine awp_loopO (body := fun s => checksum_column_b0 s.1 s.2) hs6 (fun (s : (BitVec 32) × Int) fr τ => WkF fr (fm [(3, ((@eU .u32 32) s.1)), (6, (eI s.2))]) ∧ Holds σ [] [] τ) ⟨(wkf_cons (.of_eq rfl) (wkf_cons (.of_eq rfl) (wkf_nil _))), hH⟩ ?_
    rintro ⟨c3, c4⟩ fr τ y8 ⟨hfr, hH⟩ hb10 hy11
    have H13 : checksum_column_b0 c3 c4 = some y8 := hb10
    unfold checksum_column_b0 at H13
    refine AWP.fm [(3, ((@eU .u32 32) c3)), (6, (eI c4))] hfr ?_
    have hH : Holds σ [] [] τ := hH
    refine awp_seq ?_
    refine awp_region rfl ?_
    refine wpo_lt H13 eB rfl rfl rfl (o_ar tk rfl rfl rfl) fun v15 H14 => ?_
    refine wpo_nil ?_
    refine awp_seq ?_
    refine awp_if H14 rfl (fun H16 => ?_) (fun H16 => ?_)
    · refine awp_skip ?_
      refine awp_seq ?_
      refine awp_block ?_
      refine awp_seq ?_
      refine awp_region rfl ?_
      refine wpo_mv (a := ((@eU .u32 32) c3)) rfl rfl rfl (o_mv tk rfl (Wk.refl _)) ?_
      refine wpo_lt H16 (@eU .u32 32) rfl rfl rfl (o_and_u tk rfl rfl rfl) fun v18 H17 => ?_
      refine wpo_lt H17 eB rfl rfl rfl (o_eql_u tk rfl rfl) fun v20 H19 => ?_
      refine wpo_nil ?_
      refine awp_if H19 rfl (fun H21 => ?_) (fun H21 => ?_)
      · refine awp_region rfl ?_
        refine wpo_mv (a := ((@eU .u32 32) c3)) rfl rfl rfl (o_mv tk rfl (Wk.refl _)) ?_
        refine wpo_lt H21 (@eU .u32 32) rfl rfl rfl (o_shr_u tk rfl (y := (1 : Int)) rfl rfl rfl) fun v23 H22 => ?_
        refine wpo_lt H22 (@eU .u32 32) rfl rfl rfl (o_xor_u tk rfl rfl rfl) fun v25 H24 => ?_
        refine wpo_mv (a := ((@eU .u32 32) v25)) rfl rfl rfl (o_as tk rfl (Wk.refl _)) ?_
        refine wpo_nil ?_
        refine awp_region rfl ?_
        refine wpo_lt H24 eI rfl rfl rfl (o_ar tk rfl rfl rfl) fun v27 H26 => ?_
        refine wpo_mv (a := (eI v27)) rfl rfl rfl (o_mv tk rfl (Wk.refl _)) ?_
        refine wpo_nil ?_
        exact ⟨(v25, v27), inj_inl H26, (wkf_cons (.of_eq rfl) (wkf_cons (.of_eq rfl) (wkf_nil _))), hH⟩
      · refine awp_region rfl ?_
        refine wpo_mv (a := ((@eU .u32 32) c3)) rfl rfl rfl (o_mv tk rfl (Wk.refl _)) ?_
        refine wpo_lt H21 (@eU .u32 32) rfl rfl rfl (o_shr_u tk rfl (y := (1 : Int)) rfl rfl rfl) fun v29 H28 => ?_
        refine wpo_mv (a := ((@eU .u32 32) v29)) rfl rfl rfl (o_as tk rfl (Wk.refl _)) ?_
        refine wpo_nil ?_
        refine awp_region rfl ?_
        refine wpo_lt H28 eI rfl rfl rfl (o_ar tk rfl rfl rfl) fun v31 H30 => ?_
        refine wpo_mv (a := (eI v31)) rfl rfl rfl (o_mv tk rfl (Wk.refl _)) ?_
        refine wpo_nil ?_
        exact ⟨(v29, v31), inj_inl H30, (wkf_cons (.of_eq rfl) (wkf_cons (.of_eq rfl) (wkf_nil _))), hH⟩
    · refine awp_exit ?_
      have hz := hy11 _ (inj_inr H16)
      subst hz
      exact ⟨⟨_, inj_inr H16⟩, (wkf_cons (.of_eq rfl) (wkf_nil _)), hH⟩
end Go.Proofs.YthkfilchighbhaaDoor
namespace Go.Proofs.YthkfilchighbhaaDoor
open Go Go.Va
set_option linter.unusedVariables false
set_option linter.unusedSimpArgs false
set_option maxRecDepth 20000
theorem checksum_More_ok {x0 : BitVec 32} {x1 : List (BitVec 8)} {r : (BitVec 32)} (H : checksum_More x0 x1 = some r) (σ : St)  : ACall Tryd.prog 67 [((@eU .u32 32) x0), ((eL 1 (@eU .u8 8)) x1)] σ (fun a τ => a = (@eU .u32 32) r ∧ τ = σ) := by
  unfold checksum_More at H
  refine ACall.pure (acall_start tk Tryd.func67 (by decide) rfl (Nat.le_of_ble_eq_true rfl) ?_)
  have hH := Holds.init σ
  refine awp_seq ?_
  refine awp_region rfl ?_
  refine wpo_mv (a := ((@eU .u32 32) 0#32)) rfl rfl rfl (o_as tk rfl (Wk.refl _)) ?_
  refine wpo_nil ?_
  refine awp_seq ?_
  refine awp_region rfl ?_
  refine wpo_mv (a := ((@eU .u32 32) x0)) rfl rfl rfl (o_mv tk rfl (Wk.refl _)) ?_
  refine wpo_lt H (@eU .u32 32) rfl rfl rfl (o_not_u tk rfl rfl) fun v2 H1 => ?_
  refine wpo_mv (a := ((@eU .u32 32) v2)) rfl rfl rfl (o_as tk rfl (Wk.refl _)) ?_
  refine wpo_nil ?_
  refine awp_seq ?_
  refine awp_seq ?_
  refine awp_region rfl ?_
  refine wpo_mv (a := ((eL 1 (@eU .u8 8)) x1)) rfl rfl rfl (o_mv tk rfl (Wk.refl _)) ?_
  refine wpo_lt H1 eI rfl rfl rfl (o_len tk td22 rfl) fun v4 H3 => ?_
  refine wpo_mv (a := (eI (0 : Int))) rfl rfl rfl (o_mv tk rfl (Wk.refl _)) ?_
  refine wpo_nil ?_
  refine awp_block ?_
  obtain ⟨s14, hs8, hj9⟩ := Option.bind_eq_some_iff.1 H3
  refine awp_cutx 0 (fun fr τ => WkF fr (fm [(5, ((@eU .u32 32) s14))]) ∧ Holds σ [] [] τ) ?_ ?_
  · rintro fr τ ⟨hfr, hH⟩
    have H33 := hj9
    refine AWP.fm [(5, ((@eU .u32 32) s14))] hfr ?_
    refine awp_seq ?_
    refine awp_region rfl ?_
    refine wpo_mv (a := ((@eU .u32 32) s14)) rfl rfl rfl (o_mv tk rfl (Wk.refl _)) ?_
    refine wpo_lt H33 (@eU .u32 32) rfl rfl rfl (o_not_u tk rfl rfl) fun v35 H34 => ?_
    refine wpo_mv (a := ((@eU .u32 32) v35)) rfl rfl rfl (o_as tk rfl (Wk.refl _)) ?_
    refine wpo_nil ?_
    refine awp_ret ?_
    obtain rfl := Option.some.inj H34
    exact ⟨_, ((@eU .u32 32) v35), rfl, (.of_eq rfl), .of_eq ((enc_u td49 sz49).cut _ _ _), hH.noT⟩
  · refine awp_loopO (body := fun s => checksum_More_b0 x1 v4 s.1 s.2) hs8 (fun (s : (BitVec 32) × Int) fr τ => WkF fr (fm [(5, ((@eU .u32 32) s.1)), (10, ((eL 1 (@eU .u8 8)) x1)), (11, (eI v4)), (12, (eI s.2))]) ∧ Holds σ [] [] τ) ⟨(wkf_cons (.of_eq rfl) (wkf_cons (.of_eq rfl) (wkf_cons (.of_eq rfl) (wkf_cons (.of_eq rfl) (wkf_nil _))))), hH⟩ ?_
    rintro ⟨c5, c6⟩ fr τ y10 ⟨hfr, hH⟩ hb12 hy13
    have H15 : checksum_More_b0 x1 v4 c5 c6 = some y10 := hb12
    unfold checksum_More_b0 at H15
    refine AWP.fm [(5, ((@eU .u32 32) c5)), (10, ((eL 1 (@eU .u8 8)) x1)), (11, (eI v4)), (12, (eI c6))] hfr ?_
    have hH : Holds σ [] [] τ := hH
    refine awp_seq ?_
    refine awp_region rfl ?_
    refine wpo_lt H15 eB rfl rfl rfl (o_ar tk rfl rfl rfl) fun v17 H16 => ?_
    refine wpo_nil ?_
    refine awp_seq ?_
    refine awp_if H16 rfl (fun H18 => ?_) (fun H18 => ?_)
    · refine awp_skip ?_
      refine awp_seq ?_
      refine awp_block ?_
      refine awp_seq ?_
      refine awp_region rfl ?_
      refine wpo_bd H18 (fun y => .fptr ((@eU .u8 8) y).cells 0) rfl rfl rfl (fun v20 hv => o_ixa tk hv td22 (enc_u td5 sz5) rfl rfl) fun v20 hv20 H19 => ?_
      refine wpo_mv (a := ((@eU .u8 8) v20)) rfl rfl rfl (o_ld_e tk (enc_u td5 sz5) rfl rfl) ?_
      refine wpo_mv (a := ((@eU .u8 8) v20)) rfl rfl rfl (o_as tk rfl (Wk.refl _)) ?_
      refine wpo_nil ?_
      refine awp_region rfl ?_
      refine wpo_mv (a := ((@eU .u32 32) c5)) rfl rfl rfl (o_mv tk rfl (Wk.refl _)) ?_
      refine wpo_lt H19 (@eU .u32 32) rfl rfl rfl (o_shr_u tk rfl (y := (8 : Int)) rfl rfl rfl) fun v22 H21 => ?_
      refine wpo_mv (a := ((@eU .u32 32) c5)) rfl rfl rfl (o_mv tk rfl (Wk.refl _)) ?_
      refine wpo_lt H21 (@eU .u8 8) rfl rfl rfl (o_cv_uu tk td49 td5 rfl rfl) fun v24 H23 => ?_
      refine wpo_mv (a := ((@eU .u8 8) v20)) rfl rfl rfl (o_mv tk rfl (Wk.refl _)) ?_
      refine wpo_lt H23 (@eU .u8 8) rfl rfl rfl (o_xor_u tk rfl rfl rfl) fun v26 H25 => ?_
      refine wpo_bd H25 (@eU .u32 32) rfl rfl rfl (fun v28 hv => OpP.of_call rfl rfl (.cons (.of_eq rfl) .nil) (checksum_column_ok hv)) fun v28 hv28 H27 => ?_
      refine wpo_lt H27 (@eU .u32 32) rfl rfl rfl (o_xor_u tk rfl rfl rfl) fun v30 H29 => ?_
      refine wpo_mv (a := ((@eU .u32 32) v30)) rfl rfl rfl (o_as tk rfl (Wk.refl _)) ?_
      refine wpo_nil ?_
      refine awp_region rfl ?_
      refine wpo_lt H29 eI rfl rfl rfl (o_ar tk rfl rfl rfl) fun v32 H31 => ?_
      refine wpo_mv (a := (eI v32)) rfl rfl rfl (o_mv tk rfl (Wk.refl _)) ?_
      refine wpo_nil ?_
      exact ⟨(v30, v32), inj_inl H31, (wkf_cons (.of_eq rfl) (wkf_cons (.of_eq rfl) (wkf_cons (.of_eq rfl) (wkf_cons (.of_eq rfl) (wkf_nil _))))), hH⟩
    · refine awp_exit ?_
      have hz := hy13 _ (inj_inr H18)
      subst hz
      exact ⟨⟨_, inj_inr H18⟩, (wkf_cons (.of_eq rfl) (wkf_nil _)), hH⟩
end Go.Proofs.YthkfilchighbhaaDoor
namespace Go.Proofs.YthkfilchighbhaaDoor
open Go Go.Va
set_option linter.unusedVariables false
set_option linter.unusedSimpArgs false
set_option maxRecDepth 20000
theorem checksum_Sum_ok {x0 : List (BitVec 8)} {r : (BitVec 32)} (H : checksum_Sum x0 = some r) (σ : St)  : ACall Tryd.prog 54 [((eL 1 (@eU .u8 8)) x0)] σ (fun a τ => a = (@eU .u32 32) r ∧ τ = σ) := by
  unfold checksum_Sum at H
  refine ACall.pure (acall_start tk Tryd.func54 (by decide) rfl (Nat.le_of_ble_eq_true rfl) ?_)
  have hH := Holds.init σ
  refine awp_seq ?_
  refine awp_region rfl ?_
  refine wpo_mv (a := ((@eU .u32 32) 0#32)) rfl rfl rfl (o_as tk rfl (Wk.refl _)) ?_
  refine wpo_nil ?_
  refine awp_seq ?_
  refine awp_region rfl ?_
  refine wpo_mv (a := ((eL 1 (@eU .u8 8)) x0)) rfl rfl rfl (o_mv tk rfl (Wk.refl _)) ?_
  refine wpo_bd H (@eU .u32 32) rfl rfl rfl (fun v2 hv => OpP.of_call rfl rfl (.cons (.of_eq rfl) (.cons (.of_eq rfl) .nil)) (checksum_More_ok hv)) fun v2 hv2 H1 => ?_
  refine wpo_mv (a := ((@eU .u32 32) v2)) rfl rfl rfl (o_as tk rfl (Wk.refl _)) ?_
  refine wpo_nil ?_
  refine awp_ret ?_
  obtain rfl := Option.some.inj H1
  exact ⟨_, ((@eU .u32 32) v2), rfl, (.of_eq rfl), .of_eq ((enc_u td49 sz49).cut _ _ _), hH.noT⟩
end Go.Proofs.YthkfilchighbhaaDoor
namespace Go.Proofs.YthkfilchighbhaaDoor
open Go Go.Va
set_option linter.unusedVariables false
set_option linter.unusedSimpArgs false
set_option maxRecDepth 20000
theorem checksum_Fits_ok {x0 : List (BitVec 8)} {r : Bool} (H : checksum_Fits x0 = some r) (σ : St)  : ACall Tryd.prog 42 [((eL 1 (@eU .u8 8)) x0)] σ (fun a τ => a = eB r ∧ τ = σ) := by
  unfold checksum_Fits at H
  refine ACall.pure (acall_start tk Tryd.func42 (by decide) rfl (Nat.le_of_ble_eq_true rfl) ?_)
  have hH := Holds.init σ
  refine awp_seq ?_
  refine awp_region rfl ?_
  refine wpo_mv (a := (eB false)) rfl rfl rfl (o_as tk rfl (Wk.refl _)) ?_
  refine wpo_nil ?_
  refine awp_seq ?_
  refine awp_region rfl ?_
  refine wpo_mv (a := ((eL 1 (@eU .u8 8)) x0)) rfl rfl rfl (o_mv tk rfl (Wk.refl _)) ?_
  refine wpo_lt H eI rfl rfl rfl (o_len tk td22 rfl) fun v2 H1 => ?_
  refine wpo_lt H1 eI rfl rfl rfl (o_ar tk rfl rfl rfl) fun v4 H3 => ?_
  refine wpo_mv (a := (eI v4)) rfl rfl rfl (o_as tk rfl (Wk.refl _)) ?_
  refine wpo_nil ?_
  refine awp_seq ?_
  refine awp_seq ?_
  refine awp_region rfl ?_
  refine wpo_mv (a := (eI v4)) rfl rfl rfl (o_mv tk rfl (Wk.refl _)) ?_
  refine wpo_lt H3 eB rfl rfl rfl (o_ar tk rfl rfl rfl) fun v6 H5 => ?_
  refine wpo_nil ?_
  refine awp_if H5 rfl (fun H7 => ?_) (fun H7 => ?_)
  · refine awp_seq ?_
    refine awp_region rfl ?_
    refine wpo_mv (a := (eB false)) rfl rfl rfl (o_as tk rfl (Wk.refl _)) ?_
    refine wpo_nil ?_
    refine awp_ret ?_
    obtain rfl := Option.some.inj H7
    exact ⟨_, (eB false), rfl, (.of_eq rfl), .of_eq ((enc_b td4 sz4).cut _ _ _), hH.noT⟩
  · refine awp_skip ?_
    refine awp_seq ?_
    refine awp_drawS mixed [] rfl (by decide +kernel) rfl rfl ?_
    refine wpdS_mv (a := ((eL 1 (@eU .u8 8)) x0)) rfl rfl rfl (o_mv tk rfl (Wk.refl _)) ?_
    refine wpdS_mv (a := (eI v4)) rfl rfl rfl (o_mv tk rfl (Wk.refl _)) ?_
    refine wpdS_bd H7 (eL 1 (@eU .u8 8)) rfl rfl rfl (fun v9 hv => o_cutTo tk hv td22 (enc_u td5 sz5) rfl rfl) fun v9 hv9 H8 => ?_
    refine wpdS_bd H8 (@eU .u32 32) rfl rfl rfl (fun v11 hv => OpP.of_call rfl rfl (.cons (.of_eq rfl) .nil) (checksum_Sum_ok hv)) fun v11 hv11 H10 => ?_
    refine wpdS_bd H10 (eA (@eU .u8 8)) rfl rfl rfl (fun v13 hv => OpP.of_call rfl rfl (.cons (.of_eq rfl) .nil) (checksum_Four_ok hv)) fun v13 hv13 H12 => ?_
    refine wpdS_mv (a := ((eL 1 (@eU .u8 8)) x0)) rfl rfl rfl (o_mv tk rfl (Wk.refl _)) ?_
    refine wpdS_mv (a := (eI v4)) rfl rfl rfl (o_mv tk rfl (Wk.refl _)) ?_
    refine wpdS_bd H12 (eL 1 (@eU .u8 8)) rfl rfl rfl (fun v15 hv => o_cutFrom tk hv td22 (enc_u td5 sz5) rfl rfl) fun v15 hv15 H14 => ?_
    refine wpdS_bd H14 (fun z => .fptr (cL (@eU .u8 8) z) 0) rfl rfl rfl (fun v17 hv => o_arr tk hv td85 (enc_u td5 sz5) (by decide) rfl) fun v17 hv17 H16 => ?_
    refine wpdS_bd H16 (eA (@eU .u8 8)) rfl rfl rfl (fun v19 hv => o_ldw tk hv (enc_u td5 sz5) td85 sz85 rfl rfl) fun v19 hv19 H18 => ?_
    refine wpdS_bd H18 eB rfl rfl rfl (fun v21 hv => om_eql_a tk hv td85 td5 sz5 rfl rfl) fun v21 hv21 H20 => ?_
    refine wpdS_mv (a := (eB v21)) rfl rfl rfl (o_as tk rfl (Wk.refl _)) ?_
    refine wpdS_nil ?_
    refine awp_ret ?_
    obtain rfl := Option.some.inj H20
    exact ⟨_, (eB v21), rfl, (.of_eq rfl), .of_eq ((enc_b td4 sz4).cut _ _ _), hH.noT⟩
end Go.Proofs.YthkfilchighbhaaDoor
namespace Go.Proofs.YthkfilchighbhaaDoor
open Go Go.Va
set_option linter.unusedVariables false
set_option linter.unusedSimpArgs false
set_option maxRecDepth 20000
theorem octets_Read_ok {x0 : List (BitVec 8)} {r : octets_Reader} (H : octets_Read x0 = some r) (σ : St)  : ACall Tryd.prog 43 [((eL 1 (@eU .u8 8)) x0)] σ (fun a τ => a = .ref σ.objs.length 0 ∧ τ = ⟨σ.objs ++ [(c_octets_Reader r)], σ.opn, σ.gl⟩) := by
  unfold octets_Read at H
  refine ACall.new (fun ρ κ => c_octets_Reader_cut ρ κ r) (acall_start tk Tryd.func43 (by decide) rfl (Nat.le_of_ble_eq_true rfl) ?_)
  have hH := Holds.init σ
  refine awp_seq ?_
  refine awp_region rfl ?_
  refine wpo_mv (a := .nilp) rfl rfl rfl (o_as tk rfl (Wk.refl _)) ?_
  refine wpo_nil ?_
  refine awp_seq ?_
  refine awp_region rfl ?_
  refine wpo_mv (a := (eF 1 (@eU .u8 8) ([] : List (BitVec 8)))) rfl rfl rfl (o_c tk false rfl (fun _ => rfl)) ?_
  refine wpo_mv (a := ((eL 1 (@eU .u8 8)) x0)) rfl rfl rfl (o_mv tk rfl (Wk.refl _)) ?_
  obtain ⟨v2, hv3, H1⟩ := Option.bind_eq_some_iff.1 H
  refine wpo_a (av := fun t => eT t 1 (@eU .u8 8) v2) rfl rfl rfl (h_app0 tk hH hv3 td22 ty5 rfl (by decide) (.inr rfl) (src_l td22 rfl)) fun tk4 τ hH => ?_
  refine wpo_lt H1 e_octets_Reader rfl rfl rfl (OpP.wk (wkf_up (t := 5) (a := ((eL 1 (@eU .u8 8)) v2)) wk_no) (o_c tk false rfl (fun _ => rfl))) fun v6 H5 => ?_
  refine wpo_a (av := fun id => .ref id 0) rfl rfl rfl (h_box tk hH rfl (.of_eq rfl) (b := (e_octets_Reader v6)) (enc102.flat _) (c_octets_Reader v6) rfl) fun id7 τ ⟨hH, n8⟩ => ?_
  refine wpo_mv (a := (.ref id7 0)) rfl rfl rfl (o_as tk rfl (Wk.refl _)) ?_
  refine wpo_nil ?_
  refine awp_ret ?_
  obtain rfl := Option.some.inj H5
  exact ⟨_, .ref id7 0, rfl, .of_eq rfl, id7, rfl, n8, hH.noT⟩
end Go.Proofs.YthkfilchighbhaaDoor
namespace Go.Proofs.YthkfilchighbhaaDoor
open Go Go.Va
set_option linter.unusedVariables false
set_option linter.unusedSimpArgs false
set_option maxRecDepth 20000
theorem octets_Reader_Fail_ok {x0 : octets_Reader} {x1 : Int} {r : octets_Reader} (H : octets_Reader_Fail x0 x1 = some r) (σ : St) {p0 : Nat} (h0 : σ.objs[p0]? = some (c_octets_Reader x0)) : ACall Tryd.prog 63 [(.ref p0 0), (eI x1)] σ (fun a τ => a = .tup [] ∧ τ = σ.puts [(p0, (c_octets_Reader r))]) := by
  unfold octets_Reader_Fail at H
  refine ACall.out [(p0, (c_octets_Reader r))] (by simp only [List.mem_cons, List.not_mem_nil, or_false]; rintro _ (rfl) ρ κ <;> exact c_octets_Reader_cut ρ κ _) (acall_start tk Tryd.func63 (by decide) rfl (Nat.le_of_ble_eq_true rfl) ?_)
  have hH := Holds.init σ
  have hH := hH.bring h0 (fun _ h => by cases h)
  refine awp_seq ?_
  refine awp_region rfl ?_
  refine wpo_mv (a := (.ref p0 0)) rfl rfl rfl (o_mv tk rfl (Wk.refl _)) ?_
  refine wpo_mv (a := (.ref p0 0)) rfl rfl rfl (o_c tk false rfl (fun _ => rfl)) ?_
  refine wpo_mv (a := (.ref p0 2)) rfl rfl rfl (o_c tk false rfl (fun _ => rfl)) ?_
  refine wpo_rd (a := (eI x0.code)) rfl rfl rfl (h_ld tk hH 0 rfl rfl rfl) ?_
  refine wpo_lt H eB rfl rfl rfl (o_ar tk rfl rfl rfl) fun v2 H1 => ?_
  refine wpo_nil ?_
  refine awp_if H1 rfl (fun H3 => ?_) (fun H3 => ?_)
  · refine awp_region rfl ?_
    refine wpo_mv (a := (.ref p0 0)) rfl rfl rfl (o_mv tk rfl (Wk.refl _)) ?_
    refine wpo_mv (a := (eI x1)) rfl rfl rfl (o_mv tk rfl (Wk.refl _)) ?_
    refine wpo_mv (a := (.ref p0 0)) rfl rfl rfl (o_c tk false rfl (fun _ => rfl)) ?_
    refine wpo_mv (a := (.ref p0 2)) rfl rfl rfl (o_c tk false rfl (fun _ => rfl)) ?_
    obtain ⟨c5, hc6, H4⟩ := lt_ex H3
    refine wpo_z rfl rfl (h_st tk hH 0 rfl ty33 (by simp) rfl rfl (.of_eq rfl) (b := (eI x1)) rfl rfl (Nat.le_of_ble_eq_true rfl) (c_octets_Reader c5) (by rw [← hc6]; rfl)) fun τ hH => ?_
    refine wpo_nil ?_
    obtain rfl := Option.some.inj H4
    exact ⟨_, (.tup []), rfl, (.of_eq rfl), .of_eq rfl, hH.noT⟩
  · refine awp_skip ?_
    obtain rfl := Option.some.inj H3
    exact ⟨_, (.tup []), rfl, (.of_eq rfl), .of_eq rfl, hH.noT⟩
end Go.Proofs.YthkfilchighbhaaDoor
namespace Go.Proofs.YthkfilchighbhaaDoor
open Go Go.Va
set_option linter.unusedVariables false
set_option linter.unusedSimpArgs false
set_option maxRecDepth 20000
theorem octets_Reader_Number_ok {x0 : octets_Reader} {x1 : Int} {r : Int × octets_Reader} (H : octets_Reader_Number x0 x1 = some r) (σ : St) {p0 : Nat} (h0 : σ.objs[p0]? = some (c_octets_Reader x0)) : ACall Tryd.prog 44 [(.ref p0 0), (eI x1)] σ (fun a τ => a = eI r.1 ∧ τ = σ.puts [(p0, (c_octets_Reader r.2))]) := by
  unfold octets_Reader_Number at H
  refine ACall.out [(p0, (c_octets_Reader r.2))] (by simp only [List.mem_cons, List.not_mem_nil, or_false]; rintro _ (rfl) ρ κ <;> exact c_octets_Reader_cut ρ κ _) (acall_start tk Tryd.func44 (by decide) rfl (Nat.le_of_ble_eq_true rfl) ?_)
  have hH := Holds.init σ
  have hH := hH.bring h0 (fun _ h => by cases h)
  refine awp_seq ?_
  refine awp_region rfl ?_
  refine wpo_mv (a := (eI (0 : Int))) rfl rfl rfl (o_as tk rfl (Wk.refl _)) ?_
  refine wpo_nil ?_
  refine awp_seq ?_
  refine awp_drawS mixed [] rfl (by decide +kernel) rfl rfl ?_
  refine wpdS_mv (a := (.ref p0 0)) rfl rfl rfl (o_mv tk rfl (Wk.refl _)) ?_
  refine wpdS_mv (a := (.ref p0 0)) rfl rfl rfl (o_c tk false rfl (fun _ => rfl)) ?_
  refine wpdS_mv (a := (.ref p0 1)) rfl rfl rfl (o_c tk false rfl (fun _ => rfl)) ?_
  refine wpdS_rd (a := (eI x0.at_)) rfl (by decide +kernel) rfl rfl (h_ld tk hH 0 rfl rfl rfl) ?_
  refine wpdS_mv (a := (eI (0 : Int))) rfl rfl rfl (o_as tk rfl (Wk.refl _)) ?_
  refine wpdS_mv (a := (eI x0.at_)) rfl rfl rfl (o_as tk rfl (Wk.refl _)) ?_
  refine wpdS_nil ?_
  refine awp_seq ?_
  refine awp_block ?_
  obtain ⟨o4, hs5, hj6⟩ := Option.bind_eq_some_iff.1 H
  refine awp_cutx 0 (fun fr τ => ∃ s11 : octets_Reader, o4 = .inl s11 ∧ WkF fr (fm []) ∧ Holds σ [(p0, (c_octets_Reader s11))] [] τ) ?_ ?_
  · rintro fr τ ⟨s11, rfl, hfr, hH⟩
    have H78 := hj6
    simp only [Sum.elim_inl] at H78
    refine AWP.fm [] hfr ?_
    refine awp_seq ?_
    refine awp_region rfl ?_
    refine wpo_mv (a := (eI (0 : Int))) rfl rfl rfl (o_as tk rfl (Wk.refl _)) ?_
    refine wpo_nil ?_
    refine awp_ret ?_
    obtain rfl := Option.some.inj H78
    exact ⟨_, (eI (0 : Int)), rfl, (.of_eq rfl), .of_eq ((enc_i64 td3 sz3).cut _ _ _), hH.noT⟩
  · refine awp_loopO (body := fun s => octets_Reader_Number_b0 x1 s.1 s.2.1 s.2.2) hs5 (fun (s : Int × Int × octets_Reader) fr τ => WkF fr (fm [(0, (.ref p0 0)), (1, (eI x1)), (5, (eI s.1)), (6, (eI s.2.1))]) ∧ Holds σ [(p0, (c_octets_Reader s.2.2))] [] τ) ⟨(wkf_cons (.of_eq rfl) (wkf_cons (.of_eq rfl) (wkf_cons (.of_eq rfl) (wkf_cons (.of_eq rfl) (wkf_nil _))))), hH⟩ ?_
    rintro ⟨c1, c2, c3⟩ fr τ y7 ⟨hfr, hH⟩ hb9 hy10
    have H12 : octets_Reader_Number_b0 x1 c1 c2 c3 = some y7 := hb9
    unfold octets_Reader_Number_b0 at H12
    refine AWP.fm [(0, (.ref p0 0)), (1, (eI x1)), (5, (eI c1)), (6, (eI c2))] hfr ?_
    have hH : Holds σ [(p0, (c_octets_Reader c3))] [] τ := hH
    refine awp_seq ?_
    refine awp_seq ?_
    refine awp_region rfl ?_
    refine wpo_mv (a := (.ref p0 0)) rfl rfl rfl (o_mv tk rfl (Wk.refl _)) ?_
    refine wpo_mv (a := (.ref p0 0)) rfl rfl rfl (o_c tk false rfl (fun _ => rfl)) ?_
    refine wpo_mv (a := (.ref p0 2)) rfl rfl rfl (o_c tk false rfl (fun _ => rfl)) ?_
    refine wpo_rd (a := (eI c3.code)) rfl rfl rfl (h_ld tk hH 0 rfl rfl rfl) ?_
    refine wpo_lt H12 eB rfl rfl rfl (o_ar tk rfl rfl rfl) fun v14 H13 => ?_
    refine wpo_nil ?_
    refine awp_if H13 rfl (fun H15 => ?_) (fun H15 => ?_)
    · refine awp_skip ?_
      refine awp_block ?_
      refine awp_seq ?_
      refine awp_seq ?_
      refine awp_region rfl ?_
      refine wpo_mv (a := (eI c2)) rfl rfl rfl (o_mv tk rfl (Wk.refl _)) ?_
      refine wpo_mv (a := (.ref p0 0)) rfl rfl rfl (o_mv tk rfl (Wk.refl _)) ?_
      refine wpo_mv (a := (.ref p0 0)) rfl rfl rfl (o_c tk false rfl (fun _ => rfl)) ?_
      refine wpo_mv (a := (.ref p0 0)) rfl rfl rfl (o_c tk false rfl (fun _ => rfl)) ?_
      refine wpo_rd (a := ((eL 1 (@eU .u8 8)) c3.b)) rfl rfl rfl (h_ld tk hH 0 rfl rfl rfl) ?_
      refine wpo_lt H15 eI rfl rfl rfl (o_len tk td22 rfl) fun v17 H16 => ?_
      refine wpo_lt H16 eB rfl rfl rfl (o_ar tk rfl rfl rfl) fun v19 H18 => ?_
      refine wpo_nil ?_
      refine awp_if H18 rfl (fun H20 => ?_) (fun H20 => ?_)
      · refine awp_seq ?_
        refine awp_region rfl ?_
        refine wpo_mv (a := (.ref p0 0)) rfl rfl rfl (o_mv tk rfl (Wk.refl _)) ?_
        refine wpo_cb H20 (fun x _ => .tup []) rfl rfl rfl (fun v22 hv => h_call1 hH [(0, (p0, (c_octets_Reader v22)))] ⟨⟨_, rfl⟩, trivial⟩ rfl rfl (.cons (.of_eq rfl) (.cons (.of_eq rfl) .nil)) (octets_Reader_Fail_ok hv _ (hH.at_ 0 rfl))) fun v22 _ τ hv22 H21 hH => ?_
        refine wpo_nil ?_
        refine awp_exit ?_
        have hz := hy10 _ (inj_inr H21)
        exact ⟨⟨_, inj_inr H21⟩, v22, hz.symm, (wkf_nil _), hH⟩
      · refine awp_skip ?_
        refine awp_seq ?_
        refine awp_region rfl ?_
        refine wpo_mv (a := (.ref p0 0)) rfl rfl rfl (o_mv tk rfl (Wk.refl _)) ?_
        refine wpo_mv (a := (.ref p0 0)) rfl rfl rfl (o_c tk false rfl (fun _ => rfl)) ?_
        refine wpo_mv (a := (.ref p0 0)) rfl rfl rfl (o_c tk false rfl (fun _ => rfl)) ?_
        refine wpo_rd (a := ((eL 1 (@eU .u8 8)) c3.b)) rfl rfl rfl (h_ld tk hH 0 rfl rfl rfl) ?_
        refine wpo_mv (a := (eI c2)) rfl rfl rfl (o_mv tk rfl (Wk.refl _)) ?_
        refine wpo_bd H20 (fun y => .fptr ((@eU .u8 8) y).cells 0) rfl rfl rfl (fun v24 hv => o_ixa tk hv td22 (enc_u td5 sz5) rfl rfl) fun v24 hv24 H23 => ?_
        refine wpo_mv (a := ((@eU .u8 8) v24)) rfl rfl rfl (o_ld_e tk (enc_u td5 sz5) rfl rfl) ?_
        refine wpo_mv (a := ((@eU .u8 8) v24)) rfl rfl rfl (o_as tk rfl (Wk.refl _)) ?_
        refine wpo_nil ?_
        refine awp_seq ?_
        refine awp_region rfl ?_
        refine wpo_mv (a := (eI c2)) rfl rfl rfl (o_mv tk rfl (Wk.refl _)) ?_
        refine wpo_lt H23 eI rfl rfl rfl (o_ar tk rfl rfl rfl) fun v26 H25 => ?_
        refine wpo_mv (a := (eI v26)) rfl rfl rfl (o_as tk rfl (Wk.refl _)) ?_
        refine wpo_nil ?_
        refine awp_block ?_
        refine awp_seq ?_
        obtain ⟨s27, hs29, hj30⟩ := Option.bind_eq_some_iff.1 H25
        refine awp_cutn (fun fr τ => WkF fr (fm [(0, (.ref p0 0)), (1, (eI x1)), (5, (eI c1)), (6, (eI v26)), (7, ((@eU .u8 8) v24)), (50, (eB s27))]) ∧ Holds σ [(p0, (c_octets_Reader c3))] [] τ) ?_ ?_
        · rintro fr τ ⟨hfr, hH⟩
          have H41 := hj30
          refine AWP.fm [(0, (.ref p0 0)), (1, (eI x1)), (5, (eI c1)), (6, (eI v26)), (7, ((@eU .u8 8) v24)), (50, (eB s27))] hfr ?_
          refine awp_if H41 rfl (fun H42 => ?_) (fun H42 => ?_)
          · refine awp_region rfl ?_
            refine wpo_mv (a := (.ref p0 0)) rfl rfl rfl (o_mv tk rfl (Wk.refl _)) ?_
            refine wpo_cb H42 (fun x _ => .tup []) rfl rfl rfl (fun v44 hv => h_call1 hH [(0, (p0, (c_octets_Reader v44)))] ⟨⟨_, rfl⟩, trivial⟩ rfl rfl (.cons (.of_eq rfl) (.cons (.of_eq rfl) .nil)) (octets_Reader_Fail_ok hv _ (hH.at_ 0 rfl))) fun v44 _ τ hv44 H43 hH => ?_
            refine wpo_nil ?_
            exact ⟨(c1, v26, v44), inj_inl H43, (wkf_cons (.of_eq rfl) (wkf_cons (.of_eq rfl) (wkf_cons (.of_eq rfl) (wkf_cons (.of_eq rfl) (wkf_nil _))))), hH⟩
          · refine awp_seq ?_
            refine awp_region rfl ?_
            refine wpo_mv (a := (eI c1)) rfl rfl rfl (o_mv tk rfl (Wk.refl _)) ?_
            refine wpo_mv (a := (eI x1)) rfl rfl rfl (o_mv tk rfl (Wk.refl _)) ?_
            refine wpo_lt H42 eI rfl rfl rfl (o_shr tk (y := (7 : Int)) rfl rfl rfl) fun v46 H45 => ?_
            refine wpo_lt H45 eB rfl rfl rfl (o_ar tk rfl rfl rfl) fun v48 H47 => ?_
            refine wpo_mv (a := (eB v48)) rfl rfl rfl (o_as tk rfl (Wk.refl _)) ?_
            refine wpo_nil ?_
            refine awp_if H47 rfl (fun H49 => ?_) (fun H49 => ?_)
            · refine awp_region rfl ?_
              refine wpo_mv (a := (.ref p0 0)) rfl rfl rfl (o_mv tk rfl (Wk.refl _)) ?_
              refine wpo_cb H49 (fun x _ => .tup []) rfl rfl rfl (fun v51 hv => h_call1 hH [(0, (p0, (c_octets_Reader v51)))] ⟨⟨_, rfl⟩, trivial⟩ rfl rfl (.cons (.of_eq rfl) (.cons (.of_eq rfl) .nil)) (octets_Reader_Fail_ok hv _ (hH.at_ 0 rfl))) fun v51 _ τ hv51 H50 hH => ?_
              refine wpo_nil ?_
              exact ⟨(c1, v26, v51), inj_inl H50, (wkf_cons (.of_eq rfl) (wkf_cons (.of_eq rfl) (wkf_cons (.of_eq rfl) (wkf_cons (.of_eq rfl) (wkf_nil _))))), hH⟩
            · refine awp_seq ?_
              refine awp_region rfl ?_
              refine wpo_mv (a := ((@eU .u8 8) v24)) rfl rfl rfl (o_mv tk rfl (Wk.refl _)) ?_
              refine wpo_lt H49 eB rfl rfl rfl (o_geq_u tk rfl rfl) fun v53 H52 => ?_
              refine wpo_mv (a := (eB v53)) rfl rfl rfl (o_as tk rfl (Wk.refl _)) ?_
              refine wpo_nil ?_
              refine awp_if H52 rfl (fun H54 => ?_) (fun H54 => ?_)
              · refine awp_seq ?_
                refine awp_region rfl ?_
                refine wpo_mv (a := (eI c1)) rfl rfl rfl (o_mv tk rfl (Wk.refl _)) ?_
                refine wpo_lt H54 eI rfl rfl rfl (o_shl tk (y := (7 : Int)) rfl rfl rfl) fun v56 H55 => ?_
                refine wpo_mv (a := ((@eU .u8 8) v24)) rfl rfl rfl (o_mv tk rfl (Wk.refl _)) ?_
                refine wpo_lt H55 (@eU .u8 8) rfl rfl rfl (o_and_u tk rfl rfl rfl) fun v58 H57 => ?_
                refine wpo_lt H57 eI rfl rfl rfl (o_cv_ui tk td5 td3 (by decide) rfl) fun v60 H59 => ?_
                refine wpo_lt H59 eI rfl rfl rfl (o_ar tk rfl rfl rfl) fun v62 H61 => ?_
                refine wpo_mv (a := (eI v62)) rfl rfl rfl (o_as tk rfl (Wk.refl _)) ?_
                refine wpo_nil ?_
                refine awp_exit ?_
                exact ⟨(v62, v26, c3), inj_inl H61, (wkf_cons (.of_eq rfl) (wkf_cons (.of_eq rfl) (wkf_cons (.of_eq rfl) (wkf_cons (.of_eq rfl) (wkf_nil _))))), hH⟩
              · refine awp_seq ?_
                refine awp_seq ?_
                refine awp_region rfl ?_
                refine wpo_mv (a := (eI c1)) rfl rfl rfl (o_mv tk rfl (Wk.refl _)) ?_
                refine wpo_lt H54 eI rfl rfl rfl (o_shl tk (y := (7 : Int)) rfl rfl rfl) fun v64 H63 => ?_
                refine wpo_mv (a := ((@eU .u8 8) v24)) rfl rfl rfl (o_mv tk rfl (Wk.refl _)) ?_
                refine wpo_lt H63 eI rfl rfl rfl (o_cv_ui tk td5 td3 (by decide) rfl) fun v66 H65 => ?_
                refine wpo_lt H65 eI rfl rfl rfl (o_ar tk rfl rfl rfl) fun v68 H67 => ?_
                refine wpo_mv (a := (eI v68)) rfl rfl rfl (o_as tk rfl (Wk.refl _)) ?_
                refine wpo_nil ?_
                refine awp_seq ?_
                refine awp_region rfl ?_
                refine wpo_mv (a := (eI v68)) rfl rfl rfl (o_mv tk rfl (Wk.refl _)) ?_
                refine wpo_mv (a := (eI x1)) rfl rfl rfl (o_mv tk rfl (Wk.refl _)) ?_
                refine wpo_lt H67 eB rfl rfl rfl (o_ar tk rfl rfl rfl) fun v70 H69 => ?_
                refine wpo_nil ?_
                refine awp_if H69 rfl (fun H71 => ?_) (fun H71 => ?_)
                · refine awp_seq ?_
                  refine awp_region rfl ?_
                  refine wpo_mv (a := (.ref p0 0)) rfl rfl rfl (o_mv tk rfl (Wk.refl _)) ?_
                  refine wpo_cb H71 (fun x _ => .tup []) rfl rfl rfl (fun v73 hv => h_call1 hH [(0, (p0, (c_octets_Reader v73)))] ⟨⟨_, rfl⟩, trivial⟩ rfl rfl (.cons (.of_eq rfl) (.cons (.of_eq rfl) .nil)) (octets_Reader_Fail_ok hv _ (hH.at_ 0 rfl))) fun v73 _ τ hv73 H72 hH => ?_
                  refine wpo_nil ?_
                  refine awp_exit ?_
                  exact ⟨(v68, v26, v73), inj_inl H72, (wkf_cons (.of_eq rfl) (wkf_cons (.of_eq rfl) (wkf_cons (.of_eq rfl) (wkf_cons (.of_eq rfl) (wkf_nil _))))), hH⟩
                · refine awp_skip ?_
                  refine awp_seq ?_
                  refine awp_region rfl ?_
                  refine wpo_mv (a := (.ref p0 0)) rfl rfl rfl (o_mv tk rfl (Wk.refl _)) ?_
                  refine wpo_mv (a := (eI v26)) rfl rfl rfl (o_mv tk rfl (Wk.refl _)) ?_
                  refine wpo_mv (a := (.ref p0 0)) rfl rfl rfl (o_c tk false rfl (fun _ => rfl)) ?_
                  refine wpo_mv (a := (.ref p0 1)) rfl rfl rfl (o_c tk false rfl (fun _ => rfl)) ?_
                  obtain ⟨c75, hc76, H74⟩ := lt_ex H71
                  refine wpo_z rfl rfl (h_st tk hH 0 rfl ty3 (by simp) rfl rfl (.of_eq rfl) (b := (eI v26)) rfl rfl (Nat.le_of_ble_eq_true rfl) (c_octets_Reader c75) (by rw [← hc76]; rfl)) fun τ hH => ?_
                  refine wpo_nil ?_
                  refine awp_seq ?_
                  refine awp_region rfl ?_
                  refine wpo_mv (a := (eI v68)) rfl rfl rfl (o_mv tk rfl (Wk.refl _)) ?_
                  refine wpo_mv (a := (eI v68)) rfl rfl rfl (o_as tk rfl (Wk.refl _)) ?_
                  refine wpo_nil ?_
                  refine awp_ret ?_
                  have hz := hy10 _ (inj_inr H74)
                  refine ⟨⟨_, inj_inr H74⟩, ?_⟩
                  rw [← hz] at hj6
                  have H77 := (show some _ = some _ from hj6)
                  obtain rfl := Option.some.inj H77
                  exact ⟨_, (eI v68), rfl, (.of_eq rfl), .of_eq ((enc_i64 td3 sz3).cut _ _ _), hH.noT⟩
        · refine awp_region rfl ?_
          refine wpo_mv (a := ((@eU .u8 8) v24)) rfl rfl rfl (o_mv tk rfl (Wk.refl _)) ?_
          refine wpo_lt hs29 eB rfl rfl rfl (o_eql_u tk rfl rfl) fun v32 H31 => ?_
          refine wpo_mv (a := (eB v32)) rfl rfl rfl (o_mv tk rfl (Wk.refl _)) ?_
          refine if_split H31 (fun hb H33 => ?_) (fun hb H33 => ?_)
          · subst hb
            refine wpo_mv (a := (eI c1)) rfl rfl rfl (o_mv tk rfl (Wk.refl _)) ?_
            refine wpo_lt H33 eB rfl rfl rfl (o_ar tk rfl rfl rfl) fun v35 H34 => ?_
            refine wpo_mv (a := (eB v35)) rfl rfl rfl (o_pick_t tk rfl rfl (Wk.refl _)) ?_
            refine wpo_mv (a := (eB v35)) rfl rfl rfl (o_mv tk rfl (Wk.refl _)) ?_
            refine if_split H34 (fun hb H36 => ?_) (fun hb H36 => ?_)
            · subst hb
              refine wpo_mv (a := (eI v26)) rfl rfl rfl (o_mv tk rfl (Wk.refl _)) ?_
              refine wpo_mv (a := (.ref p0 0)) rfl rfl rfl (o_mv tk rfl (Wk.refl _)) ?_
              refine wpo_mv (a := (.ref p0 0)) rfl rfl rfl (o_c tk false rfl (fun _ => rfl)) ?_
              refine wpo_mv (a := (.ref p0 1)) rfl rfl rfl (o_c tk false rfl (fun _ => rfl)) ?_
              refine wpo_rd (a := (eI c3.at_)) rfl rfl rfl (h_ld tk hH 0 rfl rfl rfl) ?_
              refine wpo_lt H36 eI rfl rfl rfl (o_ar tk rfl rfl rfl) fun v38 H37 => ?_
              refine wpo_lt H37 eB rfl rfl rfl (o_ar tk rfl rfl rfl) fun v40 H39 => ?_
              refine wpo_mv (a := (eB v40)) rfl rfl rfl (o_pick_t tk rfl rfl (Wk.refl _)) ?_
              refine wpo_mv (a := (eB v40)) rfl rfl rfl (o_as tk rfl (Wk.refl _)) ?_
              refine wpo_nil ?_
              have e := Option.some.inj H39
              subst e
              exact ⟨(wkf_cons (.of_eq rfl) (wkf_cons (.of_eq rfl) (wkf_cons (.of_eq rfl) (wkf_cons (.of_eq rfl) (wkf_cons (.of_eq rfl) (wkf_cons (.of_eq rfl) (wkf_nil _))))))), hH⟩
            · subst hb
              refine wpo_skip rfl rfl rfl ?_
              refine wpo_skip rfl rfl rfl ?_
              refine wpo_skip rfl rfl rfl ?_
              refine wpo_skip rfl rfl rfl ?_
              refine wpo_skip rfl rfl rfl ?_
              refine wpo_skip rfl rfl rfl ?_
              refine wpo_skip rfl rfl rfl ?_
              refine wpo_mv (a := (eB false)) rfl rfl rfl (o_pick_f tk rfl rfl (Wk.refl _)) ?_
              refine wpo_mv (a := (eB false)) rfl rfl rfl (o_as tk rfl (Wk.refl _)) ?_
              refine wpo_nil ?_
              have e := Option.some.inj H36
              subst e
              exact ⟨(wkf_cons (.of_eq rfl) (wkf_cons (.of_eq rfl) (wkf_cons (.of_eq rfl) (wkf_cons (.of_eq rfl) (wkf_cons (.of_eq rfl) (wkf_cons (.of_eq rfl) (wkf_nil _))))))), hH⟩
          · subst hb
            refine wpo_skip rfl rfl rfl ?_
            refine wpo_skip rfl rfl rfl ?_
            refine wpo_mv (a := (eB false)) rfl rfl rfl (o_pick_f tk rfl rfl (Wk.refl _)) ?_
            refine wpo_mv (a := (eB false)) rfl rfl rfl (o_mv tk rfl (Wk.refl _)) ?_
            refine wpo_skip rfl rfl rfl ?_
            refine wpo_skip rfl rfl rfl ?_
            refine wpo_skip rfl rfl rfl ?_
            refine wpo_skip rfl rfl rfl ?_
            refine wpo_skip rfl rfl rfl ?_
            refine wpo_skip rfl rfl rfl ?_
            refine wpo_skip rfl rfl rfl ?_
            refine wpo_mv (a := (eB false)) rfl rfl rfl (o_pick_f tk rfl rfl (Wk.refl _)) ?_
            refine wpo_mv (a := (eB false)) rfl rfl rfl (o_as tk rfl (Wk.refl _)) ?_
            refine wpo_nil ?_
            have e := Option.some.inj H33
            subst e
            exact ⟨(wkf_cons (.of_eq rfl) (wkf_cons (.of_eq rfl) (wkf_cons (.of_eq rfl) (wkf_cons (.of_eq rfl) (wkf_cons (.of_eq rfl) (wkf_cons (.of_eq rfl) (wkf_nil _))))))), hH⟩
    · refine awp_exit ?_
      have hz := hy10 _ (inj_inr H15)
      exact ⟨⟨_, inj_inr H15⟩, c3, hz.symm, (wkf_nil _), hH⟩
end Go.Proofs.YthkfilchighbhaaDoor
namespace Go.Proofs.YthkfilchighbhaaDoor
open Go Go.Va
set_option linter.unusedVariables false
set_option linter.unusedSimpArgs false
set_option maxRecDepth 20000
theorem octets_Reader_Code_ok {x0 : octets_Reader} {r : Int} (H : octets_Reader_Code x0 = some r) (σ : St) {p0 : Nat} (h0 : σ.objs[p0]? = some (c_octets_Reader x0)) : ACall Tryd.prog 45 [(.ref p0 0)] σ (fun a τ => a = eI r ∧ τ = σ) := by
  unfold octets_Reader_Code at H
  refine ACall.pure (acall_start tk Tryd.func45 (by decide) rfl (Nat.le_of_ble_eq_true rfl) ?_)
  have hH := Holds.init σ
  have hH := hH.bring h0 (fun _ h => by cases h)
  refine awp_seq ?_
  refine awp_region rfl ?_
  refine wpo_mv (a := (eI (0 : Int))) rfl rfl rfl (o_as tk rfl (Wk.refl _)) ?_
  refine wpo_nil ?_
  refine awp_seq ?_
  refine awp_region rfl ?_
  refine wpo_mv (a := (.ref p0 0)) rfl rfl rfl (o_mv tk rfl (Wk.refl _)) ?_
  refine wpo_mv (a := (.ref p0 0)) rfl rfl rfl (o_c tk false rfl (fun _ => rfl)) ?_
  refine wpo_mv (a := (.ref p0 2)) rfl rfl rfl (o_c tk false rfl (fun _ => rfl)) ?_
  refine wpo_rd (a := (eI x0.code)) rfl rfl rfl (h_ld tk hH 0 rfl rfl rfl) ?_
  refine wpo_mv (a := (eI x0.code)) rfl rfl rfl (o_as tk rfl (Wk.refl _)) ?_
  refine wpo_nil ?_
  refine awp_ret ?_
  obtain rfl := Option.some.inj H
  exact ⟨_, (eI x0.code), rfl, (.of_eq rfl), .of_eq ((enc_i64 td33 sz33).cut _ _ _), (hH.noT.unbring h0)⟩
end Go.Proofs.YthkfilchighbhaaDoor
namespace Go.Proofs.YthkfilchighbhaaDoor
open Go Go.Va
set_option linter.unusedVariables false
set_option linter.unusedSimpArgs false
set_option maxRecDepth 20000
theorem octets_Reader_Left_ok {x0 : octets_Reader} {r : Int} (H : octets_Reader_Left x0 = some r) (σ : St) {p0 : Nat} (h0 : σ.objs[p0]? = some (c_octets_Reader x0)) : ACall Tryd.prog 64 [(.ref p0 0)] σ (fun a τ => a = eI r ∧ τ = σ) := by
  unfold octets_Reader_Left at H
  refine ACall.pure (acall_start tk Tryd.func64 (by decide) rfl (Nat.le_of_ble_eq_true rfl) ?_)
  have hH := Holds.init σ
  have hH := hH.bring h0 (fun _ h => by cases h)
  refine awp_seq ?_
  refine awp_region rfl ?_
  refine wpo_mv (a := (eI (0 : Int))) rfl rfl rfl (o_as tk rfl (Wk.refl _)) ?_
  refine wpo_nil ?_
  refine awp_seq ?_
  refine awp_drawS mixed [] rfl (by decide +kernel) rfl rfl ?_
  refine wpdS_mv (a := (.ref p0 0)) rfl rfl rfl (o_mv tk rfl (Wk.refl _)) ?_
  refine wpdS_mv (a := (.ref p0 0)) rfl rfl rfl (o_c tk false rfl (fun _ => rfl)) ?_
  refine wpdS_mv (a := (.ref p0 0)) rfl rfl rfl (o_c tk false rfl (fun _ => rfl)) ?_
  refine wpdS_rd (a := ((eL 1 (@eU .u8 8)) x0.b)) rfl (by decide +kernel) rfl rfl (h_ld tk hH 0 rfl rfl rfl) ?_
  refine wpdS_lt H eI rfl rfl rfl (o_len tk td22 rfl) fun v2 H1 => ?_
  refine wpdS_mv (a := (.ref p0 0)) rfl rfl rfl (o_mv tk rfl (Wk.refl _)) ?_
  refine wpdS_mv (a := (.ref p0 0)) rfl rfl rfl (o_c tk false rfl (fun _ => rfl)) ?_
  refine wpdS_mv (a := (.ref p0 1)) rfl rfl rfl (o_c tk false rfl (fun _ => rfl)) ?_
  refine wpdS_rd (a := (eI x0.at_)) rfl (by decide +kernel) rfl rfl (h_ld tk hH 0 rfl rfl rfl) ?_
  refine wpdS_lt H1 eI rfl rfl rfl (o_ar tk rfl rfl rfl) fun v4 H3 => ?_
  refine wpdS_mv (a := (eI v4)) rfl rfl rfl (o_as tk rfl (Wk.refl _)) ?_
  refine wpdS_nil ?_
  refine awp_ret ?_
  obtain rfl := Option.some.inj H3
  exact ⟨_, (eI v4), rfl, (.of_eq rfl), .of_eq ((enc_i64 td3 sz3).cut _ _ _), (hH.noT.unbring h0)⟩
end Go.Proofs.YthkfilchighbhaaDoor
namespace Go.Proofs.YthkfilchighbhaaDoor
open Go Go.Va
set_option linter.unusedVariables false
set_option linter.unusedSimpArgs false
set_option maxRecDepth 20000
theorem octets_Reader_Bytes_ok {x0 : octets_Reader} {x1 : Int} {r : (List (BitVec 8)) × octets_Reader} (H : octets_Reader_Bytes x0 x1 = some r) (σ : St) {p0 : Nat} (h0 : σ.objs[p0]? = some (c_octets_Reader x0)) : ACall Tryd.prog 46 [(.ref p0 0), (eI x1)] σ (fun a τ => a = (eL 1 (@eU .u8 8)) r.1 ∧ τ = σ.puts [(p0, (c_octets_Reader r.2))]) := by
  unfold octets_Reader_Bytes at H
  refine ACall.out [(p0, (c_octets_Reader r.2))] (by simp only [List.mem_cons, List.not_mem_nil, or_false]; rintro _ (rfl) ρ κ <;> exact c_octets_Reader_cut ρ κ _) (acall_start tk Tryd.func46 (by decide) rfl (Nat.le_of_ble_eq_true rfl) ?_)
  have hH := Holds.init σ
  have hH := hH.bring h0 (fun _ h => by cases h)
  refine awp_seq ?_
  refine awp_region rfl ?_
  refine wpo_mv (a := AV.nils) rfl rfl rfl (o_as tk rfl (Wk.refl _)) ?_
  refine wpo_nil ?_
  refine awp_seq ?_
  refine awp_region rfl ?_
  refine wpo_mv (a := (.ref p0 0)) rfl rfl rfl (o_mv tk rfl (Wk.refl _)) ?_
  refine wpo_mv (a := (.ref p0 0)) rfl rfl rfl (o_c tk false rfl (fun _ => rfl)) ?_
  refine wpo_mv (a := (.ref p0 1)) rfl rfl rfl (o_c tk false rfl (fun _ => rfl)) ?_
  refine wpo_rd (a := (eI x0.at_)) rfl rfl rfl (h_ld tk hH 0 rfl rfl rfl) ?_
  refine wpo_mv (a := (eI x0.at_)) rfl rfl rfl (o_as tk rfl (Wk.refl _)) ?_
  refine wpo_nil ?_
  refine awp_seq ?_
  refine awp_region rfl ?_
  refine wpo_mv (a := (.ref p0 0)) rfl rfl rfl (o_mv tk rfl (Wk.refl _)) ?_
  refine wpo_mv (a := (eI x1)) rfl rfl rfl (o_mv tk rfl (Wk.refl _)) ?_
  refine wpo_cb H (fun x _ => eI x.1) rfl rfl rfl (fun v2 hv => h_call1 hH [(0, (p0, (c_octets_Reader v2.2)))] ⟨⟨_, rfl⟩, trivial⟩ rfl rfl (.cons (.of_eq rfl) (.cons (.of_eq rfl) .nil)) (octets_Reader_Number_ok hv _ (hH.at_ 0 rfl))) fun v2 _ τ hv2 H1 hH => ?_
  refine wpo_mv (a := (eI v2.1)) rfl rfl rfl (o_as tk rfl (Wk.refl _)) ?_
  refine wpo_nil ?_
  refine awp_seq ?_
  refine awp_seq ?_
  refine awp_region rfl ?_
  refine wpo_mv (a := (.ref p0 0)) rfl rfl rfl (o_mv tk rfl (Wk.refl _)) ?_
  refine wpo_mv (a := (.ref p0 0)) rfl rfl rfl (o_c tk false rfl (fun _ => rfl)) ?_
  refine wpo_mv (a := (.ref p0 2)) rfl rfl rfl (o_c tk false rfl (fun _ => rfl)) ?_
  refine wpo_rd (a := (eI v2.2.code)) rfl rfl rfl (h_ld tk hH 0 rfl rfl rfl) ?_
  refine wpo_lt H1 eB rfl rfl rfl (o_ar tk rfl rfl rfl) fun v4 H3 => ?_
  refine wpo_nil ?_
  refine awp_if H3 rfl (fun H5 => ?_) (fun H5 => ?_)
  · refine awp_seq ?_
    refine awp_region rfl ?_
    refine wpo_mv (a := AV.nils) rfl rfl rfl (o_as tk rfl (Wk.refl _)) ?_
    refine wpo_nil ?_
    refine awp_ret ?_
    obtain rfl := Option.some.inj H5
    exact ⟨_, ((eL 1 (@eU .u8 8)) []), rfl, (wk_nils _), .of_eq ((enc_l td22 sz22 (enc_u td5 sz5).cut).cut _ _ _), hH.noT⟩
  · refine awp_skip ?_
    refine awp_seq ?_
    refine awp_seq ?_
    refine awp_region rfl ?_
    refine wpo_mv (a := (eI v2.1)) rfl rfl rfl (o_mv tk rfl (Wk.refl _)) ?_
    refine wpo_mv (a := (.ref p0 0)) rfl rfl rfl (o_mv tk rfl (Wk.refl _)) ?_
    refine wpo_bdr H5 eI rfl rfl rfl (fun v7 hv => h_callr rfl rfl (.cons (.of_eq rfl) .nil) (octets_Reader_Left_ok hv _ (hH.at_ 0 rfl))) fun v7 hv7 H6 => ?_
    refine wpo_lt H6 eB rfl rfl rfl (o_ar tk rfl rfl rfl) fun v9 H8 => ?_
    refine wpo_nil ?_
    refine awp_if H8 rfl (fun H10 => ?_) (fun H10 => ?_)
    · refine awp_seq ?_
      refine awp_region rfl ?_
      refine wpo_mv (a := (.ref p0 0)) rfl rfl rfl (o_mv tk rfl (Wk.refl _)) ?_
      refine wpo_mv (a := (eI x0.at_)) rfl rfl rfl (o_mv tk rfl (Wk.refl _)) ?_
      refine wpo_mv (a := (.ref p0 0)) rfl rfl rfl (o_c tk false rfl (fun _ => rfl)) ?_
      refine wpo_mv (a := (.ref p0 1)) rfl rfl rfl (o_c tk false rfl (fun _ => rfl)) ?_
      obtain ⟨c12, hc13, H11⟩ := lt_ex H10
      refine wpo_z rfl rfl (h_st tk hH 0 rfl ty3 (by simp) rfl rfl (.of_eq rfl) (b := (eI x0.at_)) rfl rfl (Nat.le_of_ble_eq_true rfl) (c_octets_Reader c12) (by rw [← hc13]; rfl)) fun τ hH => ?_
      refine wpo_nil ?_
      refine awp_seq ?_
      refine awp_region rfl ?_
      refine wpo_mv (a := (.ref p0 0)) rfl rfl rfl (o_mv tk rfl (Wk.refl _)) ?_
      refine wpo_cb H11 (fun x _ => .tup []) rfl rfl rfl (fun v15 hv => h_call1 hH [(0, (p0, (c_octets_Reader v15)))] ⟨⟨_, rfl⟩, trivial⟩ rfl rfl (.cons (.of_eq rfl) (.cons (.of_eq rfl) .nil)) (octets_Reader_Fail_ok hv _ (hH.at_ 0 rfl))) fun v15 _ τ hv15 H14 hH => ?_
      refine wpo_nil ?_
      refine awp_seq ?_
      refine awp_region rfl ?_
      refine wpo_mv (a := AV.nils) rfl rfl rfl (o_as tk rfl (Wk.refl _)) ?_
      refine wpo_nil ?_
      refine awp_ret ?_
      obtain rfl := Option.some.inj H14
      exact ⟨_, ((eL 1 (@eU .u8 8)) []), rfl, (wk_nils _), .of_eq ((enc_l td22 sz22 (enc_u td5 sz5).cut).cut _ _ _), hH.noT⟩
    · refine awp_skip ?_
      refine awp_seq ?_
      refine awp_drawS mixed [16] rfl (by decide +kernel) rfl rfl ?_
      refine wpdS_mv (a := (eF 1 (@eU .u8 8) ([] : List (BitVec 8)))) rfl rfl rfl (o_c tk false rfl (fun _ => rfl)) ?_
      refine wpdS_mv (a := (.ref p0 0)) rfl rfl rfl (o_mv tk rfl (Wk.refl _)) ?_
      refine wpdS_mv (a := (.ref p0 0)) rfl rfl rfl (o_c tk false rfl (fun _ => rfl)) ?_
      refine wpdS_mv (a := (.ref p0 0)) rfl rfl rfl (o_c tk false rfl (fun _ => rfl)) ?_
      refine wpdS_rd (a := ((eL 1 (@eU .u8 8)) v2.2.b)) rfl (by decide +kernel) rfl rfl (h_ld tk hH 0 rfl rfl rfl) ?_
      refine wpdS_mv (a := (.ref p0 0)) rfl rfl rfl (o_mv tk rfl (Wk.refl _)) ?_
      refine wpdS_mv (a := (.ref p0 0)) rfl rfl rfl (o_c tk false rfl (fun _ => rfl)) ?_
      refine wpdS_mv (a := (.ref p0 1)) rfl rfl rfl (o_c tk false rfl (fun _ => rfl)) ?_
      refine wpdS_rd (a := (eI v2.2.at_)) rfl (by decide +kernel) rfl rfl (h_ld tk hH 0 rfl rfl rfl) ?_
      refine wpdS_mv (a := (.ref p0 0)) rfl rfl rfl (o_mv tk rfl (Wk.refl _)) ?_
      refine wpdS_mv (a := (.ref p0 0)) rfl rfl rfl (o_c tk false rfl (fun _ => rfl)) ?_
      refine wpdS_mv (a := (.ref p0 1)) rfl rfl rfl (o_c tk false rfl (fun _ => rfl)) ?_
      refine wpdS_rd (a := (eI v2.2.at_)) rfl (by decide +kernel) rfl rfl (h_ld tk hH 0 rfl rfl rfl) ?_
      refine wpdS_mv (a := (eI v2.1)) rfl rfl rfl (o_mv tk rfl (Wk.refl _)) ?_
      refine wpdS_lt H10 eI rfl rfl rfl (o_ar tk rfl rfl rfl) fun v17 H16 => ?_
      refine wpdS_bd H16 (eL 1 (@eU .u8 8)) rfl rfl rfl (fun v19 hv => o_cut tk hv td22 (enc_u td5 sz5) rfl rfl rfl) fun v19 hv19 H18 => ?_
      obtain ⟨v21, hv22, H20⟩ := Option.bind_eq_some_iff.1 H18
      refine wpdS_a (av := fun t => eT t 1 (@eU .u8 8) v21) rfl rfl rfl (h_app0 tk hH hv22 td22 ty5 rfl (by decide) (.inr rfl) (src_l td22 rfl)) fun tk23 τ hH => ?_
      refine wpdS_mv (a := (eT tk23 1 (@eU .u8 8) v21)) rfl rfl rfl (o_as tk rfl (Wk.refl _)) ?_
      refine wpdS_nil ?_
      refine awp_seq ?_
      refine awp_region rfl ?_
      refine wpo_mv (a := (.ref p0 0)) rfl rfl rfl (o_mv tk rfl (Wk.refl _)) ?_
      refine wpo_mv (a := (.ref p0 0)) rfl rfl rfl (o_c tk false rfl (fun _ => rfl)) ?_
      refine wpo_mv (a := (.ref p0 1)) rfl rfl rfl (o_c tk false rfl (fun _ => rfl)) ?_
      refine wpo_rd (a := (eI v2.2.at_)) rfl rfl rfl (h_ld tk hH 0 rfl rfl rfl) ?_
      refine wpo_mv (a := (eI v2.1)) rfl rfl rfl (o_mv tk rfl (Wk.refl _)) ?_
      refine wpo_lt H20 eI rfl rfl rfl (o_ar tk rfl rfl rfl) fun v25 H24 => ?_
      refine wpo_mv (a := (.ref p0 0)) rfl rfl rfl (o_c tk false rfl (fun _ => rfl)) ?_
      refine wpo_mv (a := (.ref p0 1)) rfl rfl rfl (o_c tk false rfl (fun _ => rfl)) ?_
      obtain ⟨c27, hc28, H26⟩ := lt_ex H24
      refine wpo_z rfl rfl (h_st tk hH 0 rfl ty3 (by simp) rfl rfl (.of_eq rfl) (b := (eI v25)) rfl rfl (Nat.le_of_ble_eq_true rfl) (c_octets_Reader c27) (by rw [← hc28]; rfl)) fun τ hH => ?_
      refine wpo_nil ?_
      refine awp_seq ?_
      refine awp_region rfl ?_
      refine wpo_mv (a := (eT tk23 1 (@eU .u8 8) v21)) rfl rfl rfl (o_mv tk rfl (Wk.refl _)) ?_
      refine wpo_mv (a := (eT tk23 1 (@eU .u8 8) v21)) rfl rfl rfl (o_as tk rfl (Wk.refl _)) ?_
      refine wpo_nil ?_
      refine awp_ret ?_
      obtain rfl := Option.some.inj H26
      exact ⟨_, ((eL 1 (@eU .u8 8)) v21), rfl, wk_no, .of_eq ((enc_l td22 sz22 (enc_u td5 sz5).cut).cut _ _ _), hH.noT⟩
end Go.Proofs.YthkfilchighbhaaDoor
namespace Go.Proofs.YthkfilchighbhaaDoor
open Go Go.Va
set_option linter.unusedVariables false
set_option linter.unusedSimpArgs false
set_option maxRecDepth 20000
theorem octets_Reader_End_ok {x0 : octets_Reader} {r : Int × octets_Reader} (H : octets_Reader_End x0 = some r) (σ : St) {p0 : Nat} (h0 : σ.objs[p0]? = some (c_octets_Reader x0)) : ACall Tryd.prog 47 [(.ref p0 0)] σ (fun a τ => a = eI r.1 ∧ τ = σ.puts [(p0, (c_octets_Reader r.2))]) := by
  unfold octets_Reader_End at H
  refine ACall.out [(p0, (c_octets_Reader r.2))] (by simp only [List.mem_cons, List.not_mem_nil, or_false]; rintro _ (rfl) ρ κ <;> exact c_octets_Reader_cut ρ κ _) (acall_start tk Tryd.func47 (by decide) rfl (Nat.le_of_ble_eq_true rfl) ?_)
  have hH := Holds.init σ
  have hH := hH.bring h0 (fun _ h => by cases h)
  refine awp_seq ?_
  refine awp_region rfl ?_
  refine wpo_mv (a := (eI (0 : Int))) rfl rfl rfl (o_as tk rfl (Wk.refl _)) ?_
  refine wpo_nil ?_
  refine awp_seq ?_
  refine awp_seq ?_
  refine awp_region rfl ?_
  refine wpo_mv (a := (.ref p0 0)) rfl rfl rfl (o_mv tk rfl (Wk.refl _)) ?_
  refine wpo_bdr H eI rfl rfl rfl (fun v2 hv => h_callr rfl rfl (.cons (.of_eq rfl) .nil) (octets_Reader_Left_ok hv _ (hH.at_ 0 rfl))) fun v2 hv2 H1 => ?_
  refine wpo_lt H1 eB rfl rfl rfl (o_ar tk rfl rfl rfl) fun v4 H3 => ?_
  refine wpo_nil ?_
  obtain ⟨s5, hs7, hj8⟩ := Option.bind_eq_some_iff.1 H3
  refine awp_cutn (fun fr τ => WkF fr (fm [(0, (.ref p0 0))]) ∧ Holds σ [(p0, (c_octets_Reader s5))] [] τ) ?_ ?_
  · rintro fr τ ⟨hfr, hH⟩
    have H12 := hj8
    refine AWP.fm [(0, (.ref p0 0))] hfr ?_
    refine awp_seq ?_
    refine awp_region rfl ?_
    refine wpo_mv (a := (.ref p0 0)) rfl rfl rfl (o_mv tk rfl (Wk.refl _)) ?_
    refine wpo_mv (a := (.ref p0 0)) rfl rfl rfl (o_c tk false rfl (fun _ => rfl)) ?_
    refine wpo_mv (a := (.ref p0 2)) rfl rfl rfl (o_c tk false rfl (fun _ => rfl)) ?_
    refine wpo_rd (a := (eI s5.code)) rfl rfl rfl (h_ld tk hH 0 rfl rfl rfl) ?_
    refine wpo_mv (a := (eI s5.code)) rfl rfl rfl (o_as tk rfl (Wk.refl _)) ?_
    refine wpo_nil ?_
    refine awp_ret ?_
    obtain rfl := Option.some.inj H12
    exact ⟨_, (eI s5.code), rfl, (.of_eq rfl), .of_eq ((enc_i64 td33 sz33).cut _ _ _), hH.noT⟩
  · refine awp_if hs7 rfl (fun H9 => ?_) (fun H9 => ?_)
    · refine awp_region rfl ?_
      refine wpo_mv (a := (.ref p0 0)) rfl rfl rfl (o_mv tk rfl (Wk.refl _)) ?_
      refine wpo_cb H9 (fun x _ => .tup []) rfl rfl rfl (fun v11 hv => h_call1 hH [(0, (p0, (c_octets_Reader v11)))] ⟨⟨_, rfl⟩, trivial⟩ rfl rfl (.cons (.of_eq rfl) (.cons (.of_eq rfl) .nil)) (octets_Reader_Fail_ok hv _ (hH.at_ 0 rfl))) fun v11 _ τ hv11 H10 hH => ?_
      refine wpo_nil ?_
      have e := Option.some.inj H10
      subst e
      exact ⟨(wkf_cons (.of_eq rfl) (wkf_nil _)), hH⟩
    · refine awp_skip ?_
      have e := Option.some.inj H9
      subst e
      exact ⟨(wkf_cons (.of_eq rfl) (wkf_nil _)), hH⟩
end Go.Proofs.YthkfilchighbhaaDoor
namespace Go.Proofs.YthkfilchighbhaaDoor
open Go Go.Va
set_option linter.unusedVariables false
set_option linter.unusedSimpArgs false
set_option maxRecDepth 20000
theorem octets_Reader_At_ok {x0 : octets_Reader} {r : Int} (H : octets_Reader_At x0 = some r) (σ : St) {p0 : Nat} (h0 : σ.objs[p0]? = some (c_octets_Reader x0)) : ACall Tryd.prog 48 [(.ref p0 0)] σ (fun a τ => a = eI r ∧ τ = σ) := by
  unfold octets_Reader_At at H
  refine ACall.pure (acall_start tk Tryd.func48 (by decide) rfl (Nat.le_of_ble_eq_true rfl) ?_)
  have hH := Holds.init σ
  have hH := hH.bring h0 (fun _ h => by cases h)
  refine awp_seq ?_
  refine awp_region rfl ?_
  refine wpo_mv (a := (eI (0 : Int))) rfl rfl rfl (o_as tk rfl (Wk.refl _)) ?_
  refine wpo_nil ?_
  refine awp_seq ?_
  refine awp_region rfl ?_
  refine wpo_mv (a := (.ref p0 0)) rfl rfl rfl (o_mv tk rfl (Wk.refl _)) ?_
  refine wpo_mv (a := (.ref p0 0)) rfl rfl rfl (o_c tk false rfl (fun _ => rfl)) ?_
  refine wpo_mv (a := (.ref p0 1)) rfl rfl rfl (o_c tk false rfl (fun _ => rfl)) ?_
  refine wpo_rd (a := (eI x0.at_)) rfl rfl rfl (h_ld tk hH 0 rfl rfl rfl) ?_
  refine wpo_mv (a := (eI x0.at_)) rfl rfl rfl (o_as tk rfl (Wk.refl _)) ?_
  refine wpo_nil ?_
  refine awp_ret ?_
  obtain rfl := Option.some.inj H
  exact ⟨_, (eI x0.at_), rfl, (.of_eq rfl), .of_eq ((enc_i64 td3 sz3).cut _ _ _), (hH.noT.unbring h0)⟩
end Go.Proofs.YthkfilchighbhaaDoor
namespace Go.Proofs.YthkfilchighbhaaDoor
open Go Go.Va
set_option linter.unusedVariables false
set_option linter.unusedSimpArgs false
set_option maxRecDepth 20000
theorem wire_Get_ok {x0 : List (BitVec 8)} {r : api_Msg × Err} (H : wire_Get x0 = some r) (σ : St)  : ACall Tryd.prog 18 [((eL 1 (@eU .u8 8)) x0)] σ (fun a τ => a = .tup [e_api_Msg r.1, eErr r.2] ∧ τ = σ) := by
  unfold wire_Get at H
  refine ACall.pure (acall_start tk Tryd.func18 (by decide) rfl (Nat.le_of_ble_eq_true rfl) ?_)
  have hH := Holds.init σ
  refine awp_seq ?_
  refine awp_region rfl ?_
  refine wpo_a (av := fun id => .ref id 0) rfl rfl rfl (h_allocw tk hH ty26 (c_api_Msg z_api_Msg) (.cons (.of_eq rfl) (.cons (.of_eq rfl) (.cons (.of_eq rfl) (.cons (.of_eq rfl) (.cons (.of_eq rfl) (.cons (.of_eq rfl) (.cons (.of_eq rfl) (.cons (.of_eq rfl) (.cons (.of_eq rfl) (.cons (wk_nils _) (.cons (.of_eq rfl) .nil)))))))))))) fun id1 τ ⟨hH, n2⟩ => ?_
  refine wpo_mv (a := (eErr Err.nil)) rfl rfl rfl (o_as tk rfl (Wk.refl _)) ?_
  refine wpo_nil ?_
  refine awp_scope ?_
  refine awp_seq ?_
  refine awp_seq ?_
  refine awp_region rfl ?_
  refine wpo_mv (a := ((eL 1 (@eU .u8 8)) x0)) rfl rfl rfl (o_mv tk rfl (Wk.refl _)) ?_
  refine wpo_lt H eI rfl rfl rfl (o_len tk td22 rfl) fun v4 H3 => ?_
  refine wpo_lt H3 eB rfl rfl rfl (o_ar tk rfl rfl rfl) fun v6 H5 => ?_
  refine wpo_nil ?_
  refine awp_if H5 rfl (fun H7 => ?_) (fun H7 => ?_)
  · refine awp_seq ?_
    refine awp_region rfl ?_
    refine wpo_lt H7 e_api_Msg rfl rfl rfl (o_cw tk false (a := .agg ([AV.int .i64 0] ++ [AV.int .i64 0] ++ [AV.int .i64 0] ++ [AV.int .i64 0] ++ [AV.int .i64 0] ++ [AV.str ⟨#[]⟩, AV.int .i64 0, AV.int .i64 0, AV.int .i64 0, AV.nils] ++ [AV.bool false])) rfl (fun _ => rfl) (wk_agg (WkL.append (WkL.append (WkL.append (WkL.append (WkL.append (WkL.append (.cons (.of_eq rfl) .nil) (.cons (.of_eq rfl) .nil)) (.cons (.of_eq rfl) .nil)) (.cons (.of_eq rfl) .nil)) (.cons (.of_eq rfl) .nil)) (.cons (.of_eq rfl) (.cons (.of_eq rfl) (.cons (.of_eq rfl) (.cons (.of_eq rfl) (.cons (wk_nils _) .nil)))))) (.cons (.of_eq rfl) .nil)))) fun v9 H8 => ?_
    refine wpo_mv (a := ((eL 1 (@eU .u8 8)) x0)) rfl rfl rfl (o_mv tk rfl (Wk.refl _)) ?_
    refine wpo_lt H8 eI rfl rfl rfl (o_len tk td22 rfl) fun v11 H10 => ?_
    refine wpo_bd H10 eErr rfl rfl rfl (fun v13 hv => OpP.of_call rfl rfl (.cons (.of_eq rfl) (.cons (.of_eq rfl) (.cons (.of_eq rfl) .nil))) (trouble_New_ok hv)) fun v13 hv13 H12 => ?_
    obtain ⟨c15, hc16, H14⟩ := lt_ex H12
    refine wpo_z rfl rfl (h_st tk hH 0 rfl ty26 (by simp) rfl rfl (.of_eq rfl) (b := (e_api_Msg v9)) (enc26.flat _) rfl (Nat.le_of_ble_eq_true rfl) (c_api_Msg c15) (by rw [← hc16]; rfl)) fun τ hH => ?_
    refine wpo_mv (a := (eErr v13)) rfl rfl rfl (o_as tk rfl (Wk.refl _)) ?_
    refine wpo_nil ?_
    refine awp_ret ?_
    obtain rfl := Option.some.inj H14
    exact ⟨_, (.tup [(e_api_Msg c15), (eErr v13)]), (ares_2 (ares_cell hH 0 rfl rfl rfl) rfl), (wk_tup (.cons (.of_eq rfl) (.cons (.of_eq rfl) .nil))), .of_eq (by simp only [cutAV, cutL, enc26.cut _ _ _, encErr.cut _ _ _]), (hH.noT.drop n2)⟩
  · refine awp_skip ?_
    refine awp_seq ?_
    refine awp_seq ?_
    refine awp_region rfl ?_
    refine wpo_mv (a := ((eL 1 (@eU .u8 8)) x0)) rfl rfl rfl (o_mv tk rfl (Wk.refl _)) ?_
    refine wpo_bd H7 eB rfl rfl rfl (fun v18 hv => OpP.of_call rfl rfl (.cons (.of_eq rfl) .nil) (checksum_Fits_ok hv)) fun v18 hv18 H17 => ?_
    refine wpo_lt H17 eB rfl rfl rfl (o_un tk rfl rfl) fun v20 H19 => ?_
    refine wpo_nil ?_
    refine awp_if H19 rfl (fun H21 => ?_) (fun H21 => ?_)
    · refine awp_seq ?_
      refine awp_region rfl ?_
      refine wpo_lt H21 e_api_Msg rfl rfl rfl (o_cw tk false (a := .agg ([AV.int .i64 0] ++ [AV.int .i64 0] ++ [AV.int .i64 0] ++ [AV.int .i64 0] ++ [AV.int .i64 0] ++ [AV.str ⟨#[]⟩, AV.int .i64 0, AV.int .i64 0, AV.int .i64 0, AV.nils] ++ [AV.bool false])) rfl (fun _ => rfl) (wk_agg (WkL.append (WkL.append (WkL.append (WkL.append (WkL.append (WkL.append (.cons (.of_eq rfl) .nil) (.cons (.of_eq rfl) .nil)) (.cons (.of_eq rfl) .nil)) (.cons (.of_eq rfl) .nil)) (.cons (.of_eq rfl) .nil)) (.cons (.of_eq rfl) (.cons (.of_eq rfl) (.cons (.of_eq rfl) (.cons (.of_eq rfl) (.cons (wk_nils _) .nil)))))) (.cons (.of_eq rfl) .nil)))) fun v23 H22 => ?_
      refine wpo_mv (a := ((eL 1 (@eU .u8 8)) x0)) rfl rfl rfl (o_mv tk rfl (Wk.refl _)) ?_
      refine wpo_lt H22 eI rfl rfl rfl (o_len tk td22 rfl) fun v25 H24 => ?_
      refine wpo_bd H24 eErr rfl rfl rfl (fun v27 hv => OpP.of_call rfl rfl (.cons (.of_eq rfl) (.cons (.of_eq rfl) (.cons (.of_eq rfl) .nil))) (trouble_New_ok hv)) fun v27 hv27 H26 => ?_
      obtain ⟨c29, hc30, H28⟩ := lt_ex H26
      refine wpo_z rfl rfl (h_st tk hH 0 rfl ty26 (by simp) rfl rfl (.of_eq rfl) (b := (e_api_Msg v23)) (enc26.flat _) rfl (Nat.le_of_ble_eq_true rfl) (c_api_Msg c29) (by rw [← hc30]; rfl)) fun τ hH => ?_
      refine wpo_mv (a := (eErr v27)) rfl rfl rfl (o_as tk rfl (Wk.refl _)) ?_
      refine wpo_nil ?_
      refine awp_ret ?_
      obtain rfl := Option.some.inj H28
      exact ⟨_, (.tup [(e_api_Msg c29), (eErr v27)]), (ares_2 (ares_cell hH 0 rfl rfl rfl) rfl), (wk_tup (.cons (.of_eq rfl) (.cons (.of_eq rfl) .nil))), .of_eq (by simp only [cutAV, cutL, enc26.cut _ _ _, encErr.cut _ _ _]), (hH.noT.drop n2)⟩
    · refine awp_skip ?_
      refine awp_seq ?_
      refine awp_region rfl ?_
      refine wpo_mv (a := ((eL 1 (@eU .u8 8)) x0)) rfl rfl rfl (o_mv tk rfl (Wk.refl _)) ?_
      refine wpo_mv (a := ((eL 1 (@eU .u8 8)) x0)) rfl rfl rfl (o_mv tk rfl (Wk.refl _)) ?_
      refine wpo_lt H21 eI rfl rfl rfl (o_len tk td22 rfl) fun v32 H31 => ?_
      refine wpo_lt H31 eI rfl rfl rfl (o_ar tk rfl rfl rfl) fun v34 H33 => ?_
      refine wpo_bd H33 (eL 1 (@eU .u8 8)) rfl rfl rfl (fun v36 hv => o_cutTo tk hv td22 (enc_u td5 sz5) rfl rfl) fun v36 hv36 H35 => ?_
      refine wpo_cb H35 (fun _ id => .ref id 0) rfl rfl rfl (fun v38 hv => h_calln hH (c_octets_Reader v38) rfl rfl (.cons (.of_eq rfl) .nil) (octets_Read_ok hv _)) fun v38 id39 τ hv38 H37 ⟨hH, n40⟩ => ?_
      refine wpo_mv (a := (.ref id39 0)) rfl rfl rfl (o_as tk rfl (Wk.refl _)) ?_
      refine wpo_nil ?_
      refine awp_seq ?_
      refine awp_region rfl ?_
      refine wpo_a (av := fun id => .ref id 0) rfl rfl rfl (h_allocw tk hH ty26 (c_api_Msg z_api_Msg) (.cons (.of_eq rfl) (.cons (.of_eq rfl) (.cons (.of_eq rfl) (.cons (.of_eq rfl) (.cons (.of_eq rfl) (.cons (.of_eq rfl) (.cons (.of_eq rfl) (.cons (.of_eq rfl) (.cons (.of_eq rfl) (.cons (wk_nils _) (.cons (.of_eq rfl) .nil)))))))))))) fun id41 τ ⟨hH, n42⟩ => ?_
      refine wpo_nil ?_
      refine awp_seq ?_
      refine awp_region rfl ?_
      refine wpo_mv (a := (.ref id39 0)) rfl rfl rfl (o_mv tk rfl (Wk.refl _)) ?_
      refine wpo_cb H37 (fun x _ => eI x.1) rfl rfl rfl (fun v44 hv => h_call1 hH [(1, (id39, (c_octets_Reader v44.2)))] ⟨⟨_, rfl⟩, trivial⟩ rfl rfl (.cons (.of_eq rfl) (.cons (.of_eq rfl) .nil)) (octets_Reader_Number_ok hv _ (hH.at_ 1 rfl))) fun v44 _ τ hv44 H43 hH => ?_
      refine wpo_mv (a := (.ref id39 0)) rfl rfl rfl (o_mv tk rfl (Wk.refl _)) ?_
      refine wpo_cb H43 (fun x _ => eI x.1) rfl rfl rfl (fun v46 hv => h_call1 hH [(1, (id39, (c_octets_Reader v46.2)))] ⟨⟨_, rfl⟩, trivial⟩ rfl rfl (.cons (.of_eq rfl) (.cons (.of_eq rfl) .nil)) (octets_Reader_Number_ok hv _ (hH.at_ 1 rfl))) fun v46 _ τ hv46 H45 hH => ?_
      refine wpo_mv (a := (.ref id39 0)) rfl rfl rfl (o_mv tk rfl (Wk.refl _)) ?_
      refine wpo_cb H45 (fun x _ => eI x.1) rfl rfl rfl (fun v48 hv => h_call1 hH [(1, (id39, (c_octets_Reader v48.2)))] ⟨⟨_, rfl⟩, trivial⟩ rfl rfl (.cons (.of_eq rfl) (.cons (.of_eq rfl) .nil)) (octets_Reader_Number_ok hv _ (hH.at_ 1 rfl))) fun v48 _ τ hv48 H47 hH => ?_
      refine wpo_mv (a := (.ref id39 0)) rfl rfl rfl (o_mv tk rfl (Wk.refl _)) ?_
      refine wpo_cb H47 (fun x _ => eI x.1) rfl rfl rfl (fun v50 hv => h_call1 hH [(1, (id39, (c_octets_Reader v50.2)))] ⟨⟨_, rfl⟩, trivial⟩ rfl rfl (.cons (.of_eq rfl) (.cons (.of_eq rfl) .nil)) (octets_Reader_Number_ok hv _ (hH.at_ 1 rfl))) fun v50 _ τ hv50 H49 hH => ?_
      refine wpo_mv (a := (.ref id41 0)) rfl rfl rfl (o_c tk false rfl (fun _ => rfl)) ?_
      obtain ⟨c52, hc53, H51⟩ := lt_ex H49
      refine wpo_z rfl rfl (h_st tk hH 0 rfl ty3 (by simp) rfl rfl (.of_eq rfl) (b := (eI v44.1)) rfl rfl (Nat.le_of_ble_eq_true rfl) (c_api_Msg c52) (by rw [← hc53]; rfl)) fun τ hH => ?_
      refine wpo_mv (a := (.ref id41 1)) rfl rfl rfl (o_c tk false rfl (fun _ => rfl)) ?_
      obtain ⟨c55, hc56, H54⟩ := lt_ex H51
      refine wpo_z rfl rfl (h_st tk hH 0 rfl ty3 (by simp) rfl rfl (.of_eq rfl) (b := (eI v46.1)) rfl rfl (Nat.le_of_ble_eq_true rfl) (c_api_Msg c55) (by rw [← hc56]; rfl)) fun τ hH => ?_
      refine wpo_mv (a := (.ref id41 2)) rfl rfl rfl (o_c tk false rfl (fun _ => rfl)) ?_
      obtain ⟨c58, hc59, H57⟩ := lt_ex H54
      refine wpo_z rfl rfl (h_st tk hH 0 rfl ty3 (by simp) rfl rfl (.of_eq rfl) (b := (eI v48.1)) rfl rfl (Nat.le_of_ble_eq_true rfl) (c_api_Msg c58) (by rw [← hc59]; rfl)) fun τ hH => ?_
      refine wpo_mv (a := (.ref id41 3)) rfl rfl rfl (o_c tk false rfl (fun _ => rfl)) ?_
      obtain ⟨c61, hc62, H60⟩ := lt_ex H57
      refine wpo_z rfl rfl (h_st tk hH 0 rfl ty3 (by simp) rfl rfl (.of_eq rfl) (b := (eI v50.1)) rfl rfl (Nat.le_of_ble_eq_true rfl) (c_api_Msg c61) (by rw [← hc62]; rfl)) fun τ hH => ?_
      refine wpo_nil ?_
      refine awp_seq ?_
      refine awp_label ?_
      refine awp_seq ?_
      refine awp_seq ?_
      refine awp_region rfl ?_
      refine wpo_mv (a := (.ref id41 0)) rfl rfl rfl (o_c tk false rfl (fun _ => rfl)) ?_
      refine wpo_rd (a := (eI c61.Kind)) rfl rfl rfl (h_ld tk hH 0 rfl rfl rfl) ?_
      refine wpo_bd H60 eS rfl rfl rfl (fun v64 hv => OpP.of_call rfl rfl (.cons (.of_eq rfl) .nil) (wire_parts_ok hv)) fun v64 hv64 H63 => ?_
      refine wpo_a (av := fun id => .spc id) rfl rfl rfl (h_range tk hH td9 rfl) fun id65 τ ⟨hH, n66⟩ => ?_
      refine wpo_nil ?_
      refine awp_block ?_
      obtain ⟨s77, hs71, hj72⟩ := Option.bind_eq_some_iff.1 H63
      refine awp_cutx 0 (fun fr τ => WkF fr (fm [(0, ((eL 1 (@eU .u8 8)) x0)), (2, (.ref id1 0)), (4, (.ref id39 0)), (5, (.ref id41 0))]) ∧ Holds σ [(id65, (cIt s77.1)), (id41, (c_api_Msg s77.2.1)), (id39, (c_octets_Reader s77.2.2)), (id1, (c_api_Msg z_api_Msg))] [] τ) ?_ ?_
      · rintro fr τ ⟨hfr, hH⟩
        have H141 := hj72
        refine AWP.fm [(0, ((eL 1 (@eU .u8 8)) x0)), (2, (.ref id1 0)), (4, (.ref id39 0)), (5, (.ref id41 0))] hfr ?_
        refine awp_seq ?_
        refine awp_seq ?_
        refine awp_region rfl ?_
        refine wpo_mv (a := (.ref id39 0)) rfl rfl rfl (o_mv tk rfl (Wk.refl _)) ?_
        refine wpo_cb H141 (fun x _ => eI x.1) rfl rfl rfl (fun v143 hv => h_call1 hH [(2, (id39, (c_octets_Reader v143.2)))] ⟨⟨_, rfl⟩, trivial⟩ rfl rfl (.cons (.of_eq rfl) .nil) (octets_Reader_End_ok hv _ (hH.at_ 2 rfl))) fun v143 _ τ hv143 H142 hH => ?_
        refine wpo_mv (a := (eI v143.1)) rfl rfl rfl (o_as tk rfl (Wk.refl _)) ?_
        refine wpo_nil ?_
        refine awp_seq ?_
        refine awp_region rfl ?_
        refine wpo_mv (a := (eI v143.1)) rfl rfl rfl (o_mv tk rfl (Wk.refl _)) ?_
        refine wpo_lt H142 eB rfl rfl rfl (o_ar tk rfl rfl rfl) fun v145 H144 => ?_
        refine wpo_nil ?_
        refine awp_if H144 rfl (fun H146 => ?_) (fun H146 => ?_)
        · refine awp_seq ?_
          refine awp_region rfl ?_
          refine wpo_lt H146 e_api_Msg rfl rfl rfl (o_cw tk false (a := .agg ([AV.int .i64 0] ++ [AV.int .i64 0] ++ [AV.int .i64 0] ++ [AV.int .i64 0] ++ [AV.int .i64 0] ++ [AV.str ⟨#[]⟩, AV.int .i64 0, AV.int .i64 0, AV.int .i64 0, AV.nils] ++ [AV.bool false])) rfl (fun _ => rfl) (wk_agg (WkL.append (WkL.append (WkL.append (WkL.append (WkL.append (WkL.append (.cons (.of_eq rfl) .nil) (.cons (.of_eq rfl) .nil)) (.cons (.of_eq rfl) .nil)) (.cons (.of_eq rfl) .nil)) (.cons (.of_eq rfl) .nil)) (.cons (.of_eq rfl) (.cons (.of_eq rfl) (.cons (.of_eq rfl) (.cons (.of_eq rfl) (.cons (wk_nils _) .nil)))))) (.cons (.of_eq rfl) .nil)))) fun v148 H147 => ?_
          refine wpo_mv (a := (.ref id39 0)) rfl rfl rfl (o_mv tk rfl (Wk.refl _)) ?_
          refine wpo_bdr H147 eI rfl rfl rfl (fun v150 hv => h_callr rfl rfl (.cons (.of_eq rfl) .nil) (octets_Reader_At_ok hv _ (hH.at_ 2 rfl))) fun v150 hv150 H149 => ?_
          refine wpo_mv (a := (eI v143.1)) rfl rfl rfl (o_mv tk rfl (Wk.refl _)) ?_
          refine wpo_bd H149 eErr rfl rfl rfl (fun v152 hv => OpP.of_call rfl rfl (.cons (.of_eq rfl) (.cons (.of_eq rfl) (.cons (.of_eq rfl) .nil))) (trouble_New_ok hv)) fun v152 hv152 H151 => ?_
          obtain ⟨c154, hc155, H153⟩ := lt_ex H151
          refine wpo_z rfl rfl (h_st tk hH 3 rfl ty26 (by simp) rfl rfl (.of_eq rfl) (b := (e_api_Msg v148)) (enc26.flat _) rfl (Nat.le_of_ble_eq_true rfl) (c_api_Msg c154) (by rw [← hc155]; rfl)) fun τ hH => ?_
          refine wpo_mv (a := (eErr v152)) rfl rfl rfl (o_as tk rfl (Wk.refl _)) ?_
          refine wpo_nil ?_
          refine awp_ret ?_
          obtain rfl := Option.some.inj H153
          exact ⟨_, (.tup [(e_api_Msg c154), (eErr v152)]), (ares_2 (ares_cell hH 3 rfl rfl rfl) rfl), (wk_tup (.cons (.of_eq rfl) (.cons (.of_eq rfl) .nil))), .of_eq (by simp only [cutAV, cutL, enc26.cut _ _ _, encErr.cut _ _ _]), ((((hH.noT.drop n66).drop n42).drop n40).drop n2)⟩
        · refine awp_skip ?_
          refine awp_seq ?_
          refine awp_seq ?_
          refine awp_region rfl ?_
          refine wpo_rd (a := (e_api_Msg s77.2.1)) rfl rfl rfl (h_ld tk hH 1 rfl rfl rfl) ?_
          refine wpo_bd H146 eErr rfl rfl rfl (fun v157 hv => OpP.of_call rfl rfl (.cons (.of_eq rfl) .nil) (wire_Check_ok hv)) fun v157 hv157 H156 => ?_
          refine wpo_mv (a := (eErr v157)) rfl rfl rfl (o_as tk rfl (Wk.refl _)) ?_
          refine wpo_nil ?_
          refine awp_seq ?_
          refine awp_region rfl ?_
          refine wpo_mv (a := (eErr v157)) rfl rfl rfl (o_mv tk rfl (Wk.refl _)) ?_
          refine wpo_lt H156 eB rfl rfl rfl (o_err_neq tk rfl rfl rfl) fun v159 H158 => ?_
          refine wpo_nil ?_
          refine awp_if H158 rfl (fun H160 => ?_) (fun H160 => ?_)
          · refine awp_seq ?_
            refine awp_region rfl ?_
            refine wpo_lt H160 e_api_Msg rfl rfl rfl (o_cw tk false (a := .agg ([AV.int .i64 0] ++ [AV.int .i64 0] ++ [AV.int .i64 0] ++ [AV.int .i64 0] ++ [AV.int .i64 0] ++ [AV.str ⟨#[]⟩, AV.int .i64 0, AV.int .i64 0, AV.int .i64 0, AV.nils] ++ [AV.bool false])) rfl (fun _ => rfl) (wk_agg (WkL.append (WkL.append (WkL.append (WkL.append (WkL.append (WkL.append (.cons (.of_eq rfl) .nil) (.cons (.of_eq rfl) .nil)) (.cons (.of_eq rfl) .nil)) (.cons (.of_eq rfl) .nil)) (.cons (.of_eq rfl) .nil)) (.cons (.of_eq rfl) (.cons (.of_eq rfl) (.cons (.of_eq rfl) (.cons (.of_eq rfl) (.cons (wk_nils _) .nil)))))) (.cons (.of_eq rfl) .nil)))) fun v162 H161 => ?_
            refine wpo_mv (a := ((eL 1 (@eU .u8 8)) x0)) rfl rfl rfl (o_mv tk rfl (Wk.refl _)) ?_
            refine wpo_lt H161 eI rfl rfl rfl (o_len tk td22 rfl) fun v164 H163 => ?_
            refine wpo_mv (a := (eErr v157)) rfl rfl rfl (o_mv tk rfl (Wk.refl _)) ?_
            refine wpo_bd H163 eErr rfl rfl rfl (fun v166 hv => OpP.of_call rfl rfl (.cons (.of_eq rfl) (.cons (.of_eq rfl) (.cons (.of_eq rfl) .nil))) (trouble_Wrap_ok hv)) fun v166 hv166 H165 => ?_
            obtain ⟨c168, hc169, H167⟩ := lt_ex H165
            refine wpo_z rfl rfl (h_st tk hH 3 rfl ty26 (by simp) rfl rfl (.of_eq rfl) (b := (e_api_Msg v162)) (enc26.flat _) rfl (Nat.le_of_ble_eq_true rfl) (c_api_Msg c168) (by rw [← hc169]; rfl)) fun τ hH => ?_
            refine wpo_mv (a := (eErr v166)) rfl rfl rfl (o_as tk rfl (Wk.refl _)) ?_
            refine wpo_nil ?_
            refine awp_ret ?_
            obtain rfl := Option.some.inj H167
            exact ⟨_, (.tup [(e_api_Msg c168), (eErr v166)]), (ares_2 (ares_cell hH 3 rfl rfl rfl) rfl), (wk_tup (.cons (.of_eq rfl) (.cons (.of_eq rfl) .nil))), .of_eq (by simp only [cutAV, cutL, enc26.cut _ _ _, encErr.cut _ _ _]), ((((hH.noT.drop n66).drop n42).drop n40).drop n2)⟩
          · refine awp_skip ?_
            refine awp_seq ?_
            refine awp_region rfl ?_
            refine wpo_rd (a := (e_api_Msg s77.2.1)) rfl rfl rfl (h_ld tk hH 1 rfl rfl rfl) ?_
            obtain ⟨c171, hc172, H170⟩ := lt_ex H160
            refine wpo_z rfl rfl (h_st tk hH 3 rfl ty26 (by simp) rfl rfl (.of_eq rfl) (b := (e_api_Msg s77.2.1)) (enc26.flat _) rfl (Nat.le_of_ble_eq_true rfl) (c_api_Msg c171) (by rw [← hc172]; rfl)) fun τ hH => ?_
            refine wpo_mv (a := (eErr Err.nil)) rfl rfl rfl (o_as tk rfl (Wk.refl _)) ?_
            refine wpo_nil ?_
            refine awp_ret ?_
            obtain rfl := Option.some.inj H170
            exact ⟨_, (.tup [(e_api_Msg c171), (eErr Err.nil)]), (ares_2 (ares_cell hH 3 rfl rfl rfl) rfl), (wk_tup (.cons (.of_eq rfl) (.cons (.of_eq rfl) .nil))), .of_eq (by simp only [cutAV, cutL, enc26.cut _ _ _, encErr.cut _ _ _]), ((((hH.noT.drop n66).drop n42).drop n40).drop n2)⟩
      · refine awp_loopO (body := fun s => wire_Get_b0 x0 s.1 s.2.1 s.2.2) hs71 (fun (s : (List (BitVec 8) × Nat) × api_Msg × octets_Reader) fr τ => WkF fr (fm [(0, ((eL 1 (@eU .u8 8)) x0)), (2, (.ref id1 0)), (4, (.ref id39 0)), (5, (.ref id41 0)), (45, (.spc id65))]) ∧ Holds σ [(id65, (cIt s.1)), (id41, (c_api_Msg s.2.1)), (id39, (c_octets_Reader s.2.2)), (id1, (c_api_Msg z_api_Msg))] [] τ) ⟨(wkf_cons (.of_eq rfl) (wkf_cons (.of_eq rfl) (wkf_cons (.of_eq rfl) (wkf_cons (.of_eq rfl) (wkf_cons (.of_eq rfl) (wkf_nil _)))))), hH⟩ ?_
        rintro ⟨c67, c68, c69⟩ fr τ y73 ⟨hfr, hH⟩ hb75 hy76
        have H78 : wire_Get_b0 x0 c67 c68 c69 = some y73 := hb75
        unfold wire_Get_b0 at H78
        refine AWP.fm [(0, ((eL 1 (@eU .u8 8)) x0)), (2, (.ref id1 0)), (4, (.ref id39 0)), (5, (.ref id41 0)), (45, (.spc id65))] hfr ?_
        have hH : Holds σ [(id65, (cIt c67)), (id41, (c_api_Msg c68)), (id39, (c_octets_Reader c69)), (id1, (c_api_Msg z_api_Msg))] [] τ := hH
        refine awp_seq ?_
        refine awp_region rfl ?_
        obtain ⟨v80, hv81, H79⟩ := Option.bind_eq_some_iff.1 H78
        rcases v80 with _ | c82
        · rw [Option.elim_none] at H79
          refine wpo_a (av := fun _ => .tup [eB false]) rfl rfl rfl (h_next0 hH 0 hv81 rfl rfl) fun _ τ hH => ?_
          refine wpo_mv (a := (eB false)) rfl rfl rfl (o_ext tk rfl rfl) ?_
          refine wpo_nil ?_
          refine awp_seq ?_
          refine awp_false rfl ?_
          refine awp_exit ?_
          have hz := hy76 _ (inj_inr H79)
          subst hz
          exact ⟨⟨_, inj_inr H79⟩, (wkf_cons (.of_eq rfl) (wkf_cons (.of_eq rfl) (wkf_cons (.of_eq rfl) (wkf_cons (.of_eq rfl) (wkf_nil _))))), hH⟩
        · rw [Option.elim_some] at H79
          refine wpo_a (av := fun _ => .tup [eB true, eI (c67.2 : Int), eK .i32 c82]) rfl rfl rfl (h_next1 hH 0 hv81 rfl rfl) fun _ τ (hH : Holds σ [(id65, (cIt (c67.1, c67.2 + 1))), (id41, (c_api_Msg c68)), (id39, (c_octets_Reader c69)), (id1, (c_api_Msg z_api_Msg))] [] τ) => ?_
          refine wpo_mv (a := (eB true)) rfl rfl rfl (o_ext tk rfl rfl) ?_
          refine wpo_nil ?_
          refine awp_seq ?_
          refine awp_true rfl ?_
          refine awp_skip ?_
          refine awp_block ?_
          refine awp_seq ?_
          refine awp_region rfl ?_
          refine wpo_mv (a := ((eK .i32) c82)) rfl rfl rfl (o_ext tk rfl rfl) ?_
          refine wpo_mv (a := ((eK .i32) c82)) rfl rfl rfl (o_as tk rfl (Wk.refl _)) ?_
          refine wpo_nil ?_
          refine awp_seq ?_
          refine awp_seq ?_
          refine awp_region rfl ?_
          refine wpo_mv (a := (.ref id39 0)) rfl rfl rfl (o_mv tk rfl (Wk.refl _)) ?_
          refine wpo_bdr H79 eI rfl rfl rfl (fun v84 hv => h_callr rfl rfl (.cons (.of_eq rfl) .nil) (octets_Reader_Code_ok hv _ (hH.at_ 2 rfl))) fun v84 hv84 H83 => ?_
          refine wpo_lt H83 eB rfl rfl rfl (o_ar tk rfl rfl rfl) fun v86 H85 => ?_
          refine wpo_nil ?_
          refine awp_if H85 rfl (fun H87 => ?_) (fun H87 => ?_)
          · refine awp_exit ?_
            have hz := hy76 _ (inj_inr H87)
            subst hz
            exact ⟨⟨_, inj_inr H87⟩, (wkf_cons (.of_eq rfl) (wkf_cons (.of_eq rfl) (wkf_cons (.of_eq rfl) (wkf_cons (.of_eq rfl) (wkf_nil _))))), hH⟩
          · refine awp_skip ?_
            refine awp_seq ?_
            refine awp_region rfl ?_
            refine wpo_mv (a := ((eK .i32) c82)) rfl rfl rfl (o_mv tk rfl (Wk.refl _)) ?_
            refine wpo_nil ?_
            refine awp_block ?_
            refine awp_seq ?_
            refine awp_region rfl ?_
            refine wpo_lt H87 eB rfl rfl rfl (o_ar tk rfl rfl rfl) fun v89 H88 => ?_
            refine wpo_mv (a := (eB v89)) rfl rfl rfl (o_as tk rfl (Wk.refl _)) ?_
            refine wpo_nil ?_
            refine awp_if H88 rfl (fun H90 => ?_) (fun H90 => ?_)
            · refine awp_region rfl ?_
              refine wpo_mv (a := (.ref id39 0)) rfl rfl rfl (o_mv tk rfl (Wk.refl _)) ?_
              refine wpo_cb H90 (fun x _ => eI x.1) rfl rfl rfl (fun v92 hv => h_call1 hH [(2, (id39, (c_octets_Reader v92.2)))] ⟨⟨_, rfl⟩, trivial⟩ rfl rfl (.cons (.of_eq rfl) (.cons (.of_eq rfl) .nil)) (octets_Reader_Number_ok hv _ (hH.at_ 2 rfl))) fun v92 _ τ hv92 H91 hH => ?_
              refine wpo_mv (a := (.ref id41 4)) rfl rfl rfl (o_c tk false rfl (fun _ => rfl)) ?_
              obtain ⟨c94, hc95, H93⟩ := lt_ex H91
              refine wpo_z rfl rfl (h_st tk hH 1 rfl ty3 (by simp) rfl rfl (.of_eq rfl) (b := (eI v92.1)) rfl rfl (Nat.le_of_ble_eq_true rfl) (c_api_Msg c94) (by rw [← hc95]; rfl)) fun τ hH => ?_
              refine wpo_nil ?_
              exact ⟨((c67.1, c67.2 + 1), c94, v92.2), inj_inl H93, (wkf_cons (.of_eq rfl) (wkf_cons (.of_eq rfl) (wkf_cons (.of_eq rfl) (wkf_cons (.of_eq rfl) (wkf_cons (.of_eq rfl) (wkf_nil _)))))), hH⟩
            · refine awp_seq ?_
              refine awp_region rfl ?_
              refine wpo_lt H90 eB rfl rfl rfl (o_ar tk rfl rfl rfl) fun v97 H96 => ?_
              refine wpo_mv (a := (eB v97)) rfl rfl rfl (o_as tk rfl (Wk.refl _)) ?_
              refine wpo_nil ?_
              refine awp_if H96 rfl (fun H98 => ?_) (fun H98 => ?_)
              · refine awp_region rfl ?_
                refine wpo_mv (a := (.ref id39 0)) rfl rfl rfl (o_mv tk rfl (Wk.refl _)) ?_
                refine wpo_cb H98 (fun x _ => (eL 1 (@eU .u8 8)) x.1) rfl rfl rfl (fun v100 hv => h_call1 hH [(2, (id39, (c_octets_Reader v100.2)))] ⟨⟨_, rfl⟩, trivial⟩ rfl rfl (.cons (.of_eq rfl) (.cons (.of_eq rfl) .nil)) (octets_Reader_Bytes_ok hv _ (hH.at_ 2 rfl))) fun v100 _ τ hv100 H99 hH => ?_
                refine wpo_mv (a := (eS v100.1)) rfl rfl rfl (o_b2s tk td22 td9 td5 rfl) ?_
                refine wpo_mv (a := (.ref id41 5)) rfl rfl rfl (o_c tk false rfl (fun _ => rfl)) ?_
                refine wpo_mv (a := (.ref id41 5)) rfl rfl rfl (o_c tk false rfl (fun _ => rfl)) ?_
                obtain ⟨c102, hc103, H101⟩ := lt_ex H99
                refine wpo_z rfl rfl (h_st tk hH 1 rfl ty9 (by simp) rfl rfl (.of_eq rfl) (b := (eS v100.1)) rfl rfl (Nat.le_of_ble_eq_true rfl) (c_api_Msg c102) (by rw [← hc103]; rfl)) fun τ hH => ?_
                refine wpo_nil ?_
                exact ⟨((c67.1, c67.2 + 1), c102, v100.2), inj_inl H101, (wkf_cons (.of_eq rfl) (wkf_cons (.of_eq rfl) (wkf_cons (.of_eq rfl) (wkf_cons (.of_eq rfl) (wkf_cons (.of_eq rfl) (wkf_nil _)))))), hH⟩
              · refine awp_seq ?_
                refine awp_region rfl ?_
                refine wpo_lt H98 eB rfl rfl rfl (o_ar tk rfl rfl rfl) fun v105 H104 => ?_
                refine wpo_mv (a := (eB v105)) rfl rfl rfl (o_as tk rfl (Wk.refl _)) ?_
                refine wpo_nil ?_
                refine awp_if H104 rfl (fun H106 => ?_) (fun H106 => ?_)
                · refine awp_region rfl ?_
                  refine wpo_mv (a := (.ref id39 0)) rfl rfl rfl (o_mv tk rfl (Wk.refl _)) ?_
                  refine wpo_cb H106 (fun x _ => eI x.1) rfl rfl rfl (fun v108 hv => h_call1 hH [(2, (id39, (c_octets_Reader v108.2)))] ⟨⟨_, rfl⟩, trivial⟩ rfl rfl (.cons (.of_eq rfl) (.cons (.of_eq rfl) .nil)) (octets_Reader_Number_ok hv _ (hH.at_ 2 rfl))) fun v108 _ τ hv108 H107 hH => ?_
                  refine wpo_mv (a := (.ref id41 5)) rfl rfl rfl (o_c tk false rfl (fun _ => rfl)) ?_
                  refine wpo_mv (a := (.ref id41 7)) rfl rfl rfl (o_c tk false rfl (fun _ => rfl)) ?_
                  obtain ⟨c110, hc111, H109⟩ := lt_ex H107
                  refine wpo_z rfl rfl (h_st tk hH 1 rfl ty3 (by simp) rfl rfl (.of_eq rfl) (b := (eI v108.1)) rfl rfl (Nat.le_of_ble_eq_true rfl) (c_api_Msg c110) (by rw [← hc111]; rfl)) fun τ hH => ?_
                  refine wpo_nil ?_
                  exact ⟨((c67.1, c67.2 + 1), c110, v108.2), inj_inl H109, (wkf_cons (.of_eq rfl) (wkf_cons (.of_eq rfl) (wkf_cons (.of_eq rfl) (wkf_cons (.of_eq rfl) (wkf_cons (.of_eq rfl) (wkf_nil _)))))), hH⟩
                · refine awp_seq ?_
                  refine awp_region rfl ?_
                  refine wpo_lt H106 eB rfl rfl rfl (o_ar tk rfl rfl rfl) fun v113 H112 => ?_
                  refine wpo_mv (a := (eB v113)) rfl rfl rfl (o_as tk rfl (Wk.refl _)) ?_
                  refine wpo_nil ?_
                  refine awp_if H112 rfl (fun H114 => ?_) (fun H114 => ?_)
                  · refine awp_region rfl ?_
                    refine wpo_mv (a := (.ref id39 0)) rfl rfl rfl (o_mv tk rfl (Wk.refl _)) ?_
                    refine wpo_cb H114 (fun x _ => eI x.1) rfl rfl rfl (fun v116 hv => h_call1 hH [(2, (id39, (c_octets_Reader v116.2)))] ⟨⟨_, rfl⟩, trivial⟩ rfl rfl (.cons (.of_eq rfl) (.cons (.of_eq rfl) .nil)) (octets_Reader_Number_ok hv _ (hH.at_ 2 rfl))) fun v116 _ τ hv116 H115 hH => ?_
                    refine wpo_lt H115 eB rfl rfl rfl (o_ar tk rfl rfl rfl) fun v118 H117 => ?_
                    refine wpo_mv (a := (.ref id41 10)) rfl rfl rfl (o_c tk false rfl (fun _ => rfl)) ?_
                    obtain ⟨c120, hc121, H119⟩ := lt_ex H117
                    refine wpo_z rfl rfl (h_st tk hH 1 rfl ty4 (by simp) rfl rfl (.of_eq rfl) (b := (eB v118)) rfl rfl (Nat.le_of_ble_eq_true rfl) (c_api_Msg c120) (by rw [← hc121]; rfl)) fun τ hH => ?_
                    refine wpo_nil ?_
                    exact ⟨((c67.1, c67.2 + 1), c120, v116.2), inj_inl H119, (wkf_cons (.of_eq rfl) (wkf_cons (.of_eq rfl) (wkf_cons (.of_eq rfl) (wkf_cons (.of_eq rfl) (wkf_cons (.of_eq rfl) (wkf_nil _)))))), hH⟩
                  · refine awp_seq ?_
                    refine awp_region rfl ?_
                    refine wpo_lt H114 eB rfl rfl rfl (o_ar tk rfl rfl rfl) fun v123 H122 => ?_
                    refine wpo_mv (a := (eB v123)) rfl rfl rfl (o_as tk rfl (Wk.refl _)) ?_
                    refine wpo_nil ?_
                    refine awp_if H122 rfl (fun H124 => ?_) (fun H124 => ?_)
                    · refine awp_seq ?_
                      refine awp_region rfl ?_
                      refine wpo_mv (a := (.ref id41 10)) rfl rfl rfl (o_c tk false rfl (fun _ => rfl)) ?_
                      refine wpo_rd (a := (eB c68.Found)) rfl rfl rfl (h_ld tk hH 1 rfl rfl rfl) ?_
                      refine wpo_nil ?_
                      refine awp_if H124 rfl (fun H125 => ?_) (fun H125 => ?_)
                      · refine awp_seq ?_
                        refine awp_region rfl ?_
                        refine wpo_mv (a := (.ref id39 0)) rfl rfl rfl (o_mv tk rfl (Wk.refl _)) ?_
                        refine wpo_cb H125 (fun x _ => eI x.1) rfl rfl rfl (fun v127 hv => h_call1 hH [(2, (id39, (c_octets_Reader v127.2)))] ⟨⟨_, rfl⟩, trivial⟩ rfl rfl (.cons (.of_eq rfl) (.cons (.of_eq rfl) .nil)) (octets_Reader_Number_ok hv _ (hH.at_ 2 rfl))) fun v127 _ τ hv127 H126 hH => ?_
                        refine wpo_mv (a := (.ref id39 0)) rfl rfl rfl (o_mv tk rfl (Wk.refl _)) ?_
                        refine wpo_cb H126 (fun x _ => eI x.1) rfl rfl rfl (fun v129 hv => h_call1 hH [(2, (id39, (c_octets_Reader v129.2)))] ⟨⟨_, rfl⟩, trivial⟩ rfl rfl (.cons (.of_eq rfl) (.cons (.of_eq rfl) .nil)) (octets_Reader_Number_ok hv _ (hH.at_ 2 rfl))) fun v129 _ τ hv129 H128 hH => ?_
                        refine wpo_mv (a := (.ref id41 5)) rfl rfl rfl (o_c tk false rfl (fun _ => rfl)) ?_
                        refine wpo_mv (a := (.ref id41 6)) rfl rfl rfl (o_c tk false rfl (fun _ => rfl)) ?_
                        obtain ⟨c131, hc132, H130⟩ := lt_ex H128
                        refine wpo_z rfl rfl (h_st tk hH 1 rfl ty3 (by simp) rfl rfl (.of_eq rfl) (b := (eI v127.1)) rfl rfl (Nat.le_of_ble_eq_true rfl) (c_api_Msg c131) (by rw [← hc132]; rfl)) fun τ hH => ?_
                        refine wpo_mv (a := (.ref id41 5)) rfl rfl rfl (o_c tk false rfl (fun _ => rfl)) ?_
                        refine wpo_mv (a := (.ref id41 8)) rfl rfl rfl (o_c tk false rfl (fun _ => rfl)) ?_
                        obtain ⟨c134, hc135, H133⟩ := lt_ex H130
                        refine wpo_z rfl rfl (h_st tk hH 1 rfl ty3 (by simp) rfl rfl (.of_eq rfl) (b := (eI v129.1)) rfl rfl (Nat.le_of_ble_eq_true rfl) (c_api_Msg c134) (by rw [← hc135]; rfl)) fun τ hH => ?_
                        refine wpo_nil ?_
                        refine awp_region rfl ?_
                        refine wpo_mv (a := (.ref id39 0)) rfl rfl rfl (o_mv tk rfl (Wk.refl _)) ?_
                        refine wpo_cb H133 (fun x _ => (eL 1 (@eU .u8 8)) x.1) rfl rfl rfl (fun v137 hv => h_call1 hH [(2, (id39, (c_octets_Reader v137.2)))] ⟨⟨_, rfl⟩, trivial⟩ rfl rfl (.cons (.of_eq rfl) (.cons (.of_eq rfl) .nil)) (octets_Reader_Bytes_ok hv _ (hH.at_ 2 rfl))) fun v137 _ τ hv137 H136 hH => ?_
                        refine wpo_mv (a := (.ref id41 5)) rfl rfl rfl (o_c tk false rfl (fun _ => rfl)) ?_
                        refine wpo_mv (a := (.ref id41 9)) rfl rfl rfl (o_c tk false rfl (fun _ => rfl)) ?_
                        obtain ⟨c139, hc140, H138⟩ := lt_ex H136
                        refine wpo_z rfl rfl (h_st tk hH 1 rfl ty22 (by simp) rfl rfl (.of_eq rfl) (b := ((eL 1 (@eU .u8 8)) v137.1)) rfl rfl (Nat.le_of_ble_eq_true rfl) (c_api_Msg c139) (by rw [← hc140]; rfl)) fun τ hH => ?_
                        refine wpo_nil ?_
                        exact ⟨((c67.1, c67.2 + 1), c139, v137.2), inj_inl H138, (wkf_cons (.of_eq rfl) (wkf_cons (.of_eq rfl) (wkf_cons (.of_eq rfl) (wkf_cons (.of_eq rfl) (wkf_cons (.of_eq rfl) (wkf_nil _)))))), hH⟩
                      · refine awp_skip ?_
                        exact ⟨((c67.1, c67.2 + 1), c68, c69), inj_inl H125, (wkf_cons (.of_eq rfl) (wkf_cons (.of_eq rfl) (wkf_cons (.of_eq rfl) (wkf_cons (.of_eq rfl) (wkf_cons (.of_eq rfl) (wkf_nil _)))))), hH⟩
                    · refine awp_skip ?_
                      exact ⟨((c67.1, c67.2 + 1), c68, c69), inj_inl H124, (wkf_cons (.of_eq rfl) (wkf_cons (.of_eq rfl) (wkf_cons (.of_eq rfl) (wkf_cons (.of_eq rfl) (wkf_cons (.of_eq rfl) (wkf_nil _)))))), hH⟩
end Go.Proofs.YthkfilchighbhaaDoor
namespace Go.Proofs.YthkfilchighbhaaDoor
open Go Go.Va
set_option linter.unusedVariables false
set_option linter.unusedSimpArgs false
set_option maxRecDepth 20000
theorem butterylaw06_Light_ok {x0 : List api_Entry} {r : Int} (H : butterylaw06_Light x0 = some r) (σ : St)  : ACall Tryd.prog 20 [((eL 5 e_api_Entry) x0)] σ (fun a τ => a = eI r ∧ τ = σ) := by
  unfold butterylaw06_Light at H
  refine ACall.pure (acall_start tk Tryd.func20 (by decide) rfl (Nat.le_of_ble_eq_true rfl) ?_)
  have hH := Holds.init σ
  refine awp_seq ?_
  refine awp_region rfl ?_
  refine wpo_mv (a := (eI (0 : Int))) rfl rfl rfl (o_as tk rfl (Wk.refl _)) ?_
  refine wpo_nil ?_
  refine awp_seq ?_
  refine awp_seq ?_
  refine awp_region rfl ?_
  refine wpo_mv (a := ((eL 5 e_api_Entry) x0)) rfl rfl rfl (o_mv tk rfl (Wk.refl _)) ?_
  refine wpo_lt H eI rfl rfl rfl (o_len tk td52 rfl) fun v2 H1 => ?_
  refine wpo_lt H1 eB rfl rfl rfl (o_ar tk rfl rfl rfl) fun v4 H3 => ?_
  refine wpo_nil ?_
  refine awp_if H3 rfl (fun H5 => ?_) (fun H5 => ?_)
  · refine awp_seq ?_
    refine awp_region rfl ?_
    refine wpo_mv (a := (eI (1 : Int))) rfl rfl rfl (o_as tk rfl (Wk.refl _)) ?_
    refine wpo_nil ?_
    refine awp_ret ?_
    obtain rfl := Option.some.inj H5
    exact ⟨_, (eI (1 : Int)), rfl, (.of_eq rfl), .of_eq ((enc_i64 td3 sz3).cut _ _ _), hH.noT⟩
  · refine awp_skip ?_
    refine awp_seq ?_
    refine awp_region rfl ?_
    refine wpo_mv (a := (eI (0 : Int))) rfl rfl rfl (o_as tk rfl (Wk.refl _)) ?_
    refine wpo_nil ?_
    refine awp_seq ?_
    refine awp_seq ?_
    refine awp_region rfl ?_
    refine wpo_mv (a := (eI (0 : Int))) rfl rfl rfl (o_as tk rfl (Wk.refl _)) ?_
    refine wpo_nil ?_
    refine awp_block ?_
    obtain ⟨o8, hs9, hj10⟩ := Option.bind_eq_some_iff.1 H5
    refine awp_cutx 0 (fun fr τ => ∃ s15 : Unit, o8 = .inl s15 ∧ WkF fr (fm []) ∧ Holds σ [] [] τ) ?_ ?_
    · rintro fr τ ⟨s15, rfl, hfr, hH⟩
      have H54 := hj10
      simp only [Sum.elim_inl] at H54
      refine AWP.fm [] hfr ?_
      refine awp_seq ?_
      refine awp_region rfl ?_
      refine wpo_mv (a := (eI (0 : Int))) rfl rfl rfl (o_as tk rfl (Wk.refl _)) ?_
      refine wpo_nil ?_
      refine awp_ret ?_
      obtain rfl := Option.some.inj H54
      exact ⟨_, (eI (0 : Int)), rfl, (.of_eq rfl), .of_eq ((enc_i64 td3 sz3).cut _ _ _), hH.noT⟩
    · refine awp_loopO (body := fun s => butterylaw06_Light_b0 x0 s.1 s.2) hs9 (fun (s : Int × Int) fr τ => WkF fr (fm [(0, ((eL 5 e_api_Entry) x0)), (3, (eI s.1)), (4, (eI s.2))]) ∧ Holds σ [] [] τ) ⟨(wkf_cons (.of_eq rfl) (wkf_cons (.of_eq rfl) (wkf_cons (.of_eq rfl) (wkf_nil _)))), hH⟩ ?_
      rintro ⟨c6, c7⟩ fr τ y11 ⟨hfr, hH⟩ hb13 hy14
      have H16 : butterylaw06_Light_b0 x0 c6 c7 = some y11 := hb13
      unfold butterylaw06_Light_b0 at H16
      refine AWP.fm [(0, ((eL 5 e_api_Entry) x0)), (3, (eI c6)), (4, (eI c7))] hfr ?_
      have hH : Holds σ [] [] τ := hH
      refine awp_seq ?_
      refine awp_seq ?_
      refine awp_region rfl ?_
      refine wpo_mv (a := (eI c7)) rfl rfl rfl (o_mv tk rfl (Wk.refl _)) ?_
      refine wpo_mv (a := ((eL 5 e_api_Entry) x0)) rfl rfl rfl (o_mv tk rfl (Wk.refl _)) ?_
      refine wpo_lt H16 eI rfl rfl rfl (o_len tk td52 rfl) fun v18 H17 => ?_
      refine wpo_lt H17 eB rfl rfl rfl (o_ar tk rfl rfl rfl) fun v20 H19 => ?_
      refine wpo_nil ?_
      refine awp_if H19 rfl (fun H21 => ?_) (fun H21 => ?_)
      · refine awp_skip ?_
        refine awp_seq ?_
        refine awp_block ?_
        refine awp_seq ?_
        refine awp_seq ?_
        obtain ⟨s22, hs24, hj25⟩ := Option.bind_eq_some_iff.1 H21
        refine awp_cutn (fun fr τ => WkF fr (fm [(0, ((eL 5 e_api_Entry) x0)), (3, (eI c6)), (4, (eI c7)), (29, (eB s22))]) ∧ Holds σ [] [] τ) ?_ ?_
        · rintro fr τ ⟨hfr, hH⟩
          have H39 := hj25
          refine AWP.fm [(0, ((eL 5 e_api_Entry) x0)), (3, (eI c6)), (4, (eI c7)), (29, (eB s22))] hfr ?_
          refine awp_if H39 rfl (fun H40 => ?_) (fun H40 => ?_)
          · refine awp_seq ?_
            refine awp_region rfl ?_
            refine wpo_mv (a := (eI (1 : Int))) rfl rfl rfl (o_as tk rfl (Wk.refl _)) ?_
            refine wpo_nil ?_
            refine awp_ret ?_
            have hz := hy14 _ (inj_inr H40)
            refine ⟨⟨_, inj_inr H40⟩, ?_⟩
            rw [← hz] at hj10
            have H41 := (show some _ = some _ from hj10)
            obtain rfl := Option.some.inj H41
            exact ⟨_, (eI (1 : Int)), rfl, (.of_eq rfl), .of_eq ((enc_i64 td3 sz3).cut _ _ _), hH.noT⟩
          · refine awp_skip ?_
            refine awp_seq ?_
            refine awp_region rfl ?_
            refine wpo_mv (a := (eI c6)) rfl rfl rfl (o_mv tk rfl (Wk.refl _)) ?_
            refine wpo_mv (a := ((eL 5 e_api_Entry) x0)) rfl rfl rfl (o_mv tk rfl (Wk.refl _)) ?_
            refine wpo_mv (a := (eI c7)) rfl rfl rfl (o_mv tk rfl (Wk.refl _)) ?_
            refine wpo_bd H40 (fun y => .fptr (e_api_Entry y).cells 0) rfl rfl rfl (fun v43 hv => o_ixa tk hv td52 enc24 rfl rfl) fun v43 hv43 H42 => ?_
            refine wpo_mv (a := (.fptr (c_api_Entry v43) 4)) rfl rfl rfl (o_c tk false rfl (fun _ => rfl)) ?_
            refine wpo_mv (a := ((eL 1 (@eU .u8 8)) v43.Value)) rfl rfl rfl (o_ld tk rfl rfl) ?_
            refine wpo_lt H42 eI rfl rfl rfl (o_len tk td22 rfl) fun v45 H44 => ?_
            refine wpo_lt H44 eI rfl rfl rfl (o_ar tk rfl rfl rfl) fun v47 H46 => ?_
            refine wpo_mv (a := (eI v47)) rfl rfl rfl (o_as tk rfl (Wk.refl _)) ?_
            refine wpo_nil ?_
            refine awp_seq ?_
            refine awp_region rfl ?_
            refine wpo_mv (a := (eI v47)) rfl rfl rfl (o_mv tk rfl (Wk.refl _)) ?_
            refine wpo_lt H46 eB rfl rfl rfl (o_ar tk rfl rfl rfl) fun v49 H48 => ?_
            refine wpo_nil ?_
            refine awp_if H48 rfl (fun H50 => ?_) (fun H50 => ?_)
            · refine awp_seq ?_
              refine awp_region rfl ?_
              refine wpo_mv (a := (eI (1 : Int))) rfl rfl rfl (o_as tk rfl (Wk.refl _)) ?_
              refine wpo_nil ?_
              refine awp_ret ?_
              have hz := hy14 _ (inj_inr H50)
              refine ⟨⟨_, inj_inr H50⟩, ?_⟩
              rw [← hz] at hj10
              have H51 := (show some _ = some _ from hj10)
              obtain rfl := Option.some.inj H51
              exact ⟨_, (eI (1 : Int)), rfl, (.of_eq rfl), .of_eq ((enc_i64 td3 sz3).cut _ _ _), hH.noT⟩
            · refine awp_skip ?_
              refine awp_region rfl ?_
              refine wpo_mv (a := (eI c7)) rfl rfl rfl (o_mv tk rfl (Wk.refl _)) ?_
              refine wpo_lt H50 eI rfl rfl rfl (o_ar tk rfl rfl rfl) fun v53 H52 => ?_
              refine wpo_mv (a := (eI v53)) rfl rfl rfl (o_as tk rfl (Wk.refl _)) ?_
              refine wpo_nil ?_
              exact ⟨(v47, v53), inj_inl H52, (wkf_cons (.of_eq rfl) (wkf_cons (.of_eq rfl) (wkf_cons (.of_eq rfl) (wkf_nil _)))), hH⟩
        · refine awp_region rfl ?_
          refine wpo_mv (a := ((eL 5 e_api_Entry) x0)) rfl rfl rfl (o_mv tk rfl (Wk.refl _)) ?_
          refine wpo_mv (a := (eI c7)) rfl rfl rfl (o_mv tk rfl (Wk.refl _)) ?_
          refine wpo_bd hs24 (fun y => .fptr (e_api_Entry y).cells 0) rfl rfl rfl (fun v27 hv => o_ixa tk hv td52 enc24 rfl rfl) fun v27 hv27 H26 => ?_
          refine wpo_mv (a := (.fptr (c_api_Entry v27) 0)) rfl rfl rfl (o_c tk false rfl (fun _ => rfl)) ?_
          refine wpo_mv (a := (eS v27.Key)) rfl rfl rfl (o_ld tk rfl rfl) ?_
          refine wpo_lt H26 eI rfl rfl rfl (o_len_s tk td9 rfl) fun v29 H28 => ?_
          refine wpo_lt H28 eB rfl rfl rfl (o_ar tk rfl rfl rfl) fun v31 H30 => ?_
          refine wpo_mv (a := (eB v31)) rfl rfl rfl (o_mv tk rfl (Wk.refl _)) ?_
          refine if_split H30 (fun hb H32 => ?_) (fun hb H32 => ?_)
          · subst hb
            refine wpo_skip rfl rfl rfl ?_
            refine wpo_skip rfl rfl rfl ?_
            refine wpo_skip rfl rfl rfl ?_
            refine wpo_skip rfl rfl rfl ?_
            refine wpo_skip rfl rfl rfl ?_
            refine wpo_skip rfl rfl rfl ?_
            refine wpo_skip rfl rfl rfl ?_
            refine wpo_mv (a := (eB true)) rfl rfl rfl (o_pick_t tk rfl rfl (Wk.refl _)) ?_
            refine wpo_nil ?_
            have e := Option.some.inj H32
            subst e
            exact ⟨(wkf_cons (.of_eq rfl) (wkf_cons (.of_eq rfl) (wkf_cons (.of_eq rfl) (wkf_cons (.of_eq rfl) (wkf_nil _))))), hH⟩
          · subst hb
            refine wpo_mv (a := ((eL 5 e_api_Entry) x0)) rfl rfl rfl (o_mv tk rfl (Wk.refl _)) ?_
            refine wpo_mv (a := (eI c7)) rfl rfl rfl (o_mv tk rfl (Wk.refl _)) ?_
            refine wpo_bd H32 (fun y => .fptr (e_api_Entry y).cells 0) rfl rfl rfl (fun v34 hv => o_ixa tk hv td52 enc24 rfl rfl) fun v34 hv34 H33 => ?_
            refine wpo_mv (a := (.fptr (c_api_Entry v34) 4)) rfl rfl rfl (o_c tk false rfl (fun _ => rfl)) ?_
            refine wpo_mv (a := ((eL 1 (@eU .u8 8)) v34.Value)) rfl rfl rfl (o_ld tk rfl rfl) ?_
            refine wpo_lt H33 eI rfl rfl rfl (o_len tk td22 rfl) fun v36 H35 => ?_
            refine wpo_lt H35 eB rfl rfl rfl (o_ar tk rfl rfl rfl) fun v38 H37 => ?_
            refine wpo_mv (a := (eB v38)) rfl rfl rfl (o_pick_f tk rfl rfl (Wk.refl _)) ?_
            refine wpo_nil ?_
            have e := Option.some.inj H37
            subst e
            exact ⟨(wkf_cons (.of_eq rfl) (wkf_cons (.of_eq rfl) (wkf_cons (.of_eq rfl) (wkf_cons (.of_eq rfl) (wkf_nil _))))), hH⟩
      · refine awp_exit ?_
        have hz := hy14 _ (inj_inr H21)
        exact ⟨⟨_, inj_inr H21⟩, (), hz.symm, (wkf_nil _), hH⟩
end Go.Proofs.YthkfilchighbhaaDoor
namespace Go.Proofs.YthkfilchighbhaaDoor
open Go Go.Va
set_option linter.unusedVariables false
set_option linter.unusedSimpArgs false
set_option maxRecDepth 20000
theorem butterylaw23_light_ok {x0 : api_Msg} {r : Bool} (H : butterylaw23_light x0 = some r) (σ : St)  : ACall Tryd.prog 7 [(e_api_Msg x0)] σ (fun a τ => a = eB r ∧ τ = σ) := by
  unfold butterylaw23_light at H
  refine ACall.pure (acall_start tk Tryd.func7 (by decide) rfl (Nat.le_of_ble_eq_true rfl) ?_)
  have hH := Holds.init σ
  refine awp_seq ?_
  refine awp_region rfl ?_
  refine wpo_mv (a := (.fptr (c_api_Msg x0) 0)) rfl rfl rfl (o_boxf tk rfl (.of_eq rfl) (b := (e_api_Msg x0)) (enc26.flat _)) ?_
  refine wpo_mv (a := (eB false)) rfl rfl rfl (o_as tk rfl (Wk.refl _)) ?_
  refine wpo_nil ?_
  refine awp_seq ?_
  refine awp_region rfl ?_
  refine wpo_mv (a := (.fptr (c_api_Msg x0) 5)) rfl rfl rfl (o_c tk false rfl (fun _ => rfl)) ?_
  refine wpo_mv (a := (e_api_Entry x0.X)) rfl rfl rfl (o_ld tk rfl rfl) ?_
  refine wpo_lt H (eF 5 e_api_Entry) rfl rfl rfl (o_c tk false rfl (fun _ => rfl)) fun v2 H1 => ?_
  refine wpo_bd H1 eI rfl rfl rfl (fun v4 hv => OpP.of_call rfl rfl (.cons wk_no .nil) (butterylaw06_Light_ok hv)) fun v4 hv4 H3 => ?_
  refine wpo_lt H3 eB rfl rfl rfl (o_ar tk rfl rfl rfl) fun v6 H5 => ?_
  refine wpo_mv (a := (eB v6)) rfl rfl rfl (o_as tk rfl (Wk.refl _)) ?_
  refine wpo_nil ?_
  refine awp_ret ?_
  obtain rfl := Option.some.inj H5
  exact ⟨_, (eB v6), rfl, (.of_eq rfl), .of_eq ((enc_b td4 sz4).cut _ _ _), hH.noT⟩
end Go.Proofs.YthkfilchighbhaaDoor
