/- Proves SlabDoes: whatever is taken and given back, each call answers what the chapter says; for every input. (part 5 of 6) -/
import Derived.Test.YthjabhcbkbchjaaDoorKSlabDoes4
import Derived.ChangeSame
import Derived.ChangeVars
import Derived.JoinedOf
import Derived.LaidHandle
import Derived.LaidLaws
import Derived.RowKit
import Derived.RowKitTokens
import Derived.Stop.Joined
import Derived.Test.YthjabhcbkbchjaaDoorRows
namespace Go.Proofs.YthjabhcbkbchjaaDoor
open Go Go.Va
set_option linter.unusedVariables false
set_option linter.unusedSimpArgs false
set_option maxRecDepth 20000
theorem butterylaw08_SlabDoes_ok {x0 : Int} {x1 : List butterylaw08_Op} {x2 : Int} {r : Bool} (H : butterylaw08_SlabDoes x0 x1 x2 = some r) (σ : St)  (hg : σ.gl = gls) : ACall Tryd.prog 9 [(eI x0), ((eL 3 e_butterylaw08_Op) x1), (eI x2)] σ (fun a τ => a = eB r ∧ τ = σ) := by
  unfold butterylaw08_SlabDoes at H
  refine ACall.pure (acall_start tk Tryd.func9 (by decide) rfl (Nat.le_of_ble_eq_true rfl) ?_)
  have hH := Holds.init σ
  refine awp_seq ?_
  refine awp_region rfl ?_
  refine wpo_mv (a := (eB false)) rfl rfl rfl (o_as tk rfl (Wk.refl _)) ?_
  refine wpo_nil ?_
  refine awp_seq ?_
  refine awp_seq ?_
  refine awp_region rfl ?_
  refine wpo_mv (a := ((eL 3 e_butterylaw08_Op) x1)) rfl rfl rfl (o_mv tk rfl (Wk.refl _)) ?_
  refine wpo_lt H eI rfl rfl rfl (o_len tk td26 rfl) fun v2 H1 => ?_
  refine wpo_lt H1 eB rfl rfl rfl (o_ar tk rfl rfl rfl) fun v4 H3 => ?_
  refine wpo_nil ?_
  refine awp_if H3 rfl (fun H5 => ?_) (fun H5 => ?_)
  · refine awp_seq ?_
    refine awp_region rfl ?_
    refine wpo_bdr H5 eB rfl rfl rfl (fun v7 hv => h_callr rfl rfl .nil (butterylaw08_works_ok hv _ (hH.gl.trans hg))) fun v7 hv7 H6 => ?_
    refine wpo_mv (a := (eB v7)) rfl rfl rfl (o_as tk rfl (Wk.refl _)) ?_
    refine wpo_nil ?_
    refine awp_ret ?_
    obtain rfl := Option.some.inj H6
    exact ⟨_, (eB v7), rfl, (.of_eq rfl), .of_eq ((enc_b td4 sz4).cut _ _ _), hH.noT⟩
  · refine awp_skip ?_
    refine awp_seq ?_
    refine awp_region rfl ?_
    refine wpo_mv (a := (eI x0)) rfl rfl rfl (o_mv tk rfl (Wk.refl _)) ?_
    obtain ⟨v9, hvv9, H8⟩ := Option.bind_eq_some_iff.1 H5
    rcases hz13 : v9.1 with _ | c10
    · rw [hz13, Option.elim_none] at H8
      refine wpo_a (av := fun _ => .tup [.nilp, (eErr v9.2)]) rfl rfl rfl (h_callno0 hH hz13 rfl rfl (.cons (.of_eq rfl) .nil) (slab_New_ok hvv9 _)) fun _ τ hH => ?_
      refine wpo_mv (a := (.tup [.nilp, (eErr v9.2)])) rfl rfl rfl (o_mv tk rfl (Wk.refl _)) ?_
      refine wpo_mv (a := .nilp) rfl rfl rfl (o_ext tk rfl rfl) ?_
      refine wpo_mv (a := (eErr v9.2)) rfl rfl rfl (o_ext tk rfl rfl) ?_
      refine wpo_mv (a := .nilp) rfl rfl rfl (o_as tk rfl (Wk.refl _)) ?_
      refine wpo_mv (a := (eErr v9.2)) rfl rfl rfl (o_as tk rfl (Wk.refl _)) ?_
      refine wpo_nil ?_
      refine awp_seq ?_
      refine awp_region rfl ?_
      refine wpo_mv (a := (eI x0)) rfl rfl rfl (o_mv tk rfl (Wk.refl _)) ?_
      refine wpo_bd H8 (fun r => .tup [e_butteryref08_Budget r.1, eI r.2]) rfl rfl rfl (fun v15 hv => OpP.of_call rfl rfl (.cons (.of_eq rfl) .nil) (butteryref08_New_ok hv)) fun v15 hv15 H14 => ?_
      refine wpo_mv (a := (.tup [(e_butteryref08_Budget v15.1), (eI v15.2)])) rfl rfl rfl (o_mv tk rfl (Wk.refl _)) ?_
      refine wpo_mv (a := (e_butteryref08_Budget v15.1)) rfl rfl rfl (o_ext tk rfl rfl) ?_
      refine wpo_mv (a := (eI v15.2)) rfl rfl rfl (o_ext tk rfl rfl) ?_
      refine wpo_a (av := fun id => .ref id 0) rfl rfl rfl (h_alloc tk hH ty61 [(eI z_butteryref08_Budget.Limit), AV.nils] rfl) fun id16 τ ⟨hH, n17⟩ => ?_
      refine wpo_z rfl rfl (h_st tk hH 0 rfl ty61 (by simp) rfl rfl (.of_eq rfl) (b := (e_butteryref08_Budget v15.1)) (enc61.flat _) rfl (Nat.le_of_ble_eq_true rfl) (c_butteryref08_Budget (v15.1 : butteryref08_Budget)) rfl) fun τ hH => ?_
      refine wpo_mv (a := (eI v15.2)) rfl rfl rfl (o_as tk rfl (Wk.refl _)) ?_
      refine wpo_nil ?_
      refine awp_seq ?_
      refine awp_seq ?_
      obtain ⟨s19, hs21, hj22⟩ := Option.bind_eq_some_iff.1 H14
      refine awp_cutn (fun fr τ => WkF fr (fm [(1, ((eL 3 e_butterylaw08_Op) x1)), (2, (eI x2)), (7, .nilp), (9, (.ref id16 0)), (10, (eI v15.2)), (39, (eB s19))]) ∧ Holds σ [(id16, (c_butteryref08_Budget (v15.1 : butteryref08_Budget)))] [] τ) ?_ ?_
      · rintro fr τ ⟨hfr, hH⟩
        have H32 := hj22
        refine AWP.fm [(1, ((eL 3 e_butterylaw08_Op) x1)), (2, (eI x2)), (7, .nilp), (9, (.ref id16 0)), (10, (eI v15.2)), (39, (eB s19))] hfr ?_
        refine awp_if H32 rfl (fun H33 => ?_) (fun H33 => ?_)
        · refine awp_seq ?_
          refine awp_region rfl ?_
          refine wpo_mv (a := (eB false)) rfl rfl rfl (o_as tk rfl (Wk.refl _)) ?_
          refine wpo_nil ?_
          refine awp_ret ?_
          obtain rfl := Option.some.inj H33
          exact ⟨_, (eB false), rfl, (.of_eq rfl), .of_eq ((enc_b td4 sz4).cut _ _ _), (hH.noT.drop n17)⟩
        · refine awp_skip ?_
          refine awp_seq ?_
          refine awp_seq ?_
          refine awp_region rfl ?_
          refine wpo_mv (a := (eI (0 : Int))) rfl rfl rfl (o_as tk rfl (Wk.refl _)) ?_
          refine wpo_nil ?_
          refine awp_block ?_
          obtain ⟨o35, hs36, hj37⟩ := Option.bind_eq_some_iff.1 H33
          refine awp_cutx 0 (fun fr τ => ∃ s42 : Unit, o35 = .inl s42 ∧ WkF fr (fm []) ∧ Holds σ [(id16, (c_butteryref08_Budget (v15.1 : butteryref08_Budget)))] [] τ) ?_ ?_
          · rintro fr τ ⟨s42, rfl, hfr, hH⟩
            have H150 := hj37
            simp only [Sum.elim_inl] at H150
            refine AWP.fm [] hfr ?_
            refine awp_seq ?_
            refine awp_region rfl ?_
            refine wpo_bdr H150 eB rfl rfl rfl (fun v152 hv => h_callr rfl rfl .nil (butterylaw08_works_ok hv _ (hH.gl.trans hg))) fun v152 hv152 H151 => ?_
            refine wpo_mv (a := (eB v152)) rfl rfl rfl (o_as tk rfl (Wk.refl _)) ?_
            refine wpo_nil ?_
            refine awp_ret ?_
            obtain rfl := Option.some.inj H151
            exact ⟨_, (eB v152), rfl, (.of_eq rfl), .of_eq ((enc_b td4 sz4).cut _ _ _), (hH.noT.drop n17)⟩
          · refine awp_loopO (body := fun s => butterylaw08_SlabDoes_b0 x1 x2 v15 s) hs36 (fun (s : Int) fr τ => WkF fr (fm [(1, ((eL 3 e_butterylaw08_Op) x1)), (2, (eI x2)), (7, .nilp), (9, (.ref id16 0)), (10, (eI v15.2)), (11, (eI s))]) ∧ Holds σ [(id16, (c_butteryref08_Budget (v15.1 : butteryref08_Budget)))] [] τ) ⟨(wkf_cons (.of_eq rfl) (wkf_cons (.of_eq rfl) (wkf_cons (.of_eq rfl) (wkf_cons (.of_eq rfl) (wkf_cons (.of_eq rfl) (wkf_cons (.of_eq rfl) (wkf_nil _))))))), hH⟩ ?_
            rintro c34 fr τ y38 ⟨hfr, hH⟩ hb40 hy41
            have H43 : butterylaw08_SlabDoes_b0 x1 x2 v15 c34 = some y38 := hb40
            unfold butterylaw08_SlabDoes_b0 at H43
            refine AWP.fm [(1, ((eL 3 e_butterylaw08_Op) x1)), (2, (eI x2)), (7, .nilp), (9, (.ref id16 0)), (10, (eI v15.2)), (11, (eI c34))] hfr ?_
            have hH : Holds σ [(id16, (c_butteryref08_Budget (v15.1 : butteryref08_Budget)))] [] τ := hH
            refine awp_seq ?_
            refine awp_seq ?_
            obtain ⟨s44, hs46, hj47⟩ := Option.bind_eq_some_iff.1 H43
            refine awp_cutn (fun fr τ => WkF fr (fm [(1, ((eL 3 e_butterylaw08_Op) x1)), (2, (eI x2)), (7, .nilp), (9, (.ref id16 0)), (10, (eI v15.2)), (11, (eI c34)), (47, (eB s44))]) ∧ Holds σ [(id16, (c_butteryref08_Budget (v15.1 : butteryref08_Budget)))] [] τ) ?_ ?_
            · rintro fr τ ⟨hfr, hH⟩
              have H55 := hj47
              refine AWP.fm [(1, ((eL 3 e_butterylaw08_Op) x1)), (2, (eI x2)), (7, .nilp), (9, (.ref id16 0)), (10, (eI v15.2)), (11, (eI c34)), (47, (eB s44))] hfr ?_
              refine awp_if H55 rfl (fun H56 => ?_) (fun H56 => ?_)
              · refine awp_skip ?_
                refine awp_seq ?_
                refine awp_block ?_
                refine awp_seq ?_
                refine awp_region rfl ?_
                refine wpo_mv (a := ((eL 3 e_butterylaw08_Op) x1)) rfl rfl rfl (o_mv tk rfl (Wk.refl _)) ?_
                refine wpo_mv (a := (eI c34)) rfl rfl rfl (o_mv tk rfl (Wk.refl _)) ?_
                refine wpo_bd H56 (fun y => .fptr (e_butterylaw08_Op y).cells 0) rfl rfl rfl (fun v58 hv => o_ixa tk hv td26 enc33 rfl rfl) fun v58 hv58 H57 => ?_
                refine wpo_mv (a := (e_butterylaw08_Op v58)) rfl rfl rfl (o_ld_e tk enc33 rfl rfl) ?_
                refine wpo_a (av := fun id => .ref id 0) rfl rfl rfl (h_alloc tk hH ty33 (c_butterylaw08_Op z_butterylaw08_Op) rfl) fun id59 τ ⟨hH, n60⟩ => ?_
                obtain ⟨c62, hc63, H61⟩ := lt_ex H57
                refine wpo_z rfl rfl (h_st tk hH 0 rfl ty33 (by simp) rfl rfl (.of_eq rfl) (b := (e_butterylaw08_Op v58)) (enc33.flat _) rfl (Nat.le_of_ble_eq_true rfl) (c_butterylaw08_Op c62) (by rw [← hc63]; rfl)) fun τ hH => ?_
                refine wpo_nil ?_
                refine awp_seq ?_
                refine awp_region rfl ?_
                refine wpo_mv (a := (eI (0 : Int))) rfl rfl rfl (o_as tk rfl (Wk.refl _)) ?_
                refine wpo_nil ?_
                refine awp_seq ?_
                refine awp_seq ?_
                refine awp_region rfl ?_
                refine wpo_mv (a := (.ref id59 0)) rfl rfl rfl (o_c tk false rfl (fun _ => rfl)) ?_
                refine wpo_rd (a := (eI c62.Kind)) rfl rfl rfl (h_ld tk hH 0 rfl rfl rfl) ?_
                refine wpo_nil ?_
                refine awp_block ?_
                refine awp_seq ?_
                refine awp_region rfl ?_
                refine wpo_lt H61 eB rfl rfl rfl (o_ar tk rfl rfl rfl) fun v65 H64 => ?_
                refine wpo_mv (a := (eB v65)) rfl rfl rfl (o_as tk rfl (Wk.refl _)) ?_
                refine wpo_nil ?_
                refine awp_if H64 rfl (fun H66 => ?_) (fun H66 => ?_)
                · refine awp_seq ?_
                  refine awp_region rfl ?_
                  refine wpo_rd (a := (e_butteryref08_Budget (v15.1 : butteryref08_Budget))) rfl rfl rfl (h_ld tk hH 1 rfl rfl rfl) ?_
                  refine wpo_mv (a := (.ref id59 1)) rfl rfl rfl (o_c tk false rfl (fun _ => rfl)) ?_
                  refine wpo_rd (a := (eI c62.Class)) rfl rfl rfl (h_ld tk hH 0 rfl rfl rfl) ?_
                  refine wpo_bd H66 (fun r => .tup [e_butteryref08_Budget r.1, eI r.2]) rfl rfl rfl (fun v68 hv => OpP.of_call rfl rfl (.cons (.of_eq rfl) (.cons (.of_eq rfl) .nil)) (butteryref08_Take_ok hv)) fun v68 hv68 H67 => ?_
                  refine wpo_mv (a := (.tup [(e_butteryref08_Budget v68.1), (eI v68.2)])) rfl rfl rfl (o_mv tk rfl (Wk.refl _)) ?_
                  refine wpo_mv (a := (e_butteryref08_Budget v68.1)) rfl rfl rfl (o_ext tk rfl rfl) ?_
                  refine wpo_mv (a := (eI v68.2)) rfl rfl rfl (o_ext tk rfl rfl) ?_
                  obtain ⟨c70, hc71, H69⟩ := lt_ex H67
                  refine wpo_z rfl rfl (h_st tk hH 1 rfl ty61 (by simp) rfl rfl (.of_eq rfl) (b := (e_butteryref08_Budget v68.1)) (enc61.flat _) rfl (Nat.le_of_ble_eq_true rfl) (c_butteryref08_Budget c70) (by rw [← hc71]; rfl)) fun τ hH => ?_
                  refine wpo_mv (a := (eI v68.2)) rfl rfl rfl (o_as tk rfl (Wk.refl _)) ?_
                  refine wpo_nil ?_
                  refine awp_seq ?_
                  refine awp_region rfl ?_
                  refine wpo_mv (a := .nilp) rfl rfl rfl (o_mv tk rfl (Wk.refl _)) ?_
                  refine wpo_mv (a := (.ref id59 1)) rfl rfl rfl (o_c tk false rfl (fun _ => rfl)) ?_
                  refine wpo_rd (a := (eI c62.Class)) rfl rfl rfl (h_ld tk hH 0 rfl rfl rfl) ?_
                  cases H69
                · refine awp_seq ?_
                  refine awp_region rfl ?_
                  refine wpo_lt H66 eB rfl rfl rfl (o_ar tk rfl rfl rfl) fun v73 H72 => ?_
                  refine wpo_mv (a := (eB v73)) rfl rfl rfl (o_as tk rfl (Wk.refl _)) ?_
                  refine wpo_nil ?_
                  refine awp_if H72 rfl (fun H74 => ?_) (fun H74 => ?_)
                  · refine awp_seq ?_
                    refine awp_region rfl ?_
                    refine wpo_rd (a := (e_butteryref08_Budget (v15.1 : butteryref08_Budget))) rfl rfl rfl (h_ld tk hH 1 rfl rfl rfl) ?_
                    refine wpo_mv (a := (.ref id59 1)) rfl rfl rfl (o_c tk false rfl (fun _ => rfl)) ?_
                    refine wpo_rd (a := (eI c62.Class)) rfl rfl rfl (h_ld tk hH 0 rfl rfl rfl) ?_
                    refine wpo_bd H74 (fun r => .tup [e_butteryref08_Budget r.1, eI r.2]) rfl rfl rfl (fun v76 hv => OpP.of_call rfl rfl (.cons (.of_eq rfl) (.cons (.of_eq rfl) .nil)) (butteryref08_Give_ok hv)) fun v76 hv76 H75 => ?_
                    refine wpo_mv (a := (.tup [(e_butteryref08_Budget v76.1), (eI v76.2)])) rfl rfl rfl (o_mv tk rfl (Wk.refl _)) ?_
                    refine wpo_mv (a := (e_butteryref08_Budget v76.1)) rfl rfl rfl (o_ext tk rfl rfl) ?_
                    refine wpo_mv (a := (eI v76.2)) rfl rfl rfl (o_ext tk rfl rfl) ?_
                    obtain ⟨c78, hc79, H77⟩ := lt_ex H75
                    refine wpo_z rfl rfl (h_st tk hH 1 rfl ty61 (by simp) rfl rfl (.of_eq rfl) (b := (e_butteryref08_Budget v76.1)) (enc61.flat _) rfl (Nat.le_of_ble_eq_true rfl) (c_butteryref08_Budget c78) (by rw [← hc79]; rfl)) fun τ hH => ?_
                    refine wpo_mv (a := (eI v76.2)) rfl rfl rfl (o_as tk rfl (Wk.refl _)) ?_
                    refine wpo_nil ?_
                    refine awp_seq ?_
                    refine awp_region rfl ?_
                    refine wpo_mv (a := .nilp) rfl rfl rfl (o_mv tk rfl (Wk.refl _)) ?_
                    refine wpo_mv (a := (.ref id59 1)) rfl rfl rfl (o_c tk false rfl (fun _ => rfl)) ?_
                    refine wpo_rd (a := (eI c62.Class)) rfl rfl rfl (h_ld tk hH 0 rfl rfl rfl) ?_
                    cases H77
                  · refine awp_seq ?_
                    refine awp_seq ?_
                    refine awp_region rfl ?_
                    refine wpo_mv (a := (.ref id59 2)) rfl rfl rfl (o_c tk false rfl (fun _ => rfl)) ?_
                    refine wpo_rd (a := (eI c62.N)) rfl rfl rfl (h_ld tk hH 0 rfl rfl rfl) ?_
                    refine wpo_lt H74 eB rfl rfl rfl (o_ar tk rfl rfl rfl) fun v81 H80 => ?_
                    refine wpo_nil ?_
                    refine awp_if H80 rfl (fun H82 => ?_) (fun H82 => ?_)
                    · refine awp_seq ?_
                      refine awp_region rfl ?_
                      refine wpo_bdr H82 eB rfl rfl rfl (fun v84 hv => h_callr rfl rfl .nil (butterylaw08_works_ok hv _ (hH.gl.trans hg))) fun v84 hv84 H83 => ?_
                      refine wpo_mv (a := (eB v84)) rfl rfl rfl (o_as tk rfl (Wk.refl _)) ?_
                      refine wpo_nil ?_
                      refine awp_ret ?_
                      have hz := hy41 _ (inj_inr H83)
                      refine ⟨⟨_, inj_inr H83⟩, ?_⟩
                      rw [← hz] at hj37
                      have H85 := (show some _ = some _ from hj37)
                      obtain rfl := Option.some.inj H85
                      exact ⟨_, (eB v84), rfl, (.of_eq rfl), .of_eq ((enc_b td4 sz4).cut _ _ _), ((hH.noT.drop n60).drop n17)⟩
                    · refine awp_skip ?_
                      refine awp_seq ?_
                      refine awp_region rfl ?_
                      refine wpo_mv (a := (eI (0 : Int))) rfl rfl rfl (o_as tk rfl (Wk.refl _)) ?_
                      refine wpo_nil ?_
                      refine awp_seq ?_
                      refine awp_block ?_
                      obtain ⟨s96, hs90, hj91⟩ := Option.bind_eq_some_iff.1 H82
                      refine awp_cutx 3 (fun fr τ => WkF fr (fm [(1, ((eL 3 e_butterylaw08_Op) x1)), (2, (eI x2)), (7, .nilp), (9, (.ref id16 0)), (10, (eI v15.2)), (11, (eI c34)), (12, (.ref id59 0)), (14, (eI s96.1))]) ∧ Holds σ [(id59, (c_butterylaw08_Op c62)), (id16, (c_butteryref08_Budget s96.2))] [] τ) ?_ ?_
                      · rintro fr τ ⟨hfr, hH⟩
                        have H132 := hj91
                        refine AWP.fm [(1, ((eL 3 e_butterylaw08_Op) x1)), (2, (eI x2)), (7, .nilp), (9, (.ref id16 0)), (10, (eI v15.2)), (11, (eI c34)), (12, (.ref id59 0)), (14, (eI s96.1))] hfr ?_
                        refine awp_seq ?_
                        obtain ⟨s133, hs135, hj136⟩ := Option.bind_eq_some_iff.1 H132
                        refine awp_cutn (fun fr τ => WkF fr (fm [(1, ((eL 3 e_butterylaw08_Op) x1)), (2, (eI x2)), (7, .nilp), (9, (.ref id16 0)), (10, (eI v15.2)), (11, (eI c34)), (12, (.ref id59 0)), (103, (.ref id59 0)), (104, (eI c62.Kind)), (105, (eB false)), (106, (eB false)), (115, (eB false)), (118, (.ref id59 0)), (119, (eI c62.Kind)), (120, (eB s133.1)), (121, (eB s133.2)), (125, (eB false)), (126, (eB false)), (136, (eB false)), (137, (eB false))]) ∧ Holds σ [(id59, (c_butterylaw08_Op c62)), (id16, (c_butteryref08_Budget s96.2))] [] τ) ?_ ?_
                        · rintro fr τ ⟨hfr, hH⟩
                          have H149 := hj136
                          refine AWP.fm [(1, ((eL 3 e_butterylaw08_Op) x1)), (2, (eI x2)), (7, .nilp), (9, (.ref id16 0)), (10, (eI v15.2)), (11, (eI c34)), (12, (.ref id59 0)), (103, (.ref id59 0)), (104, (eI c62.Kind)), (105, (eB false)), (106, (eB false)), (115, (eB false)), (118, (.ref id59 0)), (119, (eI c62.Kind)), (120, (eB s133.1)), (121, (eB s133.2)), (125, (eB false)), (126, (eB false)), (136, (eB false)), (137, (eB false))] hfr ?_
                          refine awp_false rfl ?_
                          refine awp_skip ?_
                          refine awp_seq ?_
                          refine awp_drawS mixed [] rfl (by decide +kernel) rfl rfl ?_
                          refine wpdS_mv (a := .nilp) rfl rfl rfl (o_mv tk rfl (Wk.refl _)) ?_
                          cases H149
                        · refine awp_region rfl ?_
                          refine wpo_mv (a := (.ref id59 0)) rfl rfl rfl (o_c tk false rfl (fun _ => rfl)) ?_
                          refine wpo_rd (a := (eI c62.Kind)) rfl rfl rfl (h_ld tk hH 0 rfl rfl rfl) ?_
                          refine wpo_lt hs135 eB rfl rfl rfl (o_ar tk rfl rfl rfl) fun v138 H137 => ?_
                          refine wpo_mv (a := (eB v138)) rfl rfl rfl (o_mv tk rfl (Wk.refl _)) ?_
                          refine if_split H137 (fun hb H139 => ?_) (fun hb H139 => ?_)
                          · subst hb
                            refine wpo_mv (a := .nilp) rfl rfl rfl (o_mv tk rfl (Wk.refl _)) ?_
                            refine wpo_mv (a := (.ref id59 1)) rfl rfl rfl (o_c tk false rfl (fun _ => rfl)) ?_
                            refine wpo_rd (a := (eI c62.Class)) rfl rfl rfl (h_ld tk hH 0 rfl rfl rfl) ?_
                            refine wpo_mv (a := (.ref id59 2)) rfl rfl rfl (o_c tk false rfl (fun _ => rfl)) ?_
                            refine wpo_rd (a := (eI c62.N)) rfl rfl rfl (h_ld tk hH 0 rfl rfl rfl) ?_
                            cases H139
                          · subst hb
                            refine wpo_skip rfl rfl rfl ?_
                            refine wpo_skip rfl rfl rfl ?_
                            refine wpo_skip rfl rfl rfl ?_
                            refine wpo_skip rfl rfl rfl ?_
                            refine wpo_skip rfl rfl rfl ?_
                            refine wpo_skip rfl rfl rfl ?_
                            refine wpo_skip rfl rfl rfl ?_
                            refine wpo_skip rfl rfl rfl ?_
                            refine wpo_mv (a := (eB false)) rfl rfl rfl (o_pick_f tk rfl rfl (Wk.refl _)) ?_
                            refine wpo_mv (a := (eB false)) rfl rfl rfl (o_mv tk rfl (Wk.refl _)) ?_
                            refine wpo_mv (a := (.ref id59 0)) rfl rfl rfl (o_c tk false rfl (fun _ => rfl)) ?_
                            refine wpo_rd (a := (eI c62.Kind)) rfl rfl rfl (h_ld tk hH 0 rfl rfl rfl) ?_
                            refine wpo_lt H139 eB rfl rfl rfl (o_ar tk rfl rfl rfl) fun v141 H140 => ?_
                            refine wpo_mv (a := (eB v141)) rfl rfl rfl (o_mv tk rfl (Wk.refl _)) ?_
                            refine if_split H140 (fun hb H142 => ?_) (fun hb H142 => ?_)
                            · subst hb
                              refine wpo_mv (a := .nilp) rfl rfl rfl (o_mv tk rfl (Wk.refl _)) ?_
                              refine wpo_mv (a := (.ref id59 1)) rfl rfl rfl (o_c tk false rfl (fun _ => rfl)) ?_
                              refine wpo_rd (a := (eI c62.Class)) rfl rfl rfl (h_ld tk hH 0 rfl rfl rfl) ?_
                              refine wpo_mv (a := (.ref id59 2)) rfl rfl rfl (o_c tk false rfl (fun _ => rfl)) ?_
                              refine wpo_rd (a := (eI c62.N)) rfl rfl rfl (h_ld tk hH 0 rfl rfl rfl) ?_
                              cases H142
                            · subst hb
                              refine wpo_skip rfl rfl rfl ?_
                              refine wpo_skip rfl rfl rfl ?_
                              refine wpo_skip rfl rfl rfl ?_
                              refine wpo_skip rfl rfl rfl ?_
                              refine wpo_skip rfl rfl rfl ?_
                              refine wpo_skip rfl rfl rfl ?_
                              refine wpo_skip rfl rfl rfl ?_
                              refine wpo_skip rfl rfl rfl ?_
                              refine wpo_mv (a := (eB false)) rfl rfl rfl (o_pick_f tk rfl rfl (Wk.refl _)) ?_
                              refine wpo_mv (a := (eB false)) rfl rfl rfl (o_pick_f tk rfl rfl (Wk.refl _)) ?_
                              refine wpo_mv (a := (eB false)) rfl rfl rfl (o_mv tk rfl (Wk.refl _)) ?_
                              refine wpo_mv (a := (.ref id59 0)) rfl rfl rfl (o_c tk false rfl (fun _ => rfl)) ?_
                              refine wpo_rd (a := (eI c62.Kind)) rfl rfl rfl (h_ld tk hH 0 rfl rfl rfl) ?_
                              refine wpo_lt H142 eB rfl rfl rfl (o_ar tk rfl rfl rfl) fun v144 H143 => ?_
                              refine wpo_mv (a := (eB v144)) rfl rfl rfl (o_mv tk rfl (Wk.refl _)) ?_
                              refine if_split H143 (fun hb H145 => ?_) (fun hb H145 => ?_)
                              · subst hb
                                refine wpo_mv (a := (.ref id59 0)) rfl rfl rfl (o_c tk false rfl (fun _ => rfl)) ?_
                                refine wpo_rd (a := (eI c62.Kind)) rfl rfl rfl (h_ld tk hH 0 rfl rfl rfl) ?_
                                refine wpo_lt H145 eB rfl rfl rfl (o_ar tk rfl rfl rfl) fun v147 H146 => ?_
                                refine wpo_mv (a := (eB v147)) rfl rfl rfl (o_pick_t tk rfl rfl (Wk.refl _)) ?_
                                refine wpo_mv (a := (eB v147)) rfl rfl rfl (o_mv tk rfl (Wk.refl _)) ?_
                                refine if_split H146 (fun hb H148 => ?_) (fun hb H148 => ?_)
                                · subst hb
                                  refine wpo_mv (a := (.ref id59 2)) rfl rfl rfl (o_c tk false rfl (fun _ => rfl)) ?_
                                  refine wpo_rd (a := (eI c62.N)) rfl rfl rfl (h_ld tk hH 0 rfl rfl rfl) ?_
                                  refine wpo_mv (a := (.ref id59 1)) rfl rfl rfl (o_c tk false rfl (fun _ => rfl)) ?_
                                  refine wpo_rd (a := (eI c62.Class)) rfl rfl rfl (h_ld tk hH 0 rfl rfl rfl) ?_
                                  refine wpo_mv (a := .nilp) rfl rfl rfl (o_mv tk rfl (Wk.refl _)) ?_
                                  refine wpo_mv (a := (.fn (.func 17) [.nilp] [])) rfl rfl rfl (o_c tk false rfl (fun _ => rfl)) ?_
                                  cases H148
                                · subst hb
                                  refine wpo_skip rfl rfl rfl ?_
                                  refine wpo_skip rfl rfl rfl ?_
                                  refine wpo_skip rfl rfl rfl ?_
                                  refine wpo_skip rfl rfl rfl ?_
                                  refine wpo_skip rfl rfl rfl ?_
                                  refine wpo_skip rfl rfl rfl ?_
                                  refine wpo_skip rfl rfl rfl ?_
                                  refine wpo_skip rfl rfl rfl ?_
                                  refine wpo_skip rfl rfl rfl ?_
                                  refine wpo_mv (a := (eB false)) rfl rfl rfl (o_pick_f tk rfl rfl (Wk.refl _)) ?_
                                  refine wpo_mv (a := (eB false)) rfl rfl rfl (o_pick_f tk rfl rfl (Wk.refl _)) ?_
                                  refine wpo_nil ?_
                                  have e := Option.some.inj H148
                                  subst e
                                  exact ⟨(wkf_cons (.of_eq rfl) (wkf_cons (.of_eq rfl) (wkf_cons (.of_eq rfl) (wkf_cons (.of_eq rfl) (wkf_cons (.of_eq rfl) (wkf_cons (.of_eq rfl) (wkf_cons (.of_eq rfl) (wkf_cons (.of_eq rfl) (wkf_cons (.of_eq rfl) (wkf_cons (.of_eq rfl) (wkf_cons (.of_eq rfl) (wkf_cons (.of_eq rfl) (wkf_cons (.of_eq rfl) (wkf_cons (.of_eq rfl) (wkf_cons (.of_eq rfl) (wkf_cons (.of_eq rfl) (wkf_cons (.of_eq rfl) (wkf_cons (.of_eq rfl) (wkf_cons (.of_eq rfl) (wkf_cons (.of_eq rfl) (wkf_nil _))))))))))))))))))))), hH⟩
                              · subst hb
                                refine wpo_skip rfl rfl rfl ?_
                                refine wpo_skip rfl rfl rfl ?_
                                refine wpo_skip rfl rfl rfl ?_
                                refine wpo_mv (a := (eB false)) rfl rfl rfl (o_pick_f tk rfl rfl (Wk.refl _)) ?_
                                refine wpo_mv (a := (eB false)) rfl rfl rfl (o_mv tk rfl (Wk.refl _)) ?_
                                refine wpo_skip rfl rfl rfl ?_
                                refine wpo_skip rfl rfl rfl ?_
                                refine wpo_skip rfl rfl rfl ?_
                                refine wpo_skip rfl rfl rfl ?_
                                refine wpo_skip rfl rfl rfl ?_
                                refine wpo_skip rfl rfl rfl ?_
                                refine wpo_skip rfl rfl rfl ?_
                                refine wpo_skip rfl rfl rfl ?_
                                refine wpo_skip rfl rfl rfl ?_
                                refine wpo_mv (a := (eB false)) rfl rfl rfl (o_pick_f tk rfl rfl (Wk.refl _)) ?_
                                refine wpo_mv (a := (eB false)) rfl rfl rfl (o_pick_f tk rfl rfl (Wk.refl _)) ?_
                                refine wpo_nil ?_
                                have e := Option.some.inj H145
                                subst e
                                exact ⟨(wkf_cons (.of_eq rfl) (wkf_cons (.of_eq rfl) (wkf_cons (.of_eq rfl) (wkf_cons (.of_eq rfl) (wkf_cons (.of_eq rfl) (wkf_cons (.of_eq rfl) (wkf_cons (.of_eq rfl) (wkf_cons (.of_eq rfl) (wkf_cons (.of_eq rfl) (wkf_cons (.of_eq rfl) (wkf_cons (.of_eq rfl) (wkf_cons (.of_eq rfl) (wkf_cons (.of_eq rfl) (wkf_cons (.of_eq rfl) (wkf_cons (.of_eq rfl) (wkf_cons (.of_eq rfl) (wkf_cons (.of_eq rfl) (wkf_cons (.of_eq rfl) (wkf_cons (.of_eq rfl) (wkf_cons (.of_eq rfl) (wkf_nil _))))))))))))))))))))), hH⟩
                      · refine awp_loopO (body := fun s => butterylaw08_SlabDoes_b1 x1 x2 v15 c34 c62 s.1 s.2.1 s.2.2) hs90 (fun (s : Int × Int × butteryref08_Budget) fr τ => WkF fr (fm [(1, ((eL 3 e_butterylaw08_Op) x1)), (2, (eI x2)), (7, .nilp), (9, (.ref id16 0)), (10, (eI v15.2)), (11, (eI c34)), (12, (.ref id59 0)), (13, (eI s.1)), (14, (eI s.2.1))]) ∧ Holds σ [(id59, (c_butterylaw08_Op c62)), (id16, (c_butteryref08_Budget s.2.2))] [] τ) ⟨(wkf_cons (.of_eq rfl) (wkf_cons (.of_eq rfl) (wkf_cons (.of_eq rfl) (wkf_cons (.of_eq rfl) (wkf_cons (.of_eq rfl) (wkf_cons (.of_eq rfl) (wkf_cons (.of_eq rfl) (wkf_cons (.of_eq rfl) (wkf_cons (.of_eq rfl) (wkf_nil _)))))))))), hH⟩ ?_
                        rintro ⟨c86, c87, c88⟩ fr τ y92 ⟨hfr, hH⟩ hb94 hy95
                        have H97 : butterylaw08_SlabDoes_b1 x1 x2 v15 c34 c62 c86 c87 c88 = some y92 := hb94
                        unfold butterylaw08_SlabDoes_b1 at H97
                        refine AWP.fm [(1, ((eL 3 e_butterylaw08_Op) x1)), (2, (eI x2)), (7, .nilp), (9, (.ref id16 0)), (10, (eI v15.2)), (11, (eI c34)), (12, (.ref id59 0)), (13, (eI c86)), (14, (eI c87))] hfr ?_
                        have hH : Holds σ [(id59, (c_butterylaw08_Op c62)), (id16, (c_butteryref08_Budget c88))] [] τ := hH
                        refine awp_seq ?_
                        refine awp_seq ?_
                        obtain ⟨s98, hs100, hj101⟩ := Option.bind_eq_some_iff.1 H97
                        refine awp_cutn (fun fr τ => WkF fr (fm [(1, ((eL 3 e_butterylaw08_Op) x1)), (2, (eI x2)), (7, .nilp), (9, (.ref id16 0)), (10, (eI v15.2)), (11, (eI c34)), (12, (.ref id59 0)), (14, (eI c87)), (67, (eB s98))]) ∧ Holds σ [(id59, (c_butterylaw08_Op c62)), (id16, (c_butteryref08_Budget c88))] [] τ) ?_ ?_
                        · rintro fr τ ⟨hfr, hH⟩
                          have H107 := hj101
                          refine AWP.fm [(1, ((eL 3 e_butterylaw08_Op) x1)), (2, (eI x2)), (7, .nilp), (9, (.ref id16 0)), (10, (eI v15.2)), (11, (eI c34)), (12, (.ref id59 0)), (14, (eI c87)), (67, (eB s98))] hfr ?_
                          refine awp_if H107 rfl (fun H108 => ?_) (fun H108 => ?_)
                          · refine awp_skip ?_
                            refine awp_block ?_
                            refine awp_seq ?_
                            refine awp_seq ?_
                            refine awp_region rfl ?_
                            refine wpo_mv (a := (.ref id59 0)) rfl rfl rfl (o_c tk false rfl (fun _ => rfl)) ?_
                            refine wpo_rd (a := (eI c62.Kind)) rfl rfl rfl (h_ld tk hH 0 rfl rfl rfl) ?_
                            refine wpo_lt H108 eB rfl rfl rfl (o_ar tk rfl rfl rfl) fun v110 H109 => ?_
                            refine wpo_nil ?_
                            obtain ⟨s111, hs113, hj114⟩ := Option.bind_eq_some_iff.1 H109
                            refine awp_cutn (fun fr τ => WkF fr (fm [(1, ((eL 3 e_butterylaw08_Op) x1)), (2, (eI x2)), (7, .nilp), (9, (.ref id16 0)), (10, (eI v15.2)), (11, (eI c34)), (12, (.ref id59 0)), (13, (eI s111.1)), (14, (eI c87))]) ∧ Holds σ [(id59, (c_butterylaw08_Op c62)), (id16, (c_butteryref08_Budget s111.2))] [] τ) ?_ ?_
                            · rintro fr τ ⟨hfr, hH⟩
                              have H126 := hj114
                              refine AWP.fm [(1, ((eL 3 e_butterylaw08_Op) x1)), (2, (eI x2)), (7, .nilp), (9, (.ref id16 0)), (10, (eI v15.2)), (11, (eI c34)), (12, (.ref id59 0)), (13, (eI s111.1)), (14, (eI c87))] hfr ?_
                              refine awp_seq ?_
                              refine awp_region rfl ?_
                              refine wpo_mv (a := (eI s111.1)) rfl rfl rfl (o_mv tk rfl (Wk.refl _)) ?_
                              refine wpo_lt H126 eB rfl rfl rfl (o_ar tk rfl rfl rfl) fun v128 H127 => ?_
                              refine wpo_nil ?_
                              refine awp_if H127 rfl (fun H129 => ?_) (fun H129 => ?_)
                              · refine awp_region rfl ?_
                                refine wpo_mv (a := (eI c87)) rfl rfl rfl (o_mv tk rfl (Wk.refl _)) ?_
                                refine wpo_lt H129 eI rfl rfl rfl (o_ar tk rfl rfl rfl) fun v131 H130 => ?_
                                refine wpo_mv (a := (eI v131)) rfl rfl rfl (o_as tk rfl (Wk.refl _)) ?_
                                refine wpo_nil ?_
                                exact ⟨(s111.1, v131, s111.2), inj_inl H130, (wkf_cons (.of_eq rfl) (wkf_cons (.of_eq rfl) (wkf_cons (.of_eq rfl) (wkf_cons (.of_eq rfl) (wkf_cons (.of_eq rfl) (wkf_cons (.of_eq rfl) (wkf_cons (.of_eq rfl) (wkf_cons (.of_eq rfl) (wkf_cons (.of_eq rfl) (wkf_nil _)))))))))), hH⟩
                              · refine awp_skip ?_
                                exact ⟨(s111.1, c87, s111.2), inj_inl H129, (wkf_cons (.of_eq rfl) (wkf_cons (.of_eq rfl) (wkf_cons (.of_eq rfl) (wkf_cons (.of_eq rfl) (wkf_cons (.of_eq rfl) (wkf_cons (.of_eq rfl) (wkf_cons (.of_eq rfl) (wkf_cons (.of_eq rfl) (wkf_cons (.of_eq rfl) (wkf_nil _)))))))))), hH⟩
                            · refine awp_if hs113 rfl (fun H115 => ?_) (fun H115 => ?_)
                              · refine awp_region rfl ?_
                                refine wpo_rd (a := (e_butteryref08_Budget c88)) rfl rfl rfl (h_ld tk hH 1 rfl rfl rfl) ?_
                                refine wpo_mv (a := (.ref id59 1)) rfl rfl rfl (o_c tk false rfl (fun _ => rfl)) ?_
                                refine wpo_rd (a := (eI c62.Class)) rfl rfl rfl (h_ld tk hH 0 rfl rfl rfl) ?_
                                refine wpo_bd H115 (fun r => .tup [e_butteryref08_Budget r.1, eI r.2]) rfl rfl rfl (fun v117 hv => OpP.of_call rfl rfl (.cons (.of_eq rfl) (.cons (.of_eq rfl) .nil)) (butteryref08_Take_ok hv)) fun v117 hv117 H116 => ?_
                                refine wpo_mv (a := (.tup [(e_butteryref08_Budget v117.1), (eI v117.2)])) rfl rfl rfl (o_mv tk rfl (Wk.refl _)) ?_
                                refine wpo_mv (a := (e_butteryref08_Budget v117.1)) rfl rfl rfl (o_ext tk rfl rfl) ?_
                                refine wpo_mv (a := (eI v117.2)) rfl rfl rfl (o_ext tk rfl rfl) ?_
                                obtain ⟨c119, hc120, H118⟩ := lt_ex H116
                                refine wpo_z rfl rfl (h_st tk hH 1 rfl ty61 (by simp) rfl rfl (.of_eq rfl) (b := (e_butteryref08_Budget v117.1)) (enc61.flat _) rfl (Nat.le_of_ble_eq_true rfl) (c_butteryref08_Budget c119) (by rw [← hc120]; rfl)) fun τ hH => ?_
                                refine wpo_mv (a := (eI v117.2)) rfl rfl rfl (o_as tk rfl (Wk.refl _)) ?_
                                refine wpo_nil ?_
                                have e := Option.some.inj H118
                                subst e
                                exact ⟨(wkf_cons (.of_eq rfl) (wkf_cons (.of_eq rfl) (wkf_cons (.of_eq rfl) (wkf_cons (.of_eq rfl) (wkf_cons (.of_eq rfl) (wkf_cons (.of_eq rfl) (wkf_cons (.of_eq rfl) (wkf_cons (.of_eq rfl) (wkf_cons (.of_eq rfl) (wkf_nil _)))))))))), hH⟩
                              · refine awp_region rfl ?_
                                refine wpo_rd (a := (e_butteryref08_Budget c88)) rfl rfl rfl (h_ld tk hH 1 rfl rfl rfl) ?_
                                refine wpo_mv (a := (.ref id59 1)) rfl rfl rfl (o_c tk false rfl (fun _ => rfl)) ?_
                                refine wpo_rd (a := (eI c62.Class)) rfl rfl rfl (h_ld tk hH 0 rfl rfl rfl) ?_
                                refine wpo_bd H115 (fun r => .tup [e_butteryref08_Budget r.1, eI r.2]) rfl rfl rfl (fun v122 hv => OpP.of_call rfl rfl (.cons (.of_eq rfl) (.cons (.of_eq rfl) .nil)) (butteryref08_Give_ok hv)) fun v122 hv122 H121 => ?_
                                refine wpo_mv (a := (.tup [(e_butteryref08_Budget v122.1), (eI v122.2)])) rfl rfl rfl (o_mv tk rfl (Wk.refl _)) ?_
                                refine wpo_mv (a := (e_butteryref08_Budget v122.1)) rfl rfl rfl (o_ext tk rfl rfl) ?_
                                refine wpo_mv (a := (eI v122.2)) rfl rfl rfl (o_ext tk rfl rfl) ?_
                                obtain ⟨c124, hc125, H123⟩ := lt_ex H121
                                refine wpo_z rfl rfl (h_st tk hH 1 rfl ty61 (by simp) rfl rfl (.of_eq rfl) (b := (e_butteryref08_Budget v122.1)) (enc61.flat _) rfl (Nat.le_of_ble_eq_true rfl) (c_butteryref08_Budget c124) (by rw [← hc125]; rfl)) fun τ hH => ?_
                                refine wpo_mv (a := (eI v122.2)) rfl rfl rfl (o_as tk rfl (Wk.refl _)) ?_
                                refine wpo_nil ?_
                                have e := Option.some.inj H123
                                subst e
                                exact ⟨(wkf_cons (.of_eq rfl) (wkf_cons (.of_eq rfl) (wkf_cons (.of_eq rfl) (wkf_cons (.of_eq rfl) (wkf_cons (.of_eq rfl) (wkf_cons (.of_eq rfl) (wkf_cons (.of_eq rfl) (wkf_cons (.of_eq rfl) (wkf_cons (.of_eq rfl) (wkf_nil _)))))))))), hH⟩
                          · refine awp_exit ?_
                            have hz := hy95 _ (inj_inr H108)
                            subst hz
                            exact ⟨⟨_, inj_inr H108⟩, (wkf_cons (.of_eq rfl) (wkf_cons (.of_eq rfl) (wkf_cons (.of_eq rfl) (wkf_cons (.of_eq rfl) (wkf_cons (.of_eq rfl) (wkf_cons (.of_eq rfl) (wkf_cons (.of_eq rfl) (wkf_cons (.of_eq rfl) (wkf_nil _))))))))), hH⟩
                        · refine awp_region rfl ?_
                          refine wpo_mv (a := (eI c87)) rfl rfl rfl (o_mv tk rfl (Wk.refl _)) ?_
                          refine wpo_mv (a := (.ref id59 2)) rfl rfl rfl (o_c tk false rfl (fun _ => rfl)) ?_
                          refine wpo_rd (a := (eI c62.N)) rfl rfl rfl (h_ld tk hH 0 rfl rfl rfl) ?_
                          refine wpo_lt hs100 eB rfl rfl rfl (o_ar tk rfl rfl rfl) fun v103 H102 => ?_
                          refine wpo_mv (a := (eB v103)) rfl rfl rfl (o_mv tk rfl (Wk.refl _)) ?_
                          refine if_split H102 (fun hb H104 => ?_) (fun hb H104 => ?_)
                          · subst hb
                            refine wpo_mv (a := (eI c86)) rfl rfl rfl (o_mv tk rfl (Wk.refl _)) ?_
                            refine wpo_lt H104 eB rfl rfl rfl (o_ar tk rfl rfl rfl) fun v106 H105 => ?_
                            refine wpo_mv (a := (eB v106)) rfl rfl rfl (o_pick_t tk rfl rfl (Wk.refl _)) ?_
                            refine wpo_nil ?_
                            have e := Option.some.inj H105
                            subst e
                            exact ⟨(wkf_cons (.of_eq rfl) (wkf_cons (.of_eq rfl) (wkf_cons (.of_eq rfl) (wkf_cons (.of_eq rfl) (wkf_cons (.of_eq rfl) (wkf_cons (.of_eq rfl) (wkf_cons (.of_eq rfl) (wkf_cons (.of_eq rfl) (wkf_cons (.of_eq rfl) (wkf_nil _)))))))))), hH⟩
                          · subst hb
                            refine wpo_skip rfl rfl rfl ?_
                            refine wpo_skip rfl rfl rfl ?_
                            refine wpo_mv (a := (eB false)) rfl rfl rfl (o_pick_f tk rfl rfl (Wk.refl _)) ?_
                            refine wpo_nil ?_
                            have e := Option.some.inj H104
                            subst e
                            exact ⟨(wkf_cons (.of_eq rfl) (wkf_cons (.of_eq rfl) (wkf_cons (.of_eq rfl) (wkf_cons (.of_eq rfl) (wkf_cons (.of_eq rfl) (wkf_cons (.of_eq rfl) (wkf_cons (.of_eq rfl) (wkf_cons (.of_eq rfl) (wkf_cons (.of_eq rfl) (wkf_nil _)))))))))), hH⟩
              · refine awp_exit ?_
                have hz := hy41 _ (inj_inr H56)
                exact ⟨⟨_, inj_inr H56⟩, (), hz.symm, (wkf_nil _), hH⟩
            · refine awp_region rfl ?_
              refine wpo_mv (a := (eI c34)) rfl rfl rfl (o_mv tk rfl (Wk.refl _)) ?_
              refine wpo_mv (a := ((eL 3 e_butterylaw08_Op) x1)) rfl rfl rfl (o_mv tk rfl (Wk.refl _)) ?_
              refine wpo_lt hs46 eI rfl rfl rfl (o_len tk td26 rfl) fun v49 H48 => ?_
              refine wpo_lt H48 eB rfl rfl rfl (o_ar tk rfl rfl rfl) fun v51 H50 => ?_
              refine wpo_mv (a := (eB v51)) rfl rfl rfl (o_mv tk rfl (Wk.refl _)) ?_
              refine if_split H50 (fun hb H52 => ?_) (fun hb H52 => ?_)
              · subst hb
                refine wpo_mv (a := (eI v15.2)) rfl rfl rfl (o_mv tk rfl (Wk.refl _)) ?_
                refine wpo_lt H52 eB rfl rfl rfl (o_ar tk rfl rfl rfl) fun v54 H53 => ?_
                refine wpo_mv (a := (eB v54)) rfl rfl rfl (o_pick_t tk rfl rfl (Wk.refl _)) ?_
                refine wpo_nil ?_
                have e := Option.some.inj H53
                subst e
                exact ⟨(wkf_cons (.of_eq rfl) (wkf_cons (.of_eq rfl) (wkf_cons (.of_eq rfl) (wkf_cons (.of_eq rfl) (wkf_cons (.of_eq rfl) (wkf_cons (.of_eq rfl) (wkf_cons (.of_eq rfl) (wkf_nil _)))))))), hH⟩
              · subst hb
                refine wpo_skip rfl rfl rfl ?_
                refine wpo_skip rfl rfl rfl ?_
                refine wpo_mv (a := (eB false)) rfl rfl rfl (o_pick_f tk rfl rfl (Wk.refl _)) ?_
                refine wpo_nil ?_
                have e := Option.some.inj H52
                subst e
                exact ⟨(wkf_cons (.of_eq rfl) (wkf_cons (.of_eq rfl) (wkf_cons (.of_eq rfl) (wkf_cons (.of_eq rfl) (wkf_cons (.of_eq rfl) (wkf_cons (.of_eq rfl) (wkf_cons (.of_eq rfl) (wkf_nil _)))))))), hH⟩
      · refine awp_region rfl ?_
        refine wpo_mv (a := (eErr v9.2)) rfl rfl rfl (o_mv tk rfl (Wk.refl _)) ?_
        refine wpo_bdr hs21 eI rfl rfl rfl (fun v24 hv => h_callr rfl rfl (.cons (.of_eq rfl) .nil) (trouble_Of_ok hv _ (hH.gl.trans hg))) fun v24 hv24 H23 => ?_
        refine wpo_mv (a := (eI v15.2)) rfl rfl rfl (o_mv tk rfl (Wk.refl _)) ?_
        refine wpo_lt H23 eB rfl rfl rfl (o_ar tk rfl rfl rfl) fun v26 H25 => ?_
        refine wpo_mv (a := (eB v26)) rfl rfl rfl (o_mv tk rfl (Wk.refl _)) ?_
        refine if_split H25 (fun hb H27 => ?_) (fun hb H27 => ?_)
        · subst hb
          refine wpo_skip rfl rfl rfl ?_
          refine wpo_skip rfl rfl rfl ?_
          refine wpo_skip rfl rfl rfl ?_
          refine wpo_skip rfl rfl rfl ?_
          refine wpo_skip rfl rfl rfl ?_
          refine wpo_mv (a := (eB true)) rfl rfl rfl (o_pick_t tk rfl rfl (Wk.refl _)) ?_
          refine wpo_nil ?_
          have e := Option.some.inj H27
          subst e
          exact ⟨(wkf_cons (.of_eq rfl) (wkf_cons (.of_eq rfl) (wkf_cons (.of_eq rfl) (wkf_cons (.of_eq rfl) (wkf_cons (.of_eq rfl) (wkf_cons (.of_eq rfl) (wkf_nil _))))))), hH⟩
        · subst hb
          refine wpo_mv (a := .nilp) rfl rfl rfl (o_mv tk rfl (Wk.refl _)) ?_
          refine wpo_mv (a := (eB true)) rfl rfl rfl (o_c tk false rfl (fun _ => rfl)) ?_
          refine wpo_mv (a := (eI v15.2)) rfl rfl rfl (o_mv tk rfl (Wk.refl _)) ?_
          refine wpo_lt H27 eB rfl rfl rfl (o_ar tk rfl rfl rfl) fun v29 H28 => ?_
          refine wpo_lt H28 eB rfl rfl rfl (o_bool_neq tk td4 rfl rfl) fun v31 H30 => ?_
          refine wpo_mv (a := (eB v31)) rfl rfl rfl (o_pick_f tk rfl rfl (Wk.refl _)) ?_
          refine wpo_nil ?_
          have e := Option.some.inj H30
          subst e
          exact ⟨(wkf_cons (.of_eq rfl) (wkf_cons (.of_eq rfl) (wkf_cons (.of_eq rfl) (wkf_cons (.of_eq rfl) (wkf_cons (.of_eq rfl) (wkf_cons (.of_eq rfl) (wkf_nil _))))))), hH⟩
    · rw [hz13, Option.elim_some] at H8
      refine wpo_a (av := fun id => .tup [.ref id 0, (eErr v9.2)]) rfl rfl rfl (h_callno1 hH hz13 rfl rfl (.cons (.of_eq rfl) .nil) (slab_New_ok hvv9 _)) fun id11 τ ⟨hH, n12⟩ => ?_
      refine wpo_mv (a := (.tup [(.ref id11 0), (eErr v9.2)])) rfl rfl rfl (o_mv tk rfl (Wk.refl _)) ?_
      refine wpo_mv (a := (.ref id11 0)) rfl rfl rfl (o_ext tk rfl rfl) ?_
      refine wpo_mv (a := (eErr v9.2)) rfl rfl rfl (o_ext tk rfl rfl) ?_
      refine wpo_mv (a := (.ref id11 0)) rfl rfl rfl (o_as tk rfl (Wk.refl _)) ?_
      refine wpo_mv (a := (eErr v9.2)) rfl rfl rfl (o_as tk rfl (Wk.refl _)) ?_
      refine wpo_nil ?_
      refine awp_seq ?_
      refine awp_region rfl ?_
      refine wpo_mv (a := (eI x0)) rfl rfl rfl (o_mv tk rfl (Wk.refl _)) ?_
      refine wpo_bd H8 (fun r => .tup [e_butteryref08_Budget r.1, eI r.2]) rfl rfl rfl (fun v154 hv => OpP.of_call rfl rfl (.cons (.of_eq rfl) .nil) (butteryref08_New_ok hv)) fun v154 hv154 H153 => ?_
      refine wpo_mv (a := (.tup [(e_butteryref08_Budget v154.1), (eI v154.2)])) rfl rfl rfl (o_mv tk rfl (Wk.refl _)) ?_
      refine wpo_mv (a := (e_butteryref08_Budget v154.1)) rfl rfl rfl (o_ext tk rfl rfl) ?_
      refine wpo_mv (a := (eI v154.2)) rfl rfl rfl (o_ext tk rfl rfl) ?_
      refine wpo_a (av := fun id => .ref id 0) rfl rfl rfl (h_alloc tk hH ty61 [(eI z_butteryref08_Budget.Limit), AV.nils] rfl) fun id155 τ ⟨hH, n156⟩ => ?_
      refine wpo_z rfl rfl (h_st tk hH 0 rfl ty61 (by simp) rfl rfl (.of_eq rfl) (b := (e_butteryref08_Budget v154.1)) (enc61.flat _) rfl (Nat.le_of_ble_eq_true rfl) (c_butteryref08_Budget (v154.1 : butteryref08_Budget)) rfl) fun τ hH => ?_
      refine wpo_mv (a := (eI v154.2)) rfl rfl rfl (o_as tk rfl (Wk.refl _)) ?_
      refine wpo_nil ?_
      refine awp_seq ?_
      refine awp_seq ?_
      obtain ⟨s158, hs160, hj161⟩ := Option.bind_eq_some_iff.1 H153
      refine awp_cutn (fun fr τ => WkF fr (fm [(1, ((eL 3 e_butterylaw08_Op) x1)), (2, (eI x2)), (7, (.ref id11 0)), (9, (.ref id155 0)), (10, (eI v154.2)), (39, (eB s158))]) ∧ Holds σ [(id155, (c_butteryref08_Budget (v154.1 : butteryref08_Budget))), (id11, (c_slab_Budget c10))] [] τ) ?_ ?_
      · rintro fr τ ⟨hfr, hH⟩
        have H171 := hj161
        refine AWP.fm [(1, ((eL 3 e_butterylaw08_Op) x1)), (2, (eI x2)), (7, (.ref id11 0)), (9, (.ref id155 0)), (10, (eI v154.2)), (39, (eB s158))] hfr ?_
        refine awp_if H171 rfl (fun H172 => ?_) (fun H172 => ?_)
        · refine awp_seq ?_
          refine awp_region rfl ?_
          refine wpo_mv (a := (eB false)) rfl rfl rfl (o_as tk rfl (Wk.refl _)) ?_
          refine wpo_nil ?_
          refine awp_ret ?_
          obtain rfl := Option.some.inj H172
          exact ⟨_, (eB false), rfl, (.of_eq rfl), .of_eq ((enc_b td4 sz4).cut _ _ _), ((hH.noT.drop n156).drop n12)⟩
        · refine awp_skip ?_
          refine awp_seq ?_
          refine awp_seq ?_
          refine awp_region rfl ?_
          refine wpo_mv (a := (eI (0 : Int))) rfl rfl rfl (o_as tk rfl (Wk.refl _)) ?_
          refine wpo_nil ?_
          refine awp_block ?_
          obtain ⟨o176, hs177, hj178⟩ := Option.bind_eq_some_iff.1 H172
          refine awp_cutx 0 (fun fr τ => ∃ s183 : butteryref08_Budget × slab_Budget, o176 = .inl s183 ∧ WkF fr (fm []) ∧ Holds σ [(id155, (c_butteryref08_Budget s183.1)), (id11, (c_slab_Budget s183.2))] [] τ) ?_ ?_
          · rintro fr τ ⟨s183, rfl, hfr, hH⟩
            have H413 := hj178
            simp only [Sum.elim_inl] at H413
            refine AWP.fm [] hfr ?_
            refine awp_seq ?_
            refine awp_region rfl ?_
            refine wpo_bdr H413 eB rfl rfl rfl (fun v415 hv => h_callr rfl rfl .nil (butterylaw08_works_ok hv _ (hH.gl.trans hg))) fun v415 hv415 H414 => ?_
            refine wpo_mv (a := (eB v415)) rfl rfl rfl (o_as tk rfl (Wk.refl _)) ?_
            refine wpo_nil ?_
            refine awp_ret ?_
            obtain rfl := Option.some.inj H414
            exact ⟨_, (eB v415), rfl, (.of_eq rfl), .of_eq ((enc_b td4 sz4).cut _ _ _), ((hH.noT.drop n156).drop n12)⟩
          · refine awp_loopO (body := fun s => butterylaw08_SlabDoes_b2 x1 x2 v154 s.1 s.2.1 s.2.2) hs177 (fun (s : Int × butteryref08_Budget × slab_Budget) fr τ => WkF fr (fm [(1, ((eL 3 e_butterylaw08_Op) x1)), (2, (eI x2)), (7, (.ref id11 0)), (9, (.ref id155 0)), (10, (eI v154.2)), (11, (eI s.1))]) ∧ Holds σ [(id155, (c_butteryref08_Budget s.2.1)), (id11, (c_slab_Budget s.2.2))] [] τ) ⟨(wkf_cons (.of_eq rfl) (wkf_cons (.of_eq rfl) (wkf_cons (.of_eq rfl) (wkf_cons (.of_eq rfl) (wkf_cons (.of_eq rfl) (wkf_cons (.of_eq rfl) (wkf_nil _))))))), hH⟩ ?_
            rintro ⟨c173, c174, c175⟩ fr τ y179 ⟨hfr, hH⟩ hb181 hy182
            have H184 : butterylaw08_SlabDoes_b2 x1 x2 v154 c173 c174 c175 = some y179 := hb181
            unfold butterylaw08_SlabDoes_b2 at H184
            refine AWP.fm [(1, ((eL 3 e_butterylaw08_Op) x1)), (2, (eI x2)), (7, (.ref id11 0)), (9, (.ref id155 0)), (10, (eI v154.2)), (11, (eI c173))] hfr ?_
            have hH : Holds σ [(id155, (c_butteryref08_Budget c174)), (id11, (c_slab_Budget c175))] [] τ := hH
            refine awp_seq ?_
            refine awp_seq ?_
            obtain ⟨s185, hs187, hj188⟩ := Option.bind_eq_some_iff.1 H184
            refine awp_cutn (fun fr τ => WkF fr (fm [(1, ((eL 3 e_butterylaw08_Op) x1)), (2, (eI x2)), (7, (.ref id11 0)), (9, (.ref id155 0)), (10, (eI v154.2)), (11, (eI c173)), (47, (eB s185))]) ∧ Holds σ [(id155, (c_butteryref08_Budget c174)), (id11, (c_slab_Budget c175))] [] τ) ?_ ?_
            · rintro fr τ ⟨hfr, hH⟩
              have H196 := hj188
              refine AWP.fm [(1, ((eL 3 e_butterylaw08_Op) x1)), (2, (eI x2)), (7, (.ref id11 0)), (9, (.ref id155 0)), (10, (eI v154.2)), (11, (eI c173)), (47, (eB s185))] hfr ?_
              refine awp_if H196 rfl (fun H197 => ?_) (fun H197 => ?_)
              · refine awp_skip ?_
                refine awp_seq ?_
                refine awp_block ?_
                refine awp_seq ?_
                refine awp_region rfl ?_
                refine wpo_mv (a := ((eL 3 e_butterylaw08_Op) x1)) rfl rfl rfl (o_mv tk rfl (Wk.refl _)) ?_
                refine wpo_mv (a := (eI c173)) rfl rfl rfl (o_mv tk rfl (Wk.refl _)) ?_
                refine wpo_bd H197 (fun y => .fptr (e_butterylaw08_Op y).cells 0) rfl rfl rfl (fun v199 hv => o_ixa tk hv td26 enc33 rfl rfl) fun v199 hv199 H198 => ?_
                refine wpo_mv (a := (e_butterylaw08_Op v199)) rfl rfl rfl (o_ld_e tk enc33 rfl rfl) ?_
                refine wpo_a (av := fun id => .ref id 0) rfl rfl rfl (h_alloc tk hH ty33 (c_butterylaw08_Op z_butterylaw08_Op) rfl) fun id200 τ ⟨hH, n201⟩ => ?_
                obtain ⟨c203, hc204, H202⟩ := lt_ex H198
                refine wpo_z rfl rfl (h_st tk hH 0 rfl ty33 (by simp) rfl rfl (.of_eq rfl) (b := (e_butterylaw08_Op v199)) (enc33.flat _) rfl (Nat.le_of_ble_eq_true rfl) (c_butterylaw08_Op c203) (by rw [← hc204]; rfl)) fun τ hH => ?_
                refine wpo_nil ?_
                refine awp_seq ?_
                refine awp_region rfl ?_
                refine wpo_mv (a := (eI (0 : Int))) rfl rfl rfl (o_as tk rfl (Wk.refl _)) ?_
                refine wpo_nil ?_
                refine awp_seq ?_
                refine awp_seq ?_
                refine awp_region rfl ?_
                refine wpo_mv (a := (.ref id200 0)) rfl rfl rfl (o_c tk false rfl (fun _ => rfl)) ?_
                refine wpo_rd (a := (eI c203.Kind)) rfl rfl rfl (h_ld tk hH 0 rfl rfl rfl) ?_
                refine wpo_nil ?_
                refine awp_block ?_
                refine awp_seq ?_
                refine awp_region rfl ?_
                refine wpo_lt H202 eB rfl rfl rfl (o_ar tk rfl rfl rfl) fun v206 H205 => ?_
                refine wpo_mv (a := (eB v206)) rfl rfl rfl (o_as tk rfl (Wk.refl _)) ?_
                refine wpo_nil ?_
                obtain ⟨o208, hs209, hj210⟩ := Option.bind_eq_some_iff.1 H205
                refine awp_cutn (fun fr τ => ∃ s207 : butteryref08_Budget × slab_Budget, o208 = .inl s207 ∧ WkF fr (fm [(1, ((eL 3 e_butterylaw08_Op) x1)), (2, (eI x2)), (7, (.ref id11 0)), (9, (.ref id155 0)), (10, (eI v154.2)), (11, (eI c173)), (12, (.ref id200 0))]) ∧ Holds σ [(id200, (c_butterylaw08_Op c203)), (id155, (c_butteryref08_Budget s207.1)), (id11, (c_slab_Budget s207.2))] [] τ) ?_ ?_
                · rintro fr τ ⟨s207, rfl, hfr, hH⟩
                  have H369 := hj210
                  simp only [Sum.elim_inl] at H369
                  refine AWP.fm [(1, ((eL 3 e_butterylaw08_Op) x1)), (2, (eI x2)), (7, (.ref id11 0)), (9, (.ref id155 0)), (10, (eI v154.2)), (11, (eI c173)), (12, (.ref id200 0))] hfr ?_
                  refine awp_seq ?_
                  obtain ⟨s370, hs372, hj373⟩ := Option.bind_eq_some_iff.1 H369
                  refine awp_cutn (fun fr τ => WkF fr (fm [(1, ((eL 3 e_butterylaw08_Op) x1)), (2, (eI x2)), (7, (.ref id11 0)), (9, (.ref id155 0)), (10, (eI v154.2)), (11, (eI c173)), (211, (eB s370))]) ∧ Holds σ [(id200, (c_butterylaw08_Op c203)), (id155, (c_butteryref08_Budget s207.1)), (id11, (c_slab_Budget s207.2))] [] τ) ?_ ?_
                  · rintro fr τ ⟨hfr, hH⟩
                    have H408 := hj373
                    refine AWP.fm [(1, ((eL 3 e_butterylaw08_Op) x1)), (2, (eI x2)), (7, (.ref id11 0)), (9, (.ref id155 0)), (10, (eI v154.2)), (11, (eI c173)), (211, (eB s370))] hfr ?_
                    refine awp_if H408 rfl (fun H409 => ?_) (fun H409 => ?_)
                    · refine awp_seq ?_
                      refine awp_region rfl ?_
                      refine wpo_mv (a := (eB false)) rfl rfl rfl (o_as tk rfl (Wk.refl _)) ?_
                      refine wpo_nil ?_
                      refine awp_ret ?_
                      have hz := hy182 _ (inj_inr H409)
                      refine ⟨⟨_, inj_inr H409⟩, ?_⟩
                      rw [← hz] at hj178
                      have H410 := (show some _ = some _ from hj178)
                      obtain rfl := Option.some.inj H410
                      exact ⟨_, (eB false), rfl, (.of_eq rfl), .of_eq ((enc_b td4 sz4).cut _ _ _), (((hH.noT.drop n201).drop n156).drop n12)⟩
                    · refine awp_skip ?_
                      refine awp_region rfl ?_
                      refine wpo_mv (a := (eI c173)) rfl rfl rfl (o_mv tk rfl (Wk.refl _)) ?_
                      refine wpo_lt H409 eI rfl rfl rfl (o_ar tk rfl rfl rfl) fun v412 H411 => ?_
                      refine wpo_mv (a := (eI v412)) rfl rfl rfl (o_as tk rfl (Wk.refl _)) ?_
                      refine wpo_nil ?_
                      exact ⟨(v412, s207.1, s207.2), inj_inl H411, (wkf_cons (.of_eq rfl) (wkf_cons (.of_eq rfl) (wkf_cons (.of_eq rfl) (wkf_cons (.of_eq rfl) (wkf_cons (.of_eq rfl) (wkf_cons (.of_eq rfl) (wkf_nil _))))))), (hH.drop n201)⟩
                  · refine awp_drawS mixed [] rfl (by decide +kernel) rfl rfl ?_
                    refine wpdS_mv (a := (.ref id11 0)) rfl rfl rfl (o_mv tk rfl (Wk.refl _)) ?_
                    refine wpdS_bdr hs372 eI rfl (by decide +kernel) rfl rfl (fun v375 hv => h_callr rfl rfl (.cons (.of_eq rfl) .nil) (slab_Budget_Used_ok hv _ (hH.at_ 2 rfl))) fun v375 hv375 H374 => ?_
                    refine wpdS_rd (a := (e_butteryref08_Budget s207.1)) rfl (by decide +kernel) rfl rfl (h_ld tk hH 1 rfl rfl rfl) ?_
                    refine wpdS_bd H374 eI rfl rfl rfl (fun v377 hv => OpP.of_call rfl rfl (.cons (.of_eq rfl) .nil) (butteryref08_Used_ok hv)) fun v377 hv377 H376 => ?_
                    refine wpdS_lt H376 eB rfl rfl rfl (o_ar tk rfl rfl rfl) fun v379 H378 => ?_
                    refine wpdS_mv (a := (eB v379)) rfl rfl rfl (o_mv tk rfl (Wk.refl _)) ?_
                    refine if_split H378 (fun hb H380 => ?_) (fun hb H380 => ?_)
                    · subst hb
                      refine wpdS_skip rfl rfl rfl ?_
                      refine wpdS_skip rfl rfl rfl ?_
                      refine wpdS_skip rfl rfl rfl ?_
                      refine wpdS_skip rfl rfl rfl ?_
                      refine wpdS_skip rfl rfl rfl ?_
                      refine wpdS_skip rfl rfl rfl ?_
                      refine wpdS_skip rfl rfl rfl ?_
                      refine wpdS_skip rfl rfl rfl ?_
                      refine wpdS_mv (a := (eB true)) rfl rfl rfl (o_pick_t tk rfl rfl (Wk.refl _)) ?_
                      refine wpdS_mv (a := (eB true)) rfl rfl rfl (o_mv tk rfl (Wk.refl _)) ?_
                      refine wpdS_skip rfl rfl rfl ?_
                      refine wpdS_skip rfl rfl rfl ?_
                      refine wpdS_skip rfl rfl rfl ?_
                      refine wpdS_skip rfl rfl rfl ?_
                      refine wpdS_skip rfl rfl rfl ?_
                      refine wpdS_mv (a := (eB true)) rfl rfl rfl (o_pick_t tk rfl rfl (Wk.refl _)) ?_
                      refine wpdS_mv (a := (eB true)) rfl rfl rfl (o_mv tk rfl (Wk.refl _)) ?_
                      refine wpdS_skip rfl rfl rfl ?_
                      refine wpdS_skip rfl rfl rfl ?_
                      refine wpdS_skip rfl rfl rfl ?_
                      refine wpdS_skip rfl rfl rfl ?_
                      refine wpdS_skip rfl rfl rfl ?_
                      refine wpdS_skip rfl rfl rfl ?_
                      refine wpdS_skip rfl rfl rfl ?_
                      refine wpdS_skip rfl rfl rfl ?_
                      refine wpdS_skip rfl rfl rfl ?_
                      refine wpdS_mv (a := (eB true)) rfl rfl rfl (o_pick_t tk rfl rfl (Wk.refl _)) ?_
                      refine wpdS_mv (a := (eB true)) rfl rfl rfl (o_mv tk rfl (Wk.refl _)) ?_
                      refine wpdS_skip rfl rfl rfl ?_
                      refine wpdS_skip rfl rfl rfl ?_
                      refine wpdS_skip rfl rfl rfl ?_
                      refine wpdS_skip rfl rfl rfl ?_
                      refine wpdS_skip rfl rfl rfl ?_
                      refine wpdS_skip rfl rfl rfl ?_
                      refine wpdS_skip rfl rfl rfl ?_
                      refine wpdS_mv (a := (eB true)) rfl rfl rfl (o_pick_t tk rfl rfl (Wk.refl _)) ?_
                      refine wpdS_nil ?_
                      have e := Option.some.inj H380
                      subst e
                      exact ⟨(wkf_cons (.of_eq rfl) (wkf_cons (.of_eq rfl) (wkf_cons (.of_eq rfl) (wkf_cons (.of_eq rfl) (wkf_cons (.of_eq rfl) (wkf_cons (.of_eq rfl) (wkf_cons (.of_eq rfl) (wkf_nil _)))))))), hH⟩
                    · subst hb
                      refine wpdS_mv (a := (.ref id11 0)) rfl rfl rfl (o_mv tk rfl (Wk.refl _)) ?_
                      refine wpdS_bdr H380 eI rfl (by decide +kernel) rfl rfl (fun v382 hv => h_callr rfl rfl (.cons (.of_eq rfl) .nil) (slab_Budget_Left_ok hv _ (hH.at_ 2 rfl))) fun v382 hv382 H381 => ?_
                      refine wpdS_mv (a := (.ref id155 0)) rfl rfl rfl (o_c tk false rfl (fun _ => rfl)) ?_
                      refine wpdS_rd (a := (eI s207.1.Limit)) rfl (by decide +kernel) rfl rfl (h_ld tk hH 1 rfl rfl rfl) ?_
                      refine wpdS_mv (a := (.ref id11 0)) rfl rfl rfl (o_mv tk rfl (Wk.refl _)) ?_
                      refine wpdS_bdr H381 eI rfl (by decide +kernel) rfl rfl (fun v384 hv => h_callr rfl rfl (.cons (.of_eq rfl) .nil) (slab_Budget_Used_ok hv _ (hH.at_ 2 rfl))) fun v384 hv384 H383 => ?_
                      refine wpdS_lt H383 eI rfl rfl rfl (o_ar tk rfl rfl rfl) fun v386 H385 => ?_
                      refine wpdS_lt H385 eB rfl rfl rfl (o_ar tk rfl rfl rfl) fun v388 H387 => ?_
                      refine wpdS_mv (a := (eB v388)) rfl rfl rfl (o_pick_f tk rfl rfl (Wk.refl _)) ?_
                      refine wpdS_mv (a := (eB v388)) rfl rfl rfl (o_mv tk rfl (Wk.refl _)) ?_
                      refine if_split H387 (fun hb H389 => ?_) (fun hb H389 => ?_)
                      · subst hb
                        refine wpdS_skip rfl rfl rfl ?_
                        refine wpdS_skip rfl rfl rfl ?_
                        refine wpdS_skip rfl rfl rfl ?_
                        refine wpdS_skip rfl rfl rfl ?_
                        refine wpdS_skip rfl rfl rfl ?_
                        refine wpdS_mv (a := (eB true)) rfl rfl rfl (o_pick_t tk rfl rfl (Wk.refl _)) ?_
                        refine wpdS_mv (a := (eB true)) rfl rfl rfl (o_mv tk rfl (Wk.refl _)) ?_
                        refine wpdS_skip rfl rfl rfl ?_
                        refine wpdS_skip rfl rfl rfl ?_
                        refine wpdS_skip rfl rfl rfl ?_
                        refine wpdS_skip rfl rfl rfl ?_
                        refine wpdS_skip rfl rfl rfl ?_
                        refine wpdS_skip rfl rfl rfl ?_
                        refine wpdS_skip rfl rfl rfl ?_
                        refine wpdS_skip rfl rfl rfl ?_
                        refine wpdS_skip rfl rfl rfl ?_
                        refine wpdS_mv (a := (eB true)) rfl rfl rfl (o_pick_t tk rfl rfl (Wk.refl _)) ?_
                        refine wpdS_mv (a := (eB true)) rfl rfl rfl (o_mv tk rfl (Wk.refl _)) ?_
                        refine wpdS_skip rfl rfl rfl ?_
                        refine wpdS_skip rfl rfl rfl ?_
                        refine wpdS_skip rfl rfl rfl ?_
                        refine wpdS_skip rfl rfl rfl ?_
                        refine wpdS_skip rfl rfl rfl ?_
                        refine wpdS_skip rfl rfl rfl ?_
                        refine wpdS_skip rfl rfl rfl ?_
                        refine wpdS_mv (a := (eB true)) rfl rfl rfl (o_pick_t tk rfl rfl (Wk.refl _)) ?_
                        refine wpdS_nil ?_
                        have e := Option.some.inj H389
                        subst e
                        exact ⟨(wkf_cons (.of_eq rfl) (wkf_cons (.of_eq rfl) (wkf_cons (.of_eq rfl) (wkf_cons (.of_eq rfl) (wkf_cons (.of_eq rfl) (wkf_cons (.of_eq rfl) (wkf_cons (.of_eq rfl) (wkf_nil _)))))))), hH⟩
                      · subst hb
                        refine wpdS_mv (a := (.ref id11 0)) rfl rfl rfl (o_mv tk rfl (Wk.refl _)) ?_
                        refine wpdS_bdr H389 eI rfl (by decide +kernel) rfl rfl (fun v391 hv => h_callr rfl rfl (.cons (.of_eq rfl) .nil) (slab_Budget_Limit_ok hv _ (hH.at_ 2 rfl))) fun v391 hv391 H390 => ?_
                        refine wpdS_mv (a := (.ref id155 0)) rfl rfl rfl (o_c tk false rfl (fun _ => rfl)) ?_
                        refine wpdS_rd (a := (eI s207.1.Limit)) rfl (by decide +kernel) rfl rfl (h_ld tk hH 1 rfl rfl rfl) ?_
                        refine wpdS_lt H390 eB rfl rfl rfl (o_ar tk rfl rfl rfl) fun v393 H392 => ?_
                        refine wpdS_mv (a := (eB v393)) rfl rfl rfl (o_pick_f tk rfl rfl (Wk.refl _)) ?_
                        refine wpdS_mv (a := (eB v393)) rfl rfl rfl (o_mv tk rfl (Wk.refl _)) ?_
                        refine if_split H392 (fun hb H394 => ?_) (fun hb H394 => ?_)
                        · subst hb
                          refine wpdS_skip rfl rfl rfl ?_
                          refine wpdS_skip rfl rfl rfl ?_
                          refine wpdS_skip rfl rfl rfl ?_
                          refine wpdS_skip rfl rfl rfl ?_
                          refine wpdS_skip rfl rfl rfl ?_
                          refine wpdS_skip rfl rfl rfl ?_
                          refine wpdS_skip rfl rfl rfl ?_
                          refine wpdS_skip rfl rfl rfl ?_
                          refine wpdS_skip rfl rfl rfl ?_
                          refine wpdS_mv (a := (eB true)) rfl rfl rfl (o_pick_t tk rfl rfl (Wk.refl _)) ?_
                          refine wpdS_mv (a := (eB true)) rfl rfl rfl (o_mv tk rfl (Wk.refl _)) ?_
                          refine wpdS_skip rfl rfl rfl ?_
                          refine wpdS_skip rfl rfl rfl ?_
                          refine wpdS_skip rfl rfl rfl ?_
                          refine wpdS_skip rfl rfl rfl ?_
                          refine wpdS_skip rfl rfl rfl ?_
                          refine wpdS_skip rfl rfl rfl ?_
                          refine wpdS_skip rfl rfl rfl ?_
                          refine wpdS_mv (a := (eB true)) rfl rfl rfl (o_pick_t tk rfl rfl (Wk.refl _)) ?_
                          refine wpdS_nil ?_
                          have e := Option.some.inj H394
                          subst e
                          exact ⟨(wkf_cons (.of_eq rfl) (wkf_cons (.of_eq rfl) (wkf_cons (.of_eq rfl) (wkf_cons (.of_eq rfl) (wkf_cons (.of_eq rfl) (wkf_cons (.of_eq rfl) (wkf_cons (.of_eq rfl) (wkf_nil _)))))))), hH⟩
                        · subst hb
                          refine wpdS_mv (a := (.ref id11 0)) rfl rfl rfl (o_mv tk rfl (Wk.refl _)) ?_
                          refine wpdS_mv (a := (.ref id200 1)) rfl rfl rfl (o_c tk false rfl (fun _ => rfl)) ?_
                          refine wpdS_rd (a := (eI c203.Class)) rfl (by decide +kernel) rfl rfl (h_ld tk hH 0 rfl rfl rfl) ?_
                          refine wpdS_bdr H394 eI rfl (by decide +kernel) rfl rfl (fun v396 hv => h_callr rfl rfl (.cons (.of_eq rfl) (.cons (.of_eq rfl) .nil)) (slab_Budget_Count_ok hv _ (hH.at_ 2 rfl))) fun v396 hv396 H395 => ?_
                          refine wpdS_rd (a := (e_butteryref08_Budget s207.1)) rfl (by decide +kernel) rfl rfl (h_ld tk hH 1 rfl rfl rfl) ?_
                          refine wpdS_mv (a := (.ref id200 1)) rfl rfl rfl (o_c tk false rfl (fun _ => rfl)) ?_
                          refine wpdS_rd (a := (eI c203.Class)) rfl (by decide +kernel) rfl rfl (h_ld tk hH 0 rfl rfl rfl) ?_
                          refine wpdS_bd H395 eI rfl rfl rfl (fun v398 hv => OpP.of_call rfl rfl (.cons (.of_eq rfl) (.cons (.of_eq rfl) .nil)) (butteryref08_Count_ok hv)) fun v398 hv398 H397 => ?_
                          refine wpdS_lt H397 eB rfl rfl rfl (o_ar tk rfl rfl rfl) fun v400 H399 => ?_
                          refine wpdS_mv (a := (eB v400)) rfl rfl rfl (o_pick_f tk rfl rfl (Wk.refl _)) ?_
                          refine wpdS_mv (a := (eB v400)) rfl rfl rfl (o_mv tk rfl (Wk.refl _)) ?_
                          refine if_split H399 (fun hb H401 => ?_) (fun hb H401 => ?_)
                          · subst hb
                            refine wpdS_skip rfl rfl rfl ?_
                            refine wpdS_skip rfl rfl rfl ?_
                            refine wpdS_skip rfl rfl rfl ?_
                            refine wpdS_skip rfl rfl rfl ?_
                            refine wpdS_skip rfl rfl rfl ?_
                            refine wpdS_skip rfl rfl rfl ?_
                            refine wpdS_skip rfl rfl rfl ?_
                            refine wpdS_mv (a := (eB true)) rfl rfl rfl (o_pick_t tk rfl rfl (Wk.refl _)) ?_
                            refine wpdS_nil ?_
                            have e := Option.some.inj H401
                            subst e
                            exact ⟨(wkf_cons (.of_eq rfl) (wkf_cons (.of_eq rfl) (wkf_cons (.of_eq rfl) (wkf_cons (.of_eq rfl) (wkf_cons (.of_eq rfl) (wkf_cons (.of_eq rfl) (wkf_cons (.of_eq rfl) (wkf_nil _)))))))), hH⟩
                          · subst hb
                            refine wpdS_mv (a := (.ref id11 0)) rfl rfl rfl (o_mv tk rfl (Wk.refl _)) ?_
                            refine wpdS_mv (a := (eI x2)) rfl rfl rfl (o_mv tk rfl (Wk.refl _)) ?_
                            refine wpdS_bdr H401 eB rfl (by decide +kernel) rfl rfl (fun v403 hv => h_callr rfl rfl (.cons (.of_eq rfl) (.cons (.of_eq rfl) .nil)) (slab_Budget_Fits_ok hv _ (hH.at_ 2 rfl))) fun v403 hv403 H402 => ?_
                            refine wpdS_rd (a := (e_butteryref08_Budget s207.1)) rfl (by decide +kernel) rfl rfl (h_ld tk hH 1 rfl rfl rfl) ?_
                            refine wpdS_mv (a := (eI x2)) rfl rfl rfl (o_mv tk rfl (Wk.refl _)) ?_
                            refine wpdS_bd H402 eB rfl rfl rfl (fun v405 hv => OpP.of_call rfl rfl (.cons (.of_eq rfl) (.cons (.of_eq rfl) .nil)) (butteryref08_Fits_ok hv)) fun v405 hv405 H404 => ?_
                            refine wpdS_lt H404 eB rfl rfl rfl (o_bool_neq tk td4 rfl rfl) fun v407 H406 => ?_
                            refine wpdS_mv (a := (eB v407)) rfl rfl rfl (o_pick_f tk rfl rfl (Wk.refl _)) ?_
                            refine wpdS_nil ?_
                            have e := Option.some.inj H406
                            subst e
                            exact ⟨(wkf_cons (.of_eq rfl) (wkf_cons (.of_eq rfl) (wkf_cons (.of_eq rfl) (wkf_cons (.of_eq rfl) (wkf_cons (.of_eq rfl) (wkf_cons (.of_eq rfl) (wkf_cons (.of_eq rfl) (wkf_nil _)))))))), hH⟩
                · refine awp_if hs209 rfl (fun H211 => ?_) (fun H211 => ?_)
                  · refine awp_seq ?_
                    refine awp_region rfl ?_
                    refine wpo_rd (a := (e_butteryref08_Budget c174)) rfl rfl rfl (h_ld tk hH 1 rfl rfl rfl) ?_
                    refine wpo_mv (a := (.ref id200 1)) rfl rfl rfl (o_c tk false rfl (fun _ => rfl)) ?_
                    refine wpo_rd (a := (eI c203.Class)) rfl rfl rfl (h_ld tk hH 0 rfl rfl rfl) ?_
                    refine wpo_bd H211 (fun r => .tup [e_butteryref08_Budget r.1, eI r.2]) rfl rfl rfl (fun v213 hv => OpP.of_call rfl rfl (.cons (.of_eq rfl) (.cons (.of_eq rfl) .nil)) (butteryref08_Take_ok hv)) fun v213 hv213 H212 => ?_
                    refine wpo_mv (a := (.tup [(e_butteryref08_Budget v213.1), (eI v213.2)])) rfl rfl rfl (o_mv tk rfl (Wk.refl _)) ?_
                    refine wpo_mv (a := (e_butteryref08_Budget v213.1)) rfl rfl rfl (o_ext tk rfl rfl) ?_
                    refine wpo_mv (a := (eI v213.2)) rfl rfl rfl (o_ext tk rfl rfl) ?_
                    obtain ⟨c215, hc216, H214⟩ := lt_ex H212
                    refine wpo_z rfl rfl (h_st tk hH 1 rfl ty61 (by simp) rfl rfl (.of_eq rfl) (b := (e_butteryref08_Budget v213.1)) (enc61.flat _) rfl (Nat.le_of_ble_eq_true rfl) (c_butteryref08_Budget c215) (by rw [← hc216]; rfl)) fun τ hH => ?_
                    refine wpo_mv (a := (eI v213.2)) rfl rfl rfl (o_as tk rfl (Wk.refl _)) ?_
                    refine wpo_nil ?_
                    refine awp_seq ?_
                    refine awp_region rfl ?_
                    refine wpo_mv (a := (.ref id11 0)) rfl rfl rfl (o_mv tk rfl (Wk.refl _)) ?_
                    refine wpo_mv (a := (.ref id200 1)) rfl rfl rfl (o_c tk false rfl (fun _ => rfl)) ?_
                    refine wpo_rd (a := (eI c203.Class)) rfl rfl rfl (h_ld tk hH 0 rfl rfl rfl) ?_
                    refine wpo_cb H214 (fun x _ => eErr x.1) rfl rfl rfl (fun v218 hv => h_call1 hH [(2, (id11, (c_slab_Budget v218.2)))] ⟨⟨_, rfl⟩, trivial⟩ rfl rfl (.cons (.of_eq rfl) (.cons (.of_eq rfl) .nil)) (slab_Budget_Take_ok hv _ (hH.at_ 2 rfl))) fun v218 _ τ hv218 H217 hH => ?_
                    refine wpo_bdr H217 eI rfl rfl rfl (fun v220 hv => h_callr rfl rfl (.cons (.of_eq rfl) .nil) (trouble_Of_ok hv _ (hH.gl.trans hg))) fun v220 hv220 H219 => ?_
                    refine wpo_mv (a := (eI v213.2)) rfl rfl rfl (o_mv tk rfl (Wk.refl _)) ?_
                    refine wpo_lt H219 eB rfl rfl rfl (o_ar tk rfl rfl rfl) fun v222 H221 => ?_
                    refine wpo_nil ?_
                    refine awp_if H221 rfl (fun H223 => ?_) (fun H223 => ?_)
                    · refine awp_seq ?_
                      refine awp_region rfl ?_
                      refine wpo_mv (a := (eB false)) rfl rfl rfl (o_as tk rfl (Wk.refl _)) ?_
                      refine wpo_nil ?_
                      refine awp_ret ?_
                      have e := Option.some.inj H223
                      rw [← e] at hj210
                      have H224 := (show some _ = some _ from hj210)
                      have hz := hy182 _ (inj_inr H224)
                      refine ⟨⟨_, inj_inr H224⟩, ?_⟩
                      rw [← hz] at hj178
                      have H225 := (show some _ = some _ from hj178)
                      obtain rfl := Option.some.inj H225
                      exact ⟨_, (eB false), rfl, (.of_eq rfl), .of_eq ((enc_b td4 sz4).cut _ _ _), (((hH.noT.drop n201).drop n156).drop n12)⟩
                    · refine awp_skip ?_
                      have e := Option.some.inj H223
                      exact ⟨(c215, v218.2), e.symm, (wkf_cons (.of_eq rfl) (wkf_cons (.of_eq rfl) (wkf_cons (.of_eq rfl) (wkf_cons (.of_eq rfl) (wkf_cons (.of_eq rfl) (wkf_cons (.of_eq rfl) (wkf_cons (.of_eq rfl) (wkf_nil _)))))))), hH⟩
                  · refine awp_seq ?_
                    refine awp_region rfl ?_
                    refine wpo_lt H211 eB rfl rfl rfl (o_ar tk rfl rfl rfl) fun v227 H226 => ?_
                    refine wpo_mv (a := (eB v227)) rfl rfl rfl (o_as tk rfl (Wk.refl _)) ?_
                    refine wpo_nil ?_
                    refine awp_if H226 rfl (fun H228 => ?_) (fun H228 => ?_)
                    · refine awp_seq ?_
                      refine awp_region rfl ?_
                      refine wpo_rd (a := (e_butteryref08_Budget c174)) rfl rfl rfl (h_ld tk hH 1 rfl rfl rfl) ?_
                      refine wpo_mv (a := (.ref id200 1)) rfl rfl rfl (o_c tk false rfl (fun _ => rfl)) ?_
                      refine wpo_rd (a := (eI c203.Class)) rfl rfl rfl (h_ld tk hH 0 rfl rfl rfl) ?_
                      refine wpo_bd H228 (fun r => .tup [e_butteryref08_Budget r.1, eI r.2]) rfl rfl rfl (fun v230 hv => OpP.of_call rfl rfl (.cons (.of_eq rfl) (.cons (.of_eq rfl) .nil)) (butteryref08_Give_ok hv)) fun v230 hv230 H229 => ?_
                      refine wpo_mv (a := (.tup [(e_butteryref08_Budget v230.1), (eI v230.2)])) rfl rfl rfl (o_mv tk rfl (Wk.refl _)) ?_
                      refine wpo_mv (a := (e_butteryref08_Budget v230.1)) rfl rfl rfl (o_ext tk rfl rfl) ?_
                      refine wpo_mv (a := (eI v230.2)) rfl rfl rfl (o_ext tk rfl rfl) ?_
                      obtain ⟨c232, hc233, H231⟩ := lt_ex H229
                      refine wpo_z rfl rfl (h_st tk hH 1 rfl ty61 (by simp) rfl rfl (.of_eq rfl) (b := (e_butteryref08_Budget v230.1)) (enc61.flat _) rfl (Nat.le_of_ble_eq_true rfl) (c_butteryref08_Budget c232) (by rw [← hc233]; rfl)) fun τ hH => ?_
                      refine wpo_mv (a := (eI v230.2)) rfl rfl rfl (o_as tk rfl (Wk.refl _)) ?_
                      refine wpo_nil ?_
                      refine awp_seq ?_
                      refine awp_region rfl ?_
                      refine wpo_mv (a := (.ref id11 0)) rfl rfl rfl (o_mv tk rfl (Wk.refl _)) ?_
                      refine wpo_mv (a := (.ref id200 1)) rfl rfl rfl (o_c tk false rfl (fun _ => rfl)) ?_
                      refine wpo_rd (a := (eI c203.Class)) rfl rfl rfl (h_ld tk hH 0 rfl rfl rfl) ?_
                      refine wpo_cb H231 (fun x _ => eErr x.1) rfl rfl rfl (fun v235 hv => h_call1 hH [(2, (id11, (c_slab_Budget v235.2)))] ⟨⟨_, rfl⟩, trivial⟩ rfl rfl (.cons (.of_eq rfl) (.cons (.of_eq rfl) .nil)) (slab_Budget_Give_ok hv _ (hH.at_ 2 rfl))) fun v235 _ τ hv235 H234 hH => ?_
                      refine wpo_bdr H234 eI rfl rfl rfl (fun v237 hv => h_callr rfl rfl (.cons (.of_eq rfl) .nil) (trouble_Of_ok hv _ (hH.gl.trans hg))) fun v237 hv237 H236 => ?_
                      refine wpo_mv (a := (eI v230.2)) rfl rfl rfl (o_mv tk rfl (Wk.refl _)) ?_
                      refine wpo_lt H236 eB rfl rfl rfl (o_ar tk rfl rfl rfl) fun v239 H238 => ?_
                      refine wpo_nil ?_
                      refine awp_if H238 rfl (fun H240 => ?_) (fun H240 => ?_)
                      · refine awp_seq ?_
                        refine awp_region rfl ?_
                        refine wpo_mv (a := (eB false)) rfl rfl rfl (o_as tk rfl (Wk.refl _)) ?_
                        refine wpo_nil ?_
                        refine awp_ret ?_
                        have e := Option.some.inj H240
                        rw [← e] at hj210
                        have H241 := (show some _ = some _ from hj210)
                        have hz := hy182 _ (inj_inr H241)
                        refine ⟨⟨_, inj_inr H241⟩, ?_⟩
                        rw [← hz] at hj178
                        have H242 := (show some _ = some _ from hj178)
                        obtain rfl := Option.some.inj H242
                        exact ⟨_, (eB false), rfl, (.of_eq rfl), .of_eq ((enc_b td4 sz4).cut _ _ _), (((hH.noT.drop n201).drop n156).drop n12)⟩
                      · refine awp_skip ?_
                        have e := Option.some.inj H240
                        exact ⟨(c232, v235.2), e.symm, (wkf_cons (.of_eq rfl) (wkf_cons (.of_eq rfl) (wkf_cons (.of_eq rfl) (wkf_cons (.of_eq rfl) (wkf_cons (.of_eq rfl) (wkf_cons (.of_eq rfl) (wkf_cons (.of_eq rfl) (wkf_nil _)))))))), hH⟩
                    · refine awp_seq ?_
                      refine awp_seq ?_
                      refine awp_region rfl ?_
                      refine wpo_mv (a := (.ref id200 2)) rfl rfl rfl (o_c tk false rfl (fun _ => rfl)) ?_
                      refine wpo_rd (a := (eI c203.N)) rfl rfl rfl (h_ld tk hH 0 rfl rfl rfl) ?_
                      refine wpo_lt H228 eB rfl rfl rfl (o_ar tk rfl rfl rfl) fun v244 H243 => ?_
                      refine wpo_nil ?_
                      refine awp_if H243 rfl (fun H245 => ?_) (fun H245 => ?_)
                      · refine awp_seq ?_
                        refine awp_region rfl ?_
                        refine wpo_bdr H245 eB rfl rfl rfl (fun v247 hv => h_callr rfl rfl .nil (butterylaw08_works_ok hv _ (hH.gl.trans hg))) fun v247 hv247 H246 => ?_
                        refine wpo_mv (a := (eB v247)) rfl rfl rfl (o_as tk rfl (Wk.refl _)) ?_
                        refine wpo_nil ?_
                        refine awp_ret ?_
                        have e := Option.some.inj H246
                        rw [← e] at hj210
                        have H248 := (show some _ = some _ from hj210)
                        have hz := hy182 _ (inj_inr H248)
                        refine ⟨⟨_, inj_inr H248⟩, ?_⟩
                        rw [← hz] at hj178
                        have H249 := (show some _ = some _ from hj178)
                        obtain rfl := Option.some.inj H249
                        exact ⟨_, (eB v247), rfl, (.of_eq rfl), .of_eq ((enc_b td4 sz4).cut _ _ _), (((hH.noT.drop n201).drop n156).drop n12)⟩
                      · refine awp_skip ?_
                        refine awp_seq ?_
                        refine awp_region rfl ?_
                        refine wpo_mv (a := (eI (0 : Int))) rfl rfl rfl (o_as tk rfl (Wk.refl _)) ?_
                        refine wpo_nil ?_
                        refine awp_seq ?_
                        refine awp_block ?_
                        obtain ⟨s260, hs254, hj255⟩ := Option.bind_eq_some_iff.1 H245
                        refine awp_cutx 3 (fun fr τ => WkF fr (fm [(1, ((eL 3 e_butterylaw08_Op) x1)), (2, (eI x2)), (7, (.ref id11 0)), (9, (.ref id155 0)), (10, (eI v154.2)), (11, (eI c173)), (12, (.ref id200 0)), (14, (eI s260.1))]) ∧ Holds σ [(id200, (c_butterylaw08_Op c203)), (id155, (c_butteryref08_Budget s260.2)), (id11, (c_slab_Budget c175))] [] τ) ?_ ?_
                        · rintro fr τ ⟨hfr, hH⟩
                          have H296 := hj255
                          refine AWP.fm [(1, ((eL 3 e_butterylaw08_Op) x1)), (2, (eI x2)), (7, (.ref id11 0)), (9, (.ref id155 0)), (10, (eI v154.2)), (11, (eI c173)), (12, (.ref id200 0)), (14, (eI s260.1))] hfr ?_
                          refine awp_seq ?_
                          obtain ⟨s297, hs299, hj300⟩ := Option.bind_eq_some_iff.1 H296
                          refine awp_cutn (fun fr τ => WkF fr (fm [(1, ((eL 3 e_butterylaw08_Op) x1)), (2, (eI x2)), (7, (.ref id11 0)), (9, (.ref id155 0)), (10, (eI v154.2)), (11, (eI c173)), (12, (.ref id200 0)), (137, (eB s297.1))]) ∧ Holds σ [(id200, (c_butterylaw08_Op c203)), (id155, (c_butteryref08_Budget s260.2)), (id11, (c_slab_Budget s297.2))] [] τ) ?_ ?_
                          · rintro fr τ ⟨hfr, hH⟩
                            have H365 := hj300
                            refine AWP.fm [(1, ((eL 3 e_butterylaw08_Op) x1)), (2, (eI x2)), (7, (.ref id11 0)), (9, (.ref id155 0)), (10, (eI v154.2)), (11, (eI c173)), (12, (.ref id200 0)), (137, (eB s297.1))] hfr ?_
                            refine awp_if H365 rfl (fun H366 => ?_) (fun H366 => ?_)
                            · refine awp_seq ?_
                              refine awp_region rfl ?_
                              refine wpo_mv (a := (eB false)) rfl rfl rfl (o_as tk rfl (Wk.refl _)) ?_
                              refine wpo_nil ?_
                              refine awp_ret ?_
                              have e := Option.some.inj H366
                              rw [← e] at hj210
                              have H367 := (show some _ = some _ from hj210)
                              have hz := hy182 _ (inj_inr H367)
                              refine ⟨⟨_, inj_inr H367⟩, ?_⟩
                              rw [← hz] at hj178
                              have H368 := (show some _ = some _ from hj178)
                              obtain rfl := Option.some.inj H368
                              exact ⟨_, (eB false), rfl, (.of_eq rfl), .of_eq ((enc_b td4 sz4).cut _ _ _), (((hH.noT.drop n201).drop n156).drop n12)⟩
                            · refine awp_skip ?_
                              have e := Option.some.inj H366
                              exact ⟨(s260.2, s297.2), e.symm, (wkf_cons (.of_eq rfl) (wkf_cons (.of_eq rfl) (wkf_cons (.of_eq rfl) (wkf_cons (.of_eq rfl) (wkf_cons (.of_eq rfl) (wkf_cons (.of_eq rfl) (wkf_cons (.of_eq rfl) (wkf_nil _)))))))), hH⟩
                          · refine awp_region rfl ?_
                            refine wpo_mv (a := (.ref id200 0)) rfl rfl rfl (o_c tk false rfl (fun _ => rfl)) ?_
                            refine wpo_rd (a := (eI c203.Kind)) rfl rfl rfl (h_ld tk hH 0 rfl rfl rfl) ?_
                            refine wpo_lt hs299 eB rfl rfl rfl (o_ar tk rfl rfl rfl) fun v302 H301 => ?_
                            refine wpo_mv (a := (eB v302)) rfl rfl rfl (o_mv tk rfl (Wk.refl _)) ?_
                            refine if_split H301 (fun hb H303 => ?_) (fun hb H303 => ?_)
                            · subst hb
                              refine wpo_mv (a := (.ref id11 0)) rfl rfl rfl (o_mv tk rfl (Wk.refl _)) ?_
                              refine wpo_mv (a := (.ref id200 1)) rfl rfl rfl (o_c tk false rfl (fun _ => rfl)) ?_
                              refine wpo_rd (a := (eI c203.Class)) rfl rfl rfl (h_ld tk hH 0 rfl rfl rfl) ?_
                              refine wpo_mv (a := (.ref id200 2)) rfl rfl rfl (o_c tk false rfl (fun _ => rfl)) ?_
                              refine wpo_rd (a := (eI c203.N)) rfl rfl rfl (h_ld tk hH 0 rfl rfl rfl) ?_
                              refine wpo_cb H303 (fun x _ => eI x.1) rfl rfl rfl (fun v305 hv => h_call1 hH [(2, (id11, (c_slab_Budget v305.2)))] ⟨⟨_, rfl⟩, trivial⟩ rfl rfl (.cons (.of_eq rfl) (.cons (.of_eq rfl) (.cons (.of_eq rfl) .nil))) (slab_Budget_Fill_ok hv _ (hH.at_ 2 rfl))) fun v305 _ τ hv305 H304 hH => ?_
                              refine wpo_mv (a := (eI s260.1)) rfl rfl rfl (o_mv tk rfl (Wk.refl _)) ?_
                              refine wpo_lt H304 eB rfl rfl rfl (o_ar tk rfl rfl rfl) fun v307 H306 => ?_
                              refine wpo_mv (a := (eB v307)) rfl rfl rfl (o_pick_t tk rfl rfl (Wk.refl _)) ?_
                              refine wpo_mv (a := (eB v307)) rfl rfl rfl (o_mv tk rfl (Wk.refl _)) ?_
                              refine if_split H306 (fun hb H308 => ?_) (fun hb H308 => ?_)
                              · subst hb
                                refine wpo_skip rfl rfl rfl ?_
                                refine wpo_skip rfl rfl rfl ?_
                                refine wpo_skip rfl rfl rfl ?_
                                refine wpo_skip rfl rfl rfl ?_
                                refine wpo_skip rfl rfl rfl ?_
                                refine wpo_skip rfl rfl rfl ?_
                                refine wpo_skip rfl rfl rfl ?_
                                refine wpo_skip rfl rfl rfl ?_
                                refine wpo_skip rfl rfl rfl ?_
                                refine wpo_skip rfl rfl rfl ?_
                                refine wpo_skip rfl rfl rfl ?_
                                refine wpo_skip rfl rfl rfl ?_
                                refine wpo_skip rfl rfl rfl ?_
                                refine wpo_mv (a := (eB true)) rfl rfl rfl (o_pick_t tk rfl rfl (Wk.refl _)) ?_
                                refine wpo_mv (a := (eB true)) rfl rfl rfl (o_mv tk rfl (Wk.refl _)) ?_
                                refine wpo_skip rfl rfl rfl ?_
                                refine wpo_skip rfl rfl rfl ?_
                                refine wpo_skip rfl rfl rfl ?_
                                refine wpo_skip rfl rfl rfl ?_
                                refine wpo_skip rfl rfl rfl ?_
                                refine wpo_skip rfl rfl rfl ?_
                                refine wpo_skip rfl rfl rfl ?_
                                refine wpo_skip rfl rfl rfl ?_
                                refine wpo_skip rfl rfl rfl ?_
                                refine wpo_skip rfl rfl rfl ?_
                                refine wpo_skip rfl rfl rfl ?_
                                refine wpo_skip rfl rfl rfl ?_
                                refine wpo_skip rfl rfl rfl ?_
                                refine wpo_skip rfl rfl rfl ?_
                                refine wpo_skip rfl rfl rfl ?_
                                refine wpo_skip rfl rfl rfl ?_
                                refine wpo_skip rfl rfl rfl ?_
                                refine wpo_skip rfl rfl rfl ?_
                                refine wpo_skip rfl rfl rfl ?_
                                refine wpo_mv (a := (eB true)) rfl rfl rfl (o_pick_t tk rfl rfl (Wk.refl _)) ?_
                                refine wpo_nil ?_
                                have e := Option.some.inj H308
                                subst e
                                exact ⟨(wkf_cons (.of_eq rfl) (wkf_cons (.of_eq rfl) (wkf_cons (.of_eq rfl) (wkf_cons (.of_eq rfl) (wkf_cons (.of_eq rfl) (wkf_cons (.of_eq rfl) (wkf_cons (.of_eq rfl) (wkf_cons (.of_eq rfl) (wkf_nil _))))))))), hH⟩
                              · subst hb
                                refine wpo_mv (a := (.ref id200 0)) rfl rfl rfl (o_c tk false rfl (fun _ => rfl)) ?_
                                refine wpo_rd (a := (eI c203.Kind)) rfl rfl rfl (h_ld tk hH 0 rfl rfl rfl) ?_
                                refine wpo_lt H308 eB rfl rfl rfl (o_ar tk rfl rfl rfl) fun v310 H309 => ?_
                                refine wpo_mv (a := (eB v310)) rfl rfl rfl (o_mv tk rfl (Wk.refl _)) ?_
                                refine if_split H309 (fun hb H311 => ?_) (fun hb H311 => ?_)
                                · subst hb
                                  refine wpo_mv (a := (.ref id11 0)) rfl rfl rfl (o_mv tk rfl (Wk.refl _)) ?_
                                  refine wpo_mv (a := (.ref id200 1)) rfl rfl rfl (o_c tk false rfl (fun _ => rfl)) ?_
                                  refine wpo_rd (a := (eI c203.Class)) rfl rfl rfl (h_ld tk hH 0 rfl rfl rfl) ?_
                                  refine wpo_mv (a := (.ref id200 2)) rfl rfl rfl (o_c tk false rfl (fun _ => rfl)) ?_
                                  refine wpo_rd (a := (eI c203.N)) rfl rfl rfl (h_ld tk hH 0 rfl rfl rfl) ?_
                                  refine wpo_cb H311 (fun x _ => eI x.1) rfl rfl rfl (fun v313 hv => h_call1 hH [(2, (id11, (c_slab_Budget v313.2)))] ⟨⟨_, rfl⟩, trivial⟩ rfl rfl (.cons (.of_eq rfl) (.cons (.of_eq rfl) (.cons (.of_eq rfl) .nil))) (slab_Budget_Drain_ok hv _ (hH.at_ 2 rfl))) fun v313 _ τ hv313 H312 hH => ?_
                                  refine wpo_mv (a := (eI s260.1)) rfl rfl rfl (o_mv tk rfl (Wk.refl _)) ?_
                                  refine wpo_lt H312 eB rfl rfl rfl (o_ar tk rfl rfl rfl) fun v315 H314 => ?_
                                  refine wpo_mv (a := (eB v315)) rfl rfl rfl (o_pick_t tk rfl rfl (Wk.refl _)) ?_
                                  refine wpo_mv (a := (eB v315)) rfl rfl rfl (o_pick_f tk rfl rfl (Wk.refl _)) ?_
                                  refine wpo_mv (a := (eB v315)) rfl rfl rfl (o_mv tk rfl (Wk.refl _)) ?_
                                  refine if_split H314 (fun hb H316 => ?_) (fun hb H316 => ?_)
                                  · subst hb
                                    refine wpo_skip rfl rfl rfl ?_
                                    refine wpo_skip rfl rfl rfl ?_
                                    refine wpo_skip rfl rfl rfl ?_
                                    refine wpo_skip rfl rfl rfl ?_
                                    refine wpo_skip rfl rfl rfl ?_
                                    refine wpo_skip rfl rfl rfl ?_
                                    refine wpo_skip rfl rfl rfl ?_
                                    refine wpo_skip rfl rfl rfl ?_
                                    refine wpo_skip rfl rfl rfl ?_
                                    refine wpo_skip rfl rfl rfl ?_
                                    refine wpo_skip rfl rfl rfl ?_
                                    refine wpo_skip rfl rfl rfl ?_
                                    refine wpo_skip rfl rfl rfl ?_
                                    refine wpo_skip rfl rfl rfl ?_
                                    refine wpo_skip rfl rfl rfl ?_
                                    refine wpo_skip rfl rfl rfl ?_
                                    refine wpo_skip rfl rfl rfl ?_
                                    refine wpo_skip rfl rfl rfl ?_
                                    refine wpo_skip rfl rfl rfl ?_
                                    refine wpo_mv (a := (eB true)) rfl rfl rfl (o_pick_t tk rfl rfl (Wk.refl _)) ?_
                                    refine wpo_nil ?_
                                    have e := Option.some.inj H316
                                    subst e
                                    exact ⟨(wkf_cons (.of_eq rfl) (wkf_cons (.of_eq rfl) (wkf_cons (.of_eq rfl) (wkf_cons (.of_eq rfl) (wkf_cons (.of_eq rfl) (wkf_cons (.of_eq rfl) (wkf_cons (.of_eq rfl) (wkf_cons (.of_eq rfl) (wkf_nil _))))))))), hH⟩
                                  · subst hb
                                    refine wpo_mv (a := (.ref id200 0)) rfl rfl rfl (o_c tk false rfl (fun _ => rfl)) ?_
                                    refine wpo_rd (a := (eI c203.Kind)) rfl rfl rfl (h_ld tk hH 0 rfl rfl rfl) ?_
                                    refine wpo_lt H316 eB rfl rfl rfl (o_ar tk rfl rfl rfl) fun v318 H317 => ?_
                                    refine wpo_mv (a := (eB v318)) rfl rfl rfl (o_mv tk rfl (Wk.refl _)) ?_
                                    refine if_split H317 (fun hb H319 => ?_) (fun hb H319 => ?_)
                                    · subst hb
                                      refine wpo_mv (a := (.ref id200 0)) rfl rfl rfl (o_c tk false rfl (fun _ => rfl)) ?_
                                      refine wpo_rd (a := (eI c203.Kind)) rfl rfl rfl (h_ld tk hH 0 rfl rfl rfl) ?_
                                      refine wpo_lt H319 eB rfl rfl rfl (o_ar tk rfl rfl rfl) fun v321 H320 => ?_
                                      refine wpo_mv (a := (eB v321)) rfl rfl rfl (o_pick_t tk rfl rfl (Wk.refl _)) ?_
                                      refine wpo_mv (a := (eB v321)) rfl rfl rfl (o_mv tk rfl (Wk.refl _)) ?_
                                      refine if_split H320 (fun hb H322 => ?_) (fun hb H322 => ?_)
                                      · subst hb
                                        refine wpo_mv (a := (.ref id200 2)) rfl rfl rfl (o_c tk false rfl (fun _ => rfl)) ?_
                                        refine wpo_rd (a := (eI c203.N)) rfl rfl rfl (h_ld tk hH 0 rfl rfl rfl) ?_
                                        refine wpo_mv (a := (.ref id200 1)) rfl rfl rfl (o_c tk false rfl (fun _ => rfl)) ?_
                                        refine wpo_rd (a := (eI c203.Class)) rfl rfl rfl (h_ld tk hH 0 rfl rfl rfl) ?_
                                        refine wpo_mv (a := (.ref id11 0)) rfl rfl rfl (o_mv tk rfl (Wk.refl _)) ?_
                                        refine wpo_mv (a := (.fn (.func 17) [(.ref id11 0)] [])) rfl rfl rfl (o_c tk false rfl (fun _ => rfl)) ?_
                                        refine wpo_cb H322 (fun x _ => eI x.1) rfl rfl rfl (fun v324 hv => h_call1 hH [(2, (id11, (c_slab_Budget v324.2)))] ⟨⟨_, rfl⟩, trivial⟩ rfl rfl (.cons (.of_eq rfl) (.cons (.of_eq rfl) (.cons (.of_eq rfl) .nil))) (slab_Many_slab_Budget_Give_ok hv _ (hH.at_ 2 rfl))) fun v324 _ τ hv324 H323 hH => ?_
                                        refine wpo_mv (a := (eI s260.1)) rfl rfl rfl (o_mv tk rfl (Wk.refl _)) ?_
                                        refine wpo_lt H323 eB rfl rfl rfl (o_ar tk rfl rfl rfl) fun v326 H325 => ?_
                                        refine wpo_mv (a := (eB v326)) rfl rfl rfl (o_pick_t tk rfl rfl (Wk.refl _)) ?_
                                        refine wpo_mv (a := (eB v326)) rfl rfl rfl (o_pick_f tk rfl rfl (Wk.refl _)) ?_
                                        refine wpo_nil ?_
                                        have e := Option.some.inj H325
                                        subst e
                                        exact ⟨(wkf_cons (.of_eq rfl) (wkf_cons (.of_eq rfl) (wkf_cons (.of_eq rfl) (wkf_cons (.of_eq rfl) (wkf_cons (.of_eq rfl) (wkf_cons (.of_eq rfl) (wkf_cons (.of_eq rfl) (wkf_cons (.of_eq rfl) (wkf_nil _))))))))), hH⟩
                                      · subst hb
                                        refine wpo_skip rfl rfl rfl ?_
                                        refine wpo_skip rfl rfl rfl ?_
                                        refine wpo_skip rfl rfl rfl ?_
                                        refine wpo_skip rfl rfl rfl ?_
                                        refine wpo_skip rfl rfl rfl ?_
                                        refine wpo_skip rfl rfl rfl ?_
                                        refine wpo_skip rfl rfl rfl ?_
                                        refine wpo_skip rfl rfl rfl ?_
                                        refine wpo_skip rfl rfl rfl ?_
                                        refine wpo_mv (a := (eB false)) rfl rfl rfl (o_pick_f tk rfl rfl (Wk.refl _)) ?_
                                        refine wpo_mv (a := (eB false)) rfl rfl rfl (o_pick_f tk rfl rfl (Wk.refl _)) ?_
                                        refine wpo_nil ?_
                                        have e := Option.some.inj H322
                                        subst e
                                        exact ⟨(wkf_cons (.of_eq rfl) (wkf_cons (.of_eq rfl) (wkf_cons (.of_eq rfl) (wkf_cons (.of_eq rfl) (wkf_cons (.of_eq rfl) (wkf_cons (.of_eq rfl) (wkf_cons (.of_eq rfl) (wkf_cons (.of_eq rfl) (wkf_nil _))))))))), hH⟩
                                    · subst hb
                                      refine wpo_skip rfl rfl rfl ?_
                                      refine wpo_skip rfl rfl rfl ?_
                                      refine wpo_skip rfl rfl rfl ?_
                                      refine wpo_mv (a := (eB false)) rfl rfl rfl (o_pick_f tk rfl rfl (Wk.refl _)) ?_
                                      refine wpo_mv (a := (eB false)) rfl rfl rfl (o_mv tk rfl (Wk.refl _)) ?_
                                      refine wpo_skip rfl rfl rfl ?_
                                      refine wpo_skip rfl rfl rfl ?_
                                      refine wpo_skip rfl rfl rfl ?_
                                      refine wpo_skip rfl rfl rfl ?_
                                      refine wpo_skip rfl rfl rfl ?_
                                      refine wpo_skip rfl rfl rfl ?_
                                      refine wpo_skip rfl rfl rfl ?_
                                      refine wpo_skip rfl rfl rfl ?_
                                      refine wpo_skip rfl rfl rfl ?_
                                      refine wpo_mv (a := (eB false)) rfl rfl rfl (o_pick_f tk rfl rfl (Wk.refl _)) ?_
                                      refine wpo_mv (a := (eB false)) rfl rfl rfl (o_pick_f tk rfl rfl (Wk.refl _)) ?_
                                      refine wpo_nil ?_
                                      have e := Option.some.inj H319
                                      subst e
                                      exact ⟨(wkf_cons (.of_eq rfl) (wkf_cons (.of_eq rfl) (wkf_cons (.of_eq rfl) (wkf_cons (.of_eq rfl) (wkf_cons (.of_eq rfl) (wkf_cons (.of_eq rfl) (wkf_cons (.of_eq rfl) (wkf_cons (.of_eq rfl) (wkf_nil _))))))))), hH⟩
                                · subst hb
                                  refine wpo_skip rfl rfl rfl ?_
                                  refine wpo_skip rfl rfl rfl ?_
                                  refine wpo_skip rfl rfl rfl ?_
                                  refine wpo_skip rfl rfl rfl ?_
                                  refine wpo_skip rfl rfl rfl ?_
                                  refine wpo_skip rfl rfl rfl ?_
                                  refine wpo_skip rfl rfl rfl ?_
                                  refine wpo_skip rfl rfl rfl ?_
                                  refine wpo_mv (a := (eB false)) rfl rfl rfl (o_pick_f tk rfl rfl (Wk.refl _)) ?_
                                  refine wpo_mv (a := (eB false)) rfl rfl rfl (o_pick_f tk rfl rfl (Wk.refl _)) ?_
                                  refine wpo_mv (a := (eB false)) rfl rfl rfl (o_mv tk rfl (Wk.refl _)) ?_
                                  refine wpo_mv (a := (.ref id200 0)) rfl rfl rfl (o_c tk false rfl (fun _ => rfl)) ?_
                                  refine wpo_rd (a := (eI c203.Kind)) rfl rfl rfl (h_ld tk hH 0 rfl rfl rfl) ?_
                                  refine wpo_lt H311 eB rfl rfl rfl (o_ar tk rfl rfl rfl) fun v328 H327 => ?_
                                  refine wpo_mv (a := (eB v328)) rfl rfl rfl (o_mv tk rfl (Wk.refl _)) ?_
                                  refine if_split H327 (fun hb H329 => ?_) (fun hb H329 => ?_)
                                  · subst hb
                                    refine wpo_mv (a := (.ref id200 0)) rfl rfl rfl (o_c tk false rfl (fun _ => rfl)) ?_
                                    refine wpo_rd (a := (eI c203.Kind)) rfl rfl rfl (h_ld tk hH 0 rfl rfl rfl) ?_
                                    refine wpo_lt H329 eB rfl rfl rfl (o_ar tk rfl rfl rfl) fun v331 H330 => ?_
                                    refine wpo_mv (a := (eB v331)) rfl rfl rfl (o_pick_t tk rfl rfl (Wk.refl _)) ?_
                                    refine wpo_mv (a := (eB v331)) rfl rfl rfl (o_mv tk rfl (Wk.refl _)) ?_
                                    refine if_split H330 (fun hb H332 => ?_) (fun hb H332 => ?_)
                                    · subst hb
                                      refine wpo_mv (a := (.ref id200 2)) rfl rfl rfl (o_c tk false rfl (fun _ => rfl)) ?_
                                      refine wpo_rd (a := (eI c203.N)) rfl rfl rfl (h_ld tk hH 0 rfl rfl rfl) ?_
                                      refine wpo_mv (a := (.ref id200 1)) rfl rfl rfl (o_c tk false rfl (fun _ => rfl)) ?_
                                      refine wpo_rd (a := (eI c203.Class)) rfl rfl rfl (h_ld tk hH 0 rfl rfl rfl) ?_
                                      refine wpo_mv (a := (.ref id11 0)) rfl rfl rfl (o_mv tk rfl (Wk.refl _)) ?_
                                      refine wpo_mv (a := (.fn (.func 17) [(.ref id11 0)] [])) rfl rfl rfl (o_c tk false rfl (fun _ => rfl)) ?_
                                      refine wpo_cb H332 (fun x _ => eI x.1) rfl rfl rfl (fun v334 hv => h_call1 hH [(2, (id11, (c_slab_Budget v334.2)))] ⟨⟨_, rfl⟩, trivial⟩ rfl rfl (.cons (.of_eq rfl) (.cons (.of_eq rfl) (.cons (.of_eq rfl) .nil))) (slab_Many_slab_Budget_Give_ok hv _ (hH.at_ 2 rfl))) fun v334 _ τ hv334 H333 hH => ?_
                                      refine wpo_mv (a := (eI s260.1)) rfl rfl rfl (o_mv tk rfl (Wk.refl _)) ?_
                                      refine wpo_lt H333 eB rfl rfl rfl (o_ar tk rfl rfl rfl) fun v336 H335 => ?_
                                      refine wpo_mv (a := (eB v336)) rfl rfl rfl (o_pick_t tk rfl rfl (Wk.refl _)) ?_
                                      refine wpo_mv (a := (eB v336)) rfl rfl rfl (o_pick_f tk rfl rfl (Wk.refl _)) ?_
                                      refine wpo_nil ?_
                                      have e := Option.some.inj H335
                                      subst e
                                      exact ⟨(wkf_cons (.of_eq rfl) (wkf_cons (.of_eq rfl) (wkf_cons (.of_eq rfl) (wkf_cons (.of_eq rfl) (wkf_cons (.of_eq rfl) (wkf_cons (.of_eq rfl) (wkf_cons (.of_eq rfl) (wkf_cons (.of_eq rfl) (wkf_nil _))))))))), hH⟩
                                    · subst hb
                                      refine wpo_skip rfl rfl rfl ?_
                                      refine wpo_skip rfl rfl rfl ?_
                                      refine wpo_skip rfl rfl rfl ?_
                                      refine wpo_skip rfl rfl rfl ?_
                                      refine wpo_skip rfl rfl rfl ?_
                                      refine wpo_skip rfl rfl rfl ?_
                                      refine wpo_skip rfl rfl rfl ?_
                                      refine wpo_skip rfl rfl rfl ?_
                                      refine wpo_skip rfl rfl rfl ?_
                                      refine wpo_mv (a := (eB false)) rfl rfl rfl (o_pick_f tk rfl rfl (Wk.refl _)) ?_
                                      refine wpo_mv (a := (eB false)) rfl rfl rfl (o_pick_f tk rfl rfl (Wk.refl _)) ?_
                                      refine wpo_nil ?_
                                      have e := Option.some.inj H332
                                      subst e
                                      exact ⟨(wkf_cons (.of_eq rfl) (wkf_cons (.of_eq rfl) (wkf_cons (.of_eq rfl) (wkf_cons (.of_eq rfl) (wkf_cons (.of_eq rfl) (wkf_cons (.of_eq rfl) (wkf_cons (.of_eq rfl) (wkf_cons (.of_eq rfl) (wkf_nil _))))))))), hH⟩
                                  · subst hb
                                    refine wpo_skip rfl rfl rfl ?_
                                    refine wpo_skip rfl rfl rfl ?_
                                    refine wpo_skip rfl rfl rfl ?_
                                    refine wpo_mv (a := (eB false)) rfl rfl rfl (o_pick_f tk rfl rfl (Wk.refl _)) ?_
                                    refine wpo_mv (a := (eB false)) rfl rfl rfl (o_mv tk rfl (Wk.refl _)) ?_
                                    refine wpo_skip rfl rfl rfl ?_
                                    refine wpo_skip rfl rfl rfl ?_
                                    refine wpo_skip rfl rfl rfl ?_
                                    refine wpo_skip rfl rfl rfl ?_
                                    refine wpo_skip rfl rfl rfl ?_
                                    refine wpo_skip rfl rfl rfl ?_
                                    refine wpo_skip rfl rfl rfl ?_
                                    refine wpo_skip rfl rfl rfl ?_
                                    refine wpo_skip rfl rfl rfl ?_
                                    refine wpo_mv (a := (eB false)) rfl rfl rfl (o_pick_f tk rfl rfl (Wk.refl _)) ?_
                                    refine wpo_mv (a := (eB false)) rfl rfl rfl (o_pick_f tk rfl rfl (Wk.refl _)) ?_
                                    refine wpo_nil ?_
                                    have e := Option.some.inj H329
                                    subst e
                                    exact ⟨(wkf_cons (.of_eq rfl) (wkf_cons (.of_eq rfl) (wkf_cons (.of_eq rfl) (wkf_cons (.of_eq rfl) (wkf_cons (.of_eq rfl) (wkf_cons (.of_eq rfl) (wkf_cons (.of_eq rfl) (wkf_cons (.of_eq rfl) (wkf_nil _))))))))), hH⟩
                            · subst hb
                              refine wpo_skip rfl rfl rfl ?_
                              refine wpo_skip rfl rfl rfl ?_
                              refine wpo_skip rfl rfl rfl ?_
                              refine wpo_skip rfl rfl rfl ?_
                              refine wpo_skip rfl rfl rfl ?_
                              refine wpo_skip rfl rfl rfl ?_
                              refine wpo_skip rfl rfl rfl ?_
                              refine wpo_skip rfl rfl rfl ?_
                              refine wpo_mv (a := (eB false)) rfl rfl rfl (o_pick_f tk rfl rfl (Wk.refl _)) ?_
                              refine wpo_mv (a := (eB false)) rfl rfl rfl (o_mv tk rfl (Wk.refl _)) ?_
                              refine wpo_mv (a := (.ref id200 0)) rfl rfl rfl (o_c tk false rfl (fun _ => rfl)) ?_
                              refine wpo_rd (a := (eI c203.Kind)) rfl rfl rfl (h_ld tk hH 0 rfl rfl rfl) ?_
                              refine wpo_lt H303 eB rfl rfl rfl (o_ar tk rfl rfl rfl) fun v338 H337 => ?_
                              refine wpo_mv (a := (eB v338)) rfl rfl rfl (o_mv tk rfl (Wk.refl _)) ?_
                              refine if_split H337 (fun hb H339 => ?_) (fun hb H339 => ?_)
                              · subst hb
                                refine wpo_mv (a := (.ref id11 0)) rfl rfl rfl (o_mv tk rfl (Wk.refl _)) ?_
                                refine wpo_mv (a := (.ref id200 1)) rfl rfl rfl (o_c tk false rfl (fun _ => rfl)) ?_
                                refine wpo_rd (a := (eI c203.Class)) rfl rfl rfl (h_ld tk hH 0 rfl rfl rfl) ?_
                                refine wpo_mv (a := (.ref id200 2)) rfl rfl rfl (o_c tk false rfl (fun _ => rfl)) ?_
                                refine wpo_rd (a := (eI c203.N)) rfl rfl rfl (h_ld tk hH 0 rfl rfl rfl) ?_
                                refine wpo_cb H339 (fun x _ => eI x.1) rfl rfl rfl (fun v341 hv => h_call1 hH [(2, (id11, (c_slab_Budget v341.2)))] ⟨⟨_, rfl⟩, trivial⟩ rfl rfl (.cons (.of_eq rfl) (.cons (.of_eq rfl) (.cons (.of_eq rfl) .nil))) (slab_Budget_Drain_ok hv _ (hH.at_ 2 rfl))) fun v341 _ τ hv341 H340 hH => ?_
                                refine wpo_mv (a := (eI s260.1)) rfl rfl rfl (o_mv tk rfl (Wk.refl _)) ?_
                                refine wpo_lt H340 eB rfl rfl rfl (o_ar tk rfl rfl rfl) fun v343 H342 => ?_
                                refine wpo_mv (a := (eB v343)) rfl rfl rfl (o_pick_t tk rfl rfl (Wk.refl _)) ?_
                                refine wpo_mv (a := (eB v343)) rfl rfl rfl (o_pick_f tk rfl rfl (Wk.refl _)) ?_
                                refine wpo_mv (a := (eB v343)) rfl rfl rfl (o_mv tk rfl (Wk.refl _)) ?_
                                refine if_split H342 (fun hb H344 => ?_) (fun hb H344 => ?_)
                                · subst hb
                                  refine wpo_skip rfl rfl rfl ?_
                                  refine wpo_skip rfl rfl rfl ?_
                                  refine wpo_skip rfl rfl rfl ?_
                                  refine wpo_skip rfl rfl rfl ?_
                                  refine wpo_skip rfl rfl rfl ?_
                                  refine wpo_skip rfl rfl rfl ?_
                                  refine wpo_skip rfl rfl rfl ?_
                                  refine wpo_skip rfl rfl rfl ?_
                                  refine wpo_skip rfl rfl rfl ?_
                                  refine wpo_skip rfl rfl rfl ?_
                                  refine wpo_skip rfl rfl rfl ?_
                                  refine wpo_skip rfl rfl rfl ?_
                                  refine wpo_skip rfl rfl rfl ?_
                                  refine wpo_skip rfl rfl rfl ?_
                                  refine wpo_skip rfl rfl rfl ?_
                                  refine wpo_skip rfl rfl rfl ?_
                                  refine wpo_skip rfl rfl rfl ?_
                                  refine wpo_skip rfl rfl rfl ?_
                                  refine wpo_skip rfl rfl rfl ?_
                                  refine wpo_mv (a := (eB true)) rfl rfl rfl (o_pick_t tk rfl rfl (Wk.refl _)) ?_
                                  refine wpo_nil ?_
                                  have e := Option.some.inj H344
                                  subst e
                                  exact ⟨(wkf_cons (.of_eq rfl) (wkf_cons (.of_eq rfl) (wkf_cons (.of_eq rfl) (wkf_cons (.of_eq rfl) (wkf_cons (.of_eq rfl) (wkf_cons (.of_eq rfl) (wkf_cons (.of_eq rfl) (wkf_cons (.of_eq rfl) (wkf_nil _))))))))), hH⟩
                                · subst hb
                                  refine wpo_mv (a := (.ref id200 0)) rfl rfl rfl (o_c tk false rfl (fun _ => rfl)) ?_
                                  refine wpo_rd (a := (eI c203.Kind)) rfl rfl rfl (h_ld tk hH 0 rfl rfl rfl) ?_
                                  refine wpo_lt H344 eB rfl rfl rfl (o_ar tk rfl rfl rfl) fun v346 H345 => ?_
                                  refine wpo_mv (a := (eB v346)) rfl rfl rfl (o_mv tk rfl (Wk.refl _)) ?_
                                  refine if_split H345 (fun hb H347 => ?_) (fun hb H347 => ?_)
                                  · subst hb
                                    refine wpo_mv (a := (.ref id200 0)) rfl rfl rfl (o_c tk false rfl (fun _ => rfl)) ?_
                                    refine wpo_rd (a := (eI c203.Kind)) rfl rfl rfl (h_ld tk hH 0 rfl rfl rfl) ?_
                                    refine wpo_lt H347 eB rfl rfl rfl (o_ar tk rfl rfl rfl) fun v349 H348 => ?_
                                    refine wpo_mv (a := (eB v349)) rfl rfl rfl (o_pick_t tk rfl rfl (Wk.refl _)) ?_
                                    refine wpo_mv (a := (eB v349)) rfl rfl rfl (o_mv tk rfl (Wk.refl _)) ?_
                                    refine if_split H348 (fun hb H350 => ?_) (fun hb H350 => ?_)
                                    · subst hb
                                      refine wpo_mv (a := (.ref id200 2)) rfl rfl rfl (o_c tk false rfl (fun _ => rfl)) ?_
                                      refine wpo_rd (a := (eI c203.N)) rfl rfl rfl (h_ld tk hH 0 rfl rfl rfl) ?_
                                      refine wpo_mv (a := (.ref id200 1)) rfl rfl rfl (o_c tk false rfl (fun _ => rfl)) ?_
                                      refine wpo_rd (a := (eI c203.Class)) rfl rfl rfl (h_ld tk hH 0 rfl rfl rfl) ?_
                                      refine wpo_mv (a := (.ref id11 0)) rfl rfl rfl (o_mv tk rfl (Wk.refl _)) ?_
                                      refine wpo_mv (a := (.fn (.func 17) [(.ref id11 0)] [])) rfl rfl rfl (o_c tk false rfl (fun _ => rfl)) ?_
                                      refine wpo_cb H350 (fun x _ => eI x.1) rfl rfl rfl (fun v352 hv => h_call1 hH [(2, (id11, (c_slab_Budget v352.2)))] ⟨⟨_, rfl⟩, trivial⟩ rfl rfl (.cons (.of_eq rfl) (.cons (.of_eq rfl) (.cons (.of_eq rfl) .nil))) (slab_Many_slab_Budget_Give_ok hv _ (hH.at_ 2 rfl))) fun v352 _ τ hv352 H351 hH => ?_
                                      refine wpo_mv (a := (eI s260.1)) rfl rfl rfl (o_mv tk rfl (Wk.refl _)) ?_
                                      refine wpo_lt H351 eB rfl rfl rfl (o_ar tk rfl rfl rfl) fun v354 H353 => ?_
                                      refine wpo_mv (a := (eB v354)) rfl rfl rfl (o_pick_t tk rfl rfl (Wk.refl _)) ?_
                                      refine wpo_mv (a := (eB v354)) rfl rfl rfl (o_pick_f tk rfl rfl (Wk.refl _)) ?_
                                      refine wpo_nil ?_
                                      have e := Option.some.inj H353
                                      subst e
                                      exact ⟨(wkf_cons (.of_eq rfl) (wkf_cons (.of_eq rfl) (wkf_cons (.of_eq rfl) (wkf_cons (.of_eq rfl) (wkf_cons (.of_eq rfl) (wkf_cons (.of_eq rfl) (wkf_cons (.of_eq rfl) (wkf_cons (.of_eq rfl) (wkf_nil _))))))))), hH⟩
                                    · subst hb
                                      refine wpo_skip rfl rfl rfl ?_
                                      refine wpo_skip rfl rfl rfl ?_
                                      refine wpo_skip rfl rfl rfl ?_
                                      refine wpo_skip rfl rfl rfl ?_
                                      refine wpo_skip rfl rfl rfl ?_
                                      refine wpo_skip rfl rfl rfl ?_
                                      refine wpo_skip rfl rfl rfl ?_
                                      refine wpo_skip rfl rfl rfl ?_
                                      refine wpo_skip rfl rfl rfl ?_
                                      refine wpo_mv (a := (eB false)) rfl rfl rfl (o_pick_f tk rfl rfl (Wk.refl _)) ?_
                                      refine wpo_mv (a := (eB false)) rfl rfl rfl (o_pick_f tk rfl rfl (Wk.refl _)) ?_
                                      refine wpo_nil ?_
                                      have e := Option.some.inj H350
                                      subst e
                                      exact ⟨(wkf_cons (.of_eq rfl) (wkf_cons (.of_eq rfl) (wkf_cons (.of_eq rfl) (wkf_cons (.of_eq rfl) (wkf_cons (.of_eq rfl) (wkf_cons (.of_eq rfl) (wkf_cons (.of_eq rfl) (wkf_cons (.of_eq rfl) (wkf_nil _))))))))), hH⟩
                                  · subst hb
                                    refine wpo_skip rfl rfl rfl ?_
                                    refine wpo_skip rfl rfl rfl ?_
                                    refine wpo_skip rfl rfl rfl ?_
                                    refine wpo_mv (a := (eB false)) rfl rfl rfl (o_pick_f tk rfl rfl (Wk.refl _)) ?_
                                    refine wpo_mv (a := (eB false)) rfl rfl rfl (o_mv tk rfl (Wk.refl _)) ?_
                                    refine wpo_skip rfl rfl rfl ?_
                                    refine wpo_skip rfl rfl rfl ?_
                                    refine wpo_skip rfl rfl rfl ?_
                                    refine wpo_skip rfl rfl rfl ?_
                                    refine wpo_skip rfl rfl rfl ?_
                                    refine wpo_skip rfl rfl rfl ?_
                                    refine wpo_skip rfl rfl rfl ?_
                                    refine wpo_skip rfl rfl rfl ?_
                                    refine wpo_skip rfl rfl rfl ?_
                                    refine wpo_mv (a := (eB false)) rfl rfl rfl (o_pick_f tk rfl rfl (Wk.refl _)) ?_
                                    refine wpo_mv (a := (eB false)) rfl rfl rfl (o_pick_f tk rfl rfl (Wk.refl _)) ?_
                                    refine wpo_nil ?_
                                    have e := Option.some.inj H347
                                    subst e
                                    exact ⟨(wkf_cons (.of_eq rfl) (wkf_cons (.of_eq rfl) (wkf_cons (.of_eq rfl) (wkf_cons (.of_eq rfl) (wkf_cons (.of_eq rfl) (wkf_cons (.of_eq rfl) (wkf_cons (.of_eq rfl) (wkf_cons (.of_eq rfl) (wkf_nil _))))))))), hH⟩
                              · subst hb
                                refine wpo_skip rfl rfl rfl ?_
                                refine wpo_skip rfl rfl rfl ?_
                                refine wpo_skip rfl rfl rfl ?_
                                refine wpo_skip rfl rfl rfl ?_
                                refine wpo_skip rfl rfl rfl ?_
                                refine wpo_skip rfl rfl rfl ?_
                                refine wpo_skip rfl rfl rfl ?_
                                refine wpo_skip rfl rfl rfl ?_
                                refine wpo_mv (a := (eB false)) rfl rfl rfl (o_pick_f tk rfl rfl (Wk.refl _)) ?_
                                refine wpo_mv (a := (eB false)) rfl rfl rfl (o_pick_f tk rfl rfl (Wk.refl _)) ?_
                                refine wpo_mv (a := (eB false)) rfl rfl rfl (o_mv tk rfl (Wk.refl _)) ?_
                                refine wpo_mv (a := (.ref id200 0)) rfl rfl rfl (o_c tk false rfl (fun _ => rfl)) ?_
                                refine wpo_rd (a := (eI c203.Kind)) rfl rfl rfl (h_ld tk hH 0 rfl rfl rfl) ?_
                                refine wpo_lt H339 eB rfl rfl rfl (o_ar tk rfl rfl rfl) fun v356 H355 => ?_
                                refine wpo_mv (a := (eB v356)) rfl rfl rfl (o_mv tk rfl (Wk.refl _)) ?_
                                refine if_split H355 (fun hb H357 => ?_) (fun hb H357 => ?_)
                                · subst hb
                                  refine wpo_mv (a := (.ref id200 0)) rfl rfl rfl (o_c tk false rfl (fun _ => rfl)) ?_
                                  refine wpo_rd (a := (eI c203.Kind)) rfl rfl rfl (h_ld tk hH 0 rfl rfl rfl) ?_
                                  refine wpo_lt H357 eB rfl rfl rfl (o_ar tk rfl rfl rfl) fun v359 H358 => ?_
                                  refine wpo_mv (a := (eB v359)) rfl rfl rfl (o_pick_t tk rfl rfl (Wk.refl _)) ?_
                                  refine wpo_mv (a := (eB v359)) rfl rfl rfl (o_mv tk rfl (Wk.refl _)) ?_
                                  refine if_split H358 (fun hb H360 => ?_) (fun hb H360 => ?_)
                                  · subst hb
                                    refine wpo_mv (a := (.ref id200 2)) rfl rfl rfl (o_c tk false rfl (fun _ => rfl)) ?_
                                    refine wpo_rd (a := (eI c203.N)) rfl rfl rfl (h_ld tk hH 0 rfl rfl rfl) ?_
                                    refine wpo_mv (a := (.ref id200 1)) rfl rfl rfl (o_c tk false rfl (fun _ => rfl)) ?_
                                    refine wpo_rd (a := (eI c203.Class)) rfl rfl rfl (h_ld tk hH 0 rfl rfl rfl) ?_
                                    refine wpo_mv (a := (.ref id11 0)) rfl rfl rfl (o_mv tk rfl (Wk.refl _)) ?_
                                    refine wpo_mv (a := (.fn (.func 17) [(.ref id11 0)] [])) rfl rfl rfl (o_c tk false rfl (fun _ => rfl)) ?_
                                    refine wpo_cb H360 (fun x _ => eI x.1) rfl rfl rfl (fun v362 hv => h_call1 hH [(2, (id11, (c_slab_Budget v362.2)))] ⟨⟨_, rfl⟩, trivial⟩ rfl rfl (.cons (.of_eq rfl) (.cons (.of_eq rfl) (.cons (.of_eq rfl) .nil))) (slab_Many_slab_Budget_Give_ok hv _ (hH.at_ 2 rfl))) fun v362 _ τ hv362 H361 hH => ?_
                                    refine wpo_mv (a := (eI s260.1)) rfl rfl rfl (o_mv tk rfl (Wk.refl _)) ?_
                                    refine wpo_lt H361 eB rfl rfl rfl (o_ar tk rfl rfl rfl) fun v364 H363 => ?_
                                    refine wpo_mv (a := (eB v364)) rfl rfl rfl (o_pick_t tk rfl rfl (Wk.refl _)) ?_
                                    refine wpo_mv (a := (eB v364)) rfl rfl rfl (o_pick_f tk rfl rfl (Wk.refl _)) ?_
                                    refine wpo_nil ?_
                                    have e := Option.some.inj H363
                                    subst e
                                    exact ⟨(wkf_cons (.of_eq rfl) (wkf_cons (.of_eq rfl) (wkf_cons (.of_eq rfl) (wkf_cons (.of_eq rfl) (wkf_cons (.of_eq rfl) (wkf_cons (.of_eq rfl) (wkf_cons (.of_eq rfl) (wkf_cons (.of_eq rfl) (wkf_nil _))))))))), hH⟩
                                  · subst hb
                                    refine wpo_skip rfl rfl rfl ?_
                                    refine wpo_skip rfl rfl rfl ?_
                                    refine wpo_skip rfl rfl rfl ?_
                                    refine wpo_skip rfl rfl rfl ?_
                                    refine wpo_skip rfl rfl rfl ?_
                                    refine wpo_skip rfl rfl rfl ?_
                                    refine wpo_skip rfl rfl rfl ?_
                                    refine wpo_skip rfl rfl rfl ?_
                                    refine wpo_skip rfl rfl rfl ?_
                                    refine wpo_mv (a := (eB false)) rfl rfl rfl (o_pick_f tk rfl rfl (Wk.refl _)) ?_
                                    refine wpo_mv (a := (eB false)) rfl rfl rfl (o_pick_f tk rfl rfl (Wk.refl _)) ?_
                                    refine wpo_nil ?_
                                    have e := Option.some.inj H360
                                    subst e
                                    exact ⟨(wkf_cons (.of_eq rfl) (wkf_cons (.of_eq rfl) (wkf_cons (.of_eq rfl) (wkf_cons (.of_eq rfl) (wkf_cons (.of_eq rfl) (wkf_cons (.of_eq rfl) (wkf_cons (.of_eq rfl) (wkf_cons (.of_eq rfl) (wkf_nil _))))))))), hH⟩
                                · subst hb
                                  refine wpo_skip rfl rfl rfl ?_
                                  refine wpo_skip rfl rfl rfl ?_
                                  refine wpo_skip rfl rfl rfl ?_
                                  refine wpo_mv (a := (eB false)) rfl rfl rfl (o_pick_f tk rfl rfl (Wk.refl _)) ?_
                                  refine wpo_mv (a := (eB false)) rfl rfl rfl (o_mv tk rfl (Wk.refl _)) ?_
                                  refine wpo_skip rfl rfl rfl ?_
                                  refine wpo_skip rfl rfl rfl ?_
                                  refine wpo_skip rfl rfl rfl ?_
                                  refine wpo_skip rfl rfl rfl ?_
                                  refine wpo_skip rfl rfl rfl ?_
                                  refine wpo_skip rfl rfl rfl ?_
                                  refine wpo_skip rfl rfl rfl ?_
                                  refine wpo_skip rfl rfl rfl ?_
                                  refine wpo_skip rfl rfl rfl ?_
                                  refine wpo_mv (a := (eB false)) rfl rfl rfl (o_pick_f tk rfl rfl (Wk.refl _)) ?_
                                  refine wpo_mv (a := (eB false)) rfl rfl rfl (o_pick_f tk rfl rfl (Wk.refl _)) ?_
                                  refine wpo_nil ?_
                                  have e := Option.some.inj H357
                                  subst e
                                  exact ⟨(wkf_cons (.of_eq rfl) (wkf_cons (.of_eq rfl) (wkf_cons (.of_eq rfl) (wkf_cons (.of_eq rfl) (wkf_cons (.of_eq rfl) (wkf_cons (.of_eq rfl) (wkf_cons (.of_eq rfl) (wkf_cons (.of_eq rfl) (wkf_nil _))))))))), hH⟩
                        · refine awp_loopO (body := fun s => butterylaw08_SlabDoes_b3 x1 x2 v154 c173 c175 c203 s.1 s.2.1 s.2.2) hs254 (fun (s : Int × Int × butteryref08_Budget) fr τ => WkF fr (fm [(1, ((eL 3 e_butterylaw08_Op) x1)), (2, (eI x2)), (7, (.ref id11 0)), (9, (.ref id155 0)), (10, (eI v154.2)), (11, (eI c173)), (12, (.ref id200 0)), (13, (eI s.1)), (14, (eI s.2.1))]) ∧ Holds σ [(id200, (c_butterylaw08_Op c203)), (id155, (c_butteryref08_Budget s.2.2)), (id11, (c_slab_Budget c175))] [] τ) ⟨(wkf_cons (.of_eq rfl) (wkf_cons (.of_eq rfl) (wkf_cons (.of_eq rfl) (wkf_cons (.of_eq rfl) (wkf_cons (.of_eq rfl) (wkf_cons (.of_eq rfl) (wkf_cons (.of_eq rfl) (wkf_cons (.of_eq rfl) (wkf_cons (.of_eq rfl) (wkf_nil _)))))))))), hH⟩ ?_
                          rintro ⟨c250, c251, c252⟩ fr τ y256 ⟨hfr, hH⟩ hb258 hy259
                          have H261 : butterylaw08_SlabDoes_b3 x1 x2 v154 c173 c175 c203 c250 c251 c252 = some y256 := hb258
                          unfold butterylaw08_SlabDoes_b3 at H261
                          refine AWP.fm [(1, ((eL 3 e_butterylaw08_Op) x1)), (2, (eI x2)), (7, (.ref id11 0)), (9, (.ref id155 0)), (10, (eI v154.2)), (11, (eI c173)), (12, (.ref id200 0)), (13, (eI c250)), (14, (eI c251))] hfr ?_
                          have hH : Holds σ [(id200, (c_butterylaw08_Op c203)), (id155, (c_butteryref08_Budget c252)), (id11, (c_slab_Budget c175))] [] τ := hH
                          refine awp_seq ?_
                          refine awp_seq ?_
                          obtain ⟨s262, hs264, hj265⟩ := Option.bind_eq_some_iff.1 H261
                          refine awp_cutn (fun fr τ => WkF fr (fm [(1, ((eL 3 e_butterylaw08_Op) x1)), (2, (eI x2)), (7, (.ref id11 0)), (9, (.ref id155 0)), (10, (eI v154.2)), (11, (eI c173)), (12, (.ref id200 0)), (14, (eI c251)), (67, (eB s262))]) ∧ Holds σ [(id200, (c_butterylaw08_Op c203)), (id155, (c_butteryref08_Budget c252)), (id11, (c_slab_Budget c175))] [] τ) ?_ ?_
                          · rintro fr τ ⟨hfr, hH⟩
                            have H271 := hj265
                            refine AWP.fm [(1, ((eL 3 e_butterylaw08_Op) x1)), (2, (eI x2)), (7, (.ref id11 0)), (9, (.ref id155 0)), (10, (eI v154.2)), (11, (eI c173)), (12, (.ref id200 0)), (14, (eI c251)), (67, (eB s262))] hfr ?_
                            refine awp_if H271 rfl (fun H272 => ?_) (fun H272 => ?_)
                            · refine awp_skip ?_
                              refine awp_block ?_
                              refine awp_seq ?_
                              refine awp_seq ?_
                              refine awp_region rfl ?_
                              refine wpo_mv (a := (.ref id200 0)) rfl rfl rfl (o_c tk false rfl (fun _ => rfl)) ?_
                              refine wpo_rd (a := (eI c203.Kind)) rfl rfl rfl (h_ld tk hH 0 rfl rfl rfl) ?_
                              refine wpo_lt H272 eB rfl rfl rfl (o_ar tk rfl rfl rfl) fun v274 H273 => ?_
                              refine wpo_nil ?_
                              obtain ⟨s275, hs277, hj278⟩ := Option.bind_eq_some_iff.1 H273
                              refine awp_cutn (fun fr τ => WkF fr (fm [(1, ((eL 3 e_butterylaw08_Op) x1)), (2, (eI x2)), (7, (.ref id11 0)), (9, (.ref id155 0)), (10, (eI v154.2)), (11, (eI c173)), (12, (.ref id200 0)), (13, (eI s275.1)), (14, (eI c251))]) ∧ Holds σ [(id200, (c_butterylaw08_Op c203)), (id155, (c_butteryref08_Budget s275.2)), (id11, (c_slab_Budget c175))] [] τ) ?_ ?_
                              · rintro fr τ ⟨hfr, hH⟩
                                have H290 := hj278
                                refine AWP.fm [(1, ((eL 3 e_butterylaw08_Op) x1)), (2, (eI x2)), (7, (.ref id11 0)), (9, (.ref id155 0)), (10, (eI v154.2)), (11, (eI c173)), (12, (.ref id200 0)), (13, (eI s275.1)), (14, (eI c251))] hfr ?_
                                refine awp_seq ?_
                                refine awp_region rfl ?_
                                refine wpo_mv (a := (eI s275.1)) rfl rfl rfl (o_mv tk rfl (Wk.refl _)) ?_
                                refine wpo_lt H290 eB rfl rfl rfl (o_ar tk rfl rfl rfl) fun v292 H291 => ?_
                                refine wpo_nil ?_
                                refine awp_if H291 rfl (fun H293 => ?_) (fun H293 => ?_)
                                · refine awp_region rfl ?_
                                  refine wpo_mv (a := (eI c251)) rfl rfl rfl (o_mv tk rfl (Wk.refl _)) ?_
                                  refine wpo_lt H293 eI rfl rfl rfl (o_ar tk rfl rfl rfl) fun v295 H294 => ?_
                                  refine wpo_mv (a := (eI v295)) rfl rfl rfl (o_as tk rfl (Wk.refl _)) ?_
                                  refine wpo_nil ?_
                                  exact ⟨(s275.1, v295, s275.2), inj_inl H294, (wkf_cons (.of_eq rfl) (wkf_cons (.of_eq rfl) (wkf_cons (.of_eq rfl) (wkf_cons (.of_eq rfl) (wkf_cons (.of_eq rfl) (wkf_cons (.of_eq rfl) (wkf_cons (.of_eq rfl) (wkf_cons (.of_eq rfl) (wkf_cons (.of_eq rfl) (wkf_nil _)))))))))), hH⟩
                                · refine awp_skip ?_
                                  exact ⟨(s275.1, c251, s275.2), inj_inl H293, (wkf_cons (.of_eq rfl) (wkf_cons (.of_eq rfl) (wkf_cons (.of_eq rfl) (wkf_cons (.of_eq rfl) (wkf_cons (.of_eq rfl) (wkf_cons (.of_eq rfl) (wkf_cons (.of_eq rfl) (wkf_cons (.of_eq rfl) (wkf_cons (.of_eq rfl) (wkf_nil _)))))))))), hH⟩
                              · refine awp_if hs277 rfl (fun H279 => ?_) (fun H279 => ?_)
                                · refine awp_region rfl ?_
                                  refine wpo_rd (a := (e_butteryref08_Budget c252)) rfl rfl rfl (h_ld tk hH 1 rfl rfl rfl) ?_
                                  refine wpo_mv (a := (.ref id200 1)) rfl rfl rfl (o_c tk false rfl (fun _ => rfl)) ?_
                                  refine wpo_rd (a := (eI c203.Class)) rfl rfl rfl (h_ld tk hH 0 rfl rfl rfl) ?_
                                  refine wpo_bd H279 (fun r => .tup [e_butteryref08_Budget r.1, eI r.2]) rfl rfl rfl (fun v281 hv => OpP.of_call rfl rfl (.cons (.of_eq rfl) (.cons (.of_eq rfl) .nil)) (butteryref08_Take_ok hv)) fun v281 hv281 H280 => ?_
                                  refine wpo_mv (a := (.tup [(e_butteryref08_Budget v281.1), (eI v281.2)])) rfl rfl rfl (o_mv tk rfl (Wk.refl _)) ?_
                                  refine wpo_mv (a := (e_butteryref08_Budget v281.1)) rfl rfl rfl (o_ext tk rfl rfl) ?_
                                  refine wpo_mv (a := (eI v281.2)) rfl rfl rfl (o_ext tk rfl rfl) ?_
                                  obtain ⟨c283, hc284, H282⟩ := lt_ex H280
                                  refine wpo_z rfl rfl (h_st tk hH 1 rfl ty61 (by simp) rfl rfl (.of_eq rfl) (b := (e_butteryref08_Budget v281.1)) (enc61.flat _) rfl (Nat.le_of_ble_eq_true rfl) (c_butteryref08_Budget c283) (by rw [← hc284]; rfl)) fun τ hH => ?_
                                  refine wpo_mv (a := (eI v281.2)) rfl rfl rfl (o_as tk rfl (Wk.refl _)) ?_
                                  refine wpo_nil ?_
                                  have e := Option.some.inj H282
                                  subst e
                                  exact ⟨(wkf_cons (.of_eq rfl) (wkf_cons (.of_eq rfl) (wkf_cons (.of_eq rfl) (wkf_cons (.of_eq rfl) (wkf_cons (.of_eq rfl) (wkf_cons (.of_eq rfl) (wkf_cons (.of_eq rfl) (wkf_cons (.of_eq rfl) (wkf_cons (.of_eq rfl) (wkf_nil _)))))))))), hH⟩
                                · refine awp_region rfl ?_
                                  refine wpo_rd (a := (e_butteryref08_Budget c252)) rfl rfl rfl (h_ld tk hH 1 rfl rfl rfl) ?_
                                  refine wpo_mv (a := (.ref id200 1)) rfl rfl rfl (o_c tk false rfl (fun _ => rfl)) ?_
                                  refine wpo_rd (a := (eI c203.Class)) rfl rfl rfl (h_ld tk hH 0 rfl rfl rfl) ?_
                                  refine wpo_bd H279 (fun r => .tup [e_butteryref08_Budget r.1, eI r.2]) rfl rfl rfl (fun v286 hv => OpP.of_call rfl rfl (.cons (.of_eq rfl) (.cons (.of_eq rfl) .nil)) (butteryref08_Give_ok hv)) fun v286 hv286 H285 => ?_
                                  refine wpo_mv (a := (.tup [(e_butteryref08_Budget v286.1), (eI v286.2)])) rfl rfl rfl (o_mv tk rfl (Wk.refl _)) ?_
                                  refine wpo_mv (a := (e_butteryref08_Budget v286.1)) rfl rfl rfl (o_ext tk rfl rfl) ?_
                                  refine wpo_mv (a := (eI v286.2)) rfl rfl rfl (o_ext tk rfl rfl) ?_
                                  obtain ⟨c288, hc289, H287⟩ := lt_ex H285
                                  refine wpo_z rfl rfl (h_st tk hH 1 rfl ty61 (by simp) rfl rfl (.of_eq rfl) (b := (e_butteryref08_Budget v286.1)) (enc61.flat _) rfl (Nat.le_of_ble_eq_true rfl) (c_butteryref08_Budget c288) (by rw [← hc289]; rfl)) fun τ hH => ?_
                                  refine wpo_mv (a := (eI v286.2)) rfl rfl rfl (o_as tk rfl (Wk.refl _)) ?_
                                  refine wpo_nil ?_
                                  have e := Option.some.inj H287
                                  subst e
                                  exact ⟨(wkf_cons (.of_eq rfl) (wkf_cons (.of_eq rfl) (wkf_cons (.of_eq rfl) (wkf_cons (.of_eq rfl) (wkf_cons (.of_eq rfl) (wkf_cons (.of_eq rfl) (wkf_cons (.of_eq rfl) (wkf_cons (.of_eq rfl) (wkf_cons (.of_eq rfl) (wkf_nil _)))))))))), hH⟩
                            · refine awp_exit ?_
                              have hz := hy259 _ (inj_inr H272)
                              subst hz
                              exact ⟨⟨_, inj_inr H272⟩, (wkf_cons (.of_eq rfl) (wkf_cons (.of_eq rfl) (wkf_cons (.of_eq rfl) (wkf_cons (.of_eq rfl) (wkf_cons (.of_eq rfl) (wkf_cons (.of_eq rfl) (wkf_cons (.of_eq rfl) (wkf_cons (.of_eq rfl) (wkf_nil _))))))))), hH⟩
                          · refine awp_region rfl ?_
                            refine wpo_mv (a := (eI c251)) rfl rfl rfl (o_mv tk rfl (Wk.refl _)) ?_
                            refine wpo_mv (a := (.ref id200 2)) rfl rfl rfl (o_c tk false rfl (fun _ => rfl)) ?_
                            refine wpo_rd (a := (eI c203.N)) rfl rfl rfl (h_ld tk hH 0 rfl rfl rfl) ?_
                            refine wpo_lt hs264 eB rfl rfl rfl (o_ar tk rfl rfl rfl) fun v267 H266 => ?_
                            refine wpo_mv (a := (eB v267)) rfl rfl rfl (o_mv tk rfl (Wk.refl _)) ?_
                            refine if_split H266 (fun hb H268 => ?_) (fun hb H268 => ?_)
                            · subst hb
                              refine wpo_mv (a := (eI c250)) rfl rfl rfl (o_mv tk rfl (Wk.refl _)) ?_
                              refine wpo_lt H268 eB rfl rfl rfl (o_ar tk rfl rfl rfl) fun v270 H269 => ?_
                              refine wpo_mv (a := (eB v270)) rfl rfl rfl (o_pick_t tk rfl rfl (Wk.refl _)) ?_
                              refine wpo_nil ?_
                              have e := Option.some.inj H269
                              subst e
                              exact ⟨(wkf_cons (.of_eq rfl) (wkf_cons (.of_eq rfl) (wkf_cons (.of_eq rfl) (wkf_cons (.of_eq rfl) (wkf_cons (.of_eq rfl) (wkf_cons (.of_eq rfl) (wkf_cons (.of_eq rfl) (wkf_cons (.of_eq rfl) (wkf_cons (.of_eq rfl) (wkf_nil _)))))))))), hH⟩
                            · subst hb
                              refine wpo_skip rfl rfl rfl ?_
                              refine wpo_skip rfl rfl rfl ?_
                              refine wpo_mv (a := (eB false)) rfl rfl rfl (o_pick_f tk rfl rfl (Wk.refl _)) ?_
                              refine wpo_nil ?_
                              have e := Option.some.inj H268
                              subst e
                              exact ⟨(wkf_cons (.of_eq rfl) (wkf_cons (.of_eq rfl) (wkf_cons (.of_eq rfl) (wkf_cons (.of_eq rfl) (wkf_cons (.of_eq rfl) (wkf_cons (.of_eq rfl) (wkf_cons (.of_eq rfl) (wkf_cons (.of_eq rfl) (wkf_cons (.of_eq rfl) (wkf_nil _)))))))))), hH⟩
              · refine awp_exit ?_
                have hz := hy182 _ (inj_inr H197)
                exact ⟨⟨_, inj_inr H197⟩, (c174, c175), hz.symm, (wkf_nil _), hH⟩
            · refine awp_region rfl ?_
              refine wpo_mv (a := (eI c173)) rfl rfl rfl (o_mv tk rfl (Wk.refl _)) ?_
              refine wpo_mv (a := ((eL 3 e_butterylaw08_Op) x1)) rfl rfl rfl (o_mv tk rfl (Wk.refl _)) ?_
              refine wpo_lt hs187 eI rfl rfl rfl (o_len tk td26 rfl) fun v190 H189 => ?_
              refine wpo_lt H189 eB rfl rfl rfl (o_ar tk rfl rfl rfl) fun v192 H191 => ?_
              refine wpo_mv (a := (eB v192)) rfl rfl rfl (o_mv tk rfl (Wk.refl _)) ?_
              refine if_split H191 (fun hb H193 => ?_) (fun hb H193 => ?_)
              · subst hb
                refine wpo_mv (a := (eI v154.2)) rfl rfl rfl (o_mv tk rfl (Wk.refl _)) ?_
                refine wpo_lt H193 eB rfl rfl rfl (o_ar tk rfl rfl rfl) fun v195 H194 => ?_
                refine wpo_mv (a := (eB v195)) rfl rfl rfl (o_pick_t tk rfl rfl (Wk.refl _)) ?_
                refine wpo_nil ?_
                have e := Option.some.inj H194
                subst e
                exact ⟨(wkf_cons (.of_eq rfl) (wkf_cons (.of_eq rfl) (wkf_cons (.of_eq rfl) (wkf_cons (.of_eq rfl) (wkf_cons (.of_eq rfl) (wkf_cons (.of_eq rfl) (wkf_cons (.of_eq rfl) (wkf_nil _)))))))), hH⟩
              · subst hb
                refine wpo_skip rfl rfl rfl ?_
                refine wpo_skip rfl rfl rfl ?_
                refine wpo_mv (a := (eB false)) rfl rfl rfl (o_pick_f tk rfl rfl (Wk.refl _)) ?_
                refine wpo_nil ?_
                have e := Option.some.inj H193
                subst e
                exact ⟨(wkf_cons (.of_eq rfl) (wkf_cons (.of_eq rfl) (wkf_cons (.of_eq rfl) (wkf_cons (.of_eq rfl) (wkf_cons (.of_eq rfl) (wkf_cons (.of_eq rfl) (wkf_cons (.of_eq rfl) (wkf_nil _)))))))), hH⟩
      · refine awp_region rfl ?_
        refine wpo_mv (a := (eErr v9.2)) rfl rfl rfl (o_mv tk rfl (Wk.refl _)) ?_
        refine wpo_bdr hs160 eI rfl rfl rfl (fun v163 hv => h_callr rfl rfl (.cons (.of_eq rfl) .nil) (trouble_Of_ok hv _ (hH.gl.trans hg))) fun v163 hv163 H162 => ?_
        refine wpo_mv (a := (eI v154.2)) rfl rfl rfl (o_mv tk rfl (Wk.refl _)) ?_
        refine wpo_lt H162 eB rfl rfl rfl (o_ar tk rfl rfl rfl) fun v165 H164 => ?_
        refine wpo_mv (a := (eB v165)) rfl rfl rfl (o_mv tk rfl (Wk.refl _)) ?_
        refine if_split H164 (fun hb H166 => ?_) (fun hb H166 => ?_)
        · subst hb
          refine wpo_skip rfl rfl rfl ?_
          refine wpo_skip rfl rfl rfl ?_
          refine wpo_skip rfl rfl rfl ?_
          refine wpo_skip rfl rfl rfl ?_
          refine wpo_skip rfl rfl rfl ?_
          refine wpo_mv (a := (eB true)) rfl rfl rfl (o_pick_t tk rfl rfl (Wk.refl _)) ?_
          refine wpo_nil ?_
          have e := Option.some.inj H166
          subst e
          exact ⟨(wkf_cons (.of_eq rfl) (wkf_cons (.of_eq rfl) (wkf_cons (.of_eq rfl) (wkf_cons (.of_eq rfl) (wkf_cons (.of_eq rfl) (wkf_cons (.of_eq rfl) (wkf_nil _))))))), hH⟩
        · subst hb
          refine wpo_mv (a := (.ref id11 0)) rfl rfl rfl (o_mv tk rfl (Wk.refl _)) ?_
          refine wpo_mv (a := (eB false)) rfl rfl rfl (o_c tk false rfl (fun _ => rfl)) ?_
          refine wpo_mv (a := (eI v154.2)) rfl rfl rfl (o_mv tk rfl (Wk.refl _)) ?_
          refine wpo_lt H166 eB rfl rfl rfl (o_ar tk rfl rfl rfl) fun v168 H167 => ?_
          refine wpo_lt H167 eB rfl rfl rfl (o_bool_neq tk td4 rfl rfl) fun v170 H169 => ?_
          refine wpo_mv (a := (eB v170)) rfl rfl rfl (o_pick_f tk rfl rfl (Wk.refl _)) ?_
          refine wpo_nil ?_
          have e := Option.some.inj H169
          subst e
          exact ⟨(wkf_cons (.of_eq rfl) (wkf_cons (.of_eq rfl) (wkf_cons (.of_eq rfl) (wkf_cons (.of_eq rfl) (wkf_cons (.of_eq rfl) (wkf_cons (.of_eq rfl) (wkf_nil _))))))), hH⟩
end Go.Proofs.YthjabhcbkbchjaaDoor
namespace Go.Va
open Go
set_option linter.unusedVariables false
set_option linter.unusedSimpArgs false
theorem shr64_nat {n m : Nat} (h : m ≤ 64) : shr64 (n : Int) m = ((n / 2 ^ m : Nat) : Int) := by
  unfold shr64
  rw [Nat.min_eq_left h]
  have : (2 : Int) ^ m = ((2 ^ m : Nat) : Int) := by simp
  rw [this, Int.fdiv_eq_ediv_of_nonneg _ (Int.natCast_nonneg _), ← Int.natCast_ediv]
theorem quo64_nat {n m : Nat} (h : n < 9223372036854775808) : quo64 (n : Int) (m : Int) = ((n / m : Nat) : Int) := by
  unfold quo64
  have := Nat.div_le_self n m
  rw [Int.tdiv_eq_ediv_of_nonneg (Int.natCast_nonneg _), ← Int.natCast_ediv]
  generalize n / m = q at *
  exact w64_eq (by omega) (by omega)
theorem tmod_nat (n m : Nat) : Int.tmod (n : Int) (m : Int) = ((n % m : Nat) : Int) := by
  rw [Int.tmod_eq_emod_of_nonneg (Int.natCast_nonneg _)]; rfl
theorem or_low (a b : Nat) (h : b < 128) : a * 128 ||| b = a * 128 + b := by
  have := Nat.two_pow_add_eq_or_of_lt (i := 7) (b := b) (by omega) a
  rw [show 2 ^ 7 * a + b = a * 128 + b by omega, show 2 ^ 7 * a = a * 128 by omega] at this
  exact this.symm
theorem or64_nat {a b : Nat} (ha : a < 9223372036854775808) (hb : b < 9223372036854775808) : or64 (a : Int) (b : Int) = ((a ||| b : Nat) : Int) := by
  have h : a ||| b < 2 ^ 63 := Nat.or_lt_two_pow (by omega) (by omega)
  show w64 ((BitVec.ofInt 64 (a : Int) ||| BitVec.ofInt 64 (b : Int) : BitVec 64).toNat : Int) = _
  rw [BitVec.toNat_or, BitVec.toNat_ofInt, BitVec.toNat_ofInt]
  have e1 : ((a : Int) % ((2 ^ 64 : Nat) : Int)).toNat = a := by omega
  have e2 : ((b : Int) % ((2 ^ 64 : Nat) : Int)).toNat = b := by omega
  rw [e1, e2, w64_eq (by omega) (by omega)]
theorem shl64_7 {a : Nat} (ha : a < 72057594037927936) : shl64 (a : Int) 7 = ((a * 128 : Nat) : Int) := by
  unfold shl64
  rw [w64_eq] <;> simp <;> omega
theorem or64_7 {a b : Nat} (ha : a < 72057594037927936) (hb : b < 128) : or64 (shl64 (a : Int) 7) (b : Int) = ((a * 128 + b : Nat) : Int) := by
  rw [shl64_7 ha, or64_nat (by omega) (by omega), or_low a b hb]
theorem byte_and (x : BitVec 8) : (x &&& 127#8).toNat = x.toNat % 128 := by
  rw [BitVec.toNat_and, show (127#8).toNat = 2 ^ 7 - 1 from rfl, Nat.and_two_pow_sub_one_eq_mod]
theorem byte_or (x : BitVec 8) : x ||| 128#8 = BitVec.ofNat 8 (x.toNat % 128 + 128) := by
  have : ∀ y : Fin 256, (BitVec.ofFin y : BitVec 8) ||| 128#8 = BitVec.ofNat 8 ((BitVec.ofFin y : BitVec 8).toNat % 128 + 128) := by decide +kernel
  exact this x.toFin
theorem byte_and' (x : BitVec 8) : x &&& 127#8 = BitVec.ofNat 8 (x.toNat % 128) := by
  apply BitVec.eq_of_toNat_eq
  rw [byte_and]; simp
  have := x.isLt
  omega
theorem byte_int (n : Nat) : BitVec.ofInt 8 (n : Int) = BitVec.ofNat 8 n := by
  apply BitVec.eq_of_toNat_eq
  simp [BitVec.toNat_ofInt]
theorem byte_hi (n : Nat) : BitVec.ofInt 8 (n : Int) ||| 128#8 = BitVec.ofNat 8 (n % 128 + 128) := by
  rw [byte_int, byte_or]; congr 1; simp
theorem byte_lo (n : Nat) : BitVec.ofInt 8 (n : Int) &&& 127#8 = BitVec.ofNat 8 (n % 128) := by
  rw [byte_int, byte_and']; congr 1; simp
/-! ### seven bits a byte -/
/-- The bytes that go on. -/
def pre (m : Nat) : List (BitVec 8) := if m = 0 then [] else pre (m / 128) ++ [BitVec.ofNat 8 (m % 128 + 128)]
termination_by m
decreasing_by omega
def num7 (n : Nat) : List (BitVec 8) := pre (n / 128) ++ [BitVec.ofNat 8 (n % 128)]
theorem pre_zero : pre 0 = [] := by rw [pre]; rfl
theorem pre_pos {m : Nat} (h : 0 < m) : pre m = pre (m / 128) ++ [BitVec.ofNat 8 (m % 128 + 128)] := by
  rw [pre, if_neg (by omega)]
theorem pre_len : ∀ (k m : Nat), m < 128 ^ k → (pre m).length ≤ k
  | 0, m, h => by
    have : m = 0 := by simpa using h
    subst this; rw [pre_zero]; simp
  | k + 1, m, h => by
    by_cases h0 : m = 0
    · subst h0; rw [pre_zero]; simp
    · rw [pre_pos (by omega)]
      have := pre_len k (m / 128) (by rw [Nat.div_lt_iff_lt_mul (by decide)]; rw [Nat.pow_succ] at h; exact h)
      simp; exact this
theorem num7_len {n : Nat} (h : n < 9223372036854775808) : (num7 n).length ≤ 9 := by
  have := pre_len 8 (n / 128) (by omega)
  simp [num7]; omega
theorem num7_small {n : Nat} (h : n < 128) : num7 n = [BitVec.ofNat 8 n] := by
  rw [num7, show n / 128 = 0 by omega, pre_zero, Nat.mod_eq_of_lt h]; rfl
/-- The same from the highest one on. -/
def seq7 (n : Nat) : Nat → List (BitVec 8)
  | 0 => []
  | c + 1 => BitVec.ofNat 8 (n / 128 ^ (c + 1) % 128 + 128) :: seq7 n c
theorem seq7_snoc (n : Nat) : ∀ c, seq7 n (c + 1) = seq7 (n / 128) c ++ [BitVec.ofNat 8 (n / 128 % 128 + 128)]
  | 0 => by simp [seq7]
  | c + 1 => by
    rw [seq7, seq7_snoc n c, seq7]
    simp only [List.cons_append]
    rw [Nat.div_div_eq_div_mul, ← Nat.pow_succ']
theorem seq7_pre : ∀ (h n : Nat), n / 128 ^ h < 128 → (∀ j, j < h → 128 ≤ n / 128 ^ j) → seq7 n h = pre (n / 128)
  | 0, n, h1, h2 => by
    rw [show n / 128 = 0 by simp at h1; omega, pre_zero]; rfl
  | h + 1, n, h1, h2 => by
    have h0 := h2 0 (by omega)
    simp at h0
    rw [seq7_snoc, pre_pos (by omega), seq7_pre h (n / 128) (by rw [Nat.div_div_eq_div_mul, ← Nat.pow_succ']; exact h1) (fun j hj => by
      rw [Nat.div_div_eq_div_mul, ← Nat.pow_succ']; exact h2 (j + 1) (by omega))]
/-- How many bytes. -/
def nlen (n : Nat) : Nat := if n < 128 then 1 else nlen (n / 128) + 1
termination_by n
decreasing_by omega
theorem nlen_lt {n : Nat} (h : n < 128) : nlen n = 1 := by rw [nlen, if_pos h]
theorem nlen_ge {n : Nat} (h : 128 ≤ n) : nlen n = nlen (n / 128) + 1 := by rw [nlen, if_neg (by omega)]
/-! ### reading -/
def up7 : Int ⊕ (Nat × Nat) → Int ⊕ (Nat × Nat)
  | .inl e => .inl e
  | .inr (m, k) => .inr (m, k + 1)
/-- What a number is that begins here, and how many bytes it has; or what is wrong first. -/
def rd7 (most : Nat) : List (BitVec 8) → Bool → Nat → Int ⊕ (Nat × Nat)
  | [], _, _ => .inl 6
  | c :: l, f, n =>
    if c = 128#8 ∧ f = true then .inl 5 else if most / 128 < n then .inl 2 else
    if 128 ≤ c.toNat then up7 (rd7 most l false (n * 128 + c.toNat % 128))
    else if most < n * 128 + c.toNat then .inl 2 else .inr (n * 128 + c.toNat, 1)
theorem rd7_le {most : Nat} : ∀ {l : List (BitVec 8)} {f : Bool} {n m k : Nat}, rd7 most l f n = .inr (m, k) → m ≤ most ∧ 1 ≤ k ∧ k ≤ l.length
  | [], f, n, m, k, h => by simp [rd7] at h
  | c :: l, f, n, m, k, h => by
    simp only [rd7] at h
    split at h
    · cases h
    · split at h
      · cases h
      · split at h
        · cases hr : rd7 most l false (n * 128 + c.toNat % 128) with
          | inl e => rw [hr] at h; cases h
          | inr p =>
            obtain ⟨m', k'⟩ := p
            rw [hr] at h
            simp only [up7, Sum.inr.injEq, Prod.mk.injEq] at h
            obtain ⟨rfl, rfl⟩ := h
            have := rd7_le hr
            simp; omega
        · split at h
          · cases h
          · simp only [Sum.inr.injEq, Prod.mk.injEq] at h
            obtain ⟨rfl, rfl⟩ := h
            simp; omega
end Go.Va
namespace Go.Proofs.YthjabhcbkbchjaaDoor
open Go Go.Va
set_option linter.unusedVariables false
set_option linter.unusedSimpArgs false
/-- How many bytes a thing of a class takes. -/
def sizeI (c : Int) : Int := if c < 0 ∨ 9 ≤ c then 0 else 32 * 2 ^ c.toNat
theorem upto9 {c : Int} (h : ¬ (c < 0 ∨ 9 ≤ c)) : ∃ i : Fin 9, c = (i.val : Int) := ⟨⟨c.toNat, by omega⟩, by simp; omega⟩
theorem size_eq (c : Int) : slab_Size c = some (sizeI c) := by
  unfold slab_Size
  simp only [lt_eq]
  by_cases h : c < 0 ∨ 9 ≤ c
  · have : sizeI c = 0 := by unfold sizeI; rw [if_pos h]
    rw [this]
    by_cases h0 : c < 0
    · rw [if_pos (decide_eq_true h0)]; rfl
    · rw [if_neg (by rw [decide_eq_false h0]; simp), decide_eq_true (show c ≥ 9 by omega)]; rfl
  · rw [if_neg (by rw [decide_eq_false (by omega)]; simp), decide_eq_false (show ¬ c ≥ 9 by omega)]
    simp only [Option.bind_some]
    rw [if_neg (by simp)]
    obtain ⟨i, rfl⟩ := upto9 h
    revert i
    decide
theorem refSize_eq (c : Int) : butteryref08_Size c = some (sizeI c) := by
  unfold butteryref08_Size
  simp only [lt_eq]
  by_cases h : c < 0 ∨ 9 ≤ c
  · have : sizeI c = 0 := by unfold sizeI; rw [if_pos h]
    rw [this]
    by_cases h0 : c < 0
    · rw [if_pos (decide_eq_true h0)]; rfl
    · rw [if_neg (by rw [decide_eq_false h0]; simp), decide_eq_true (show c > 8 by omega)]; rfl
  · rw [if_neg (by rw [decide_eq_false (by omega)]; simp), decide_eq_false (show ¬ c > 8 by omega)]
    simp only [Option.bind_some]
    rw [if_neg (by simp)]
    have hp : ∀ i : Nat, i < 9 → (2 : Int) ^ i ≤ 256 ∧ 0 ≤ (2 : Int) ^ i := by
      intro i hi
      have : ∀ i : Fin 9, (2 : Int) ^ i.val ≤ 256 ∧ 0 ≤ (2 : Int) ^ i.val := by decide
      exact this ⟨i, hi⟩
    have k := loopO_up (body := fun s => butteryref08_Size_b0 c s.1 s.2) (fun i : Nat => (32 * (2 : Int) ^ i, (i : Int))) c.toNat (x := sizeI c) (fun i hi => by
      obtain ⟨h1, h2⟩ := hp i (by omega)
      simp only [butteryref08_Size_b0, lt_eq]
      rw [if_pos (decide_eq_true (by omega)), w64_eq (by omega) (by omega), w64_nat (by omega), Int.pow_succ]
      rw [Int.mul_assoc]) (by
      simp only [butteryref08_Size_b0, lt_eq]
      rw [if_neg (by rw [decide_eq_false (by omega)]; simp)]
      unfold sizeI; rw [if_neg h])
    simp only [Int.pow_zero, Int.mul_one, show ((0 : Nat) : Int) = 0 from rfl] at k
    simp only [butteryref08_Size_l0, k, Option.bind_some]
/-- The least class in which so many bytes have room. -/
def cls (n : Int) : Int := if n < 0 then -1 else if n ≤ 32 then 0 else if n ≤ 64 then 1 else if n ≤ 128 then 2 else if n ≤ 256 then 3 else if n ≤ 512 then 4 else if n ≤ 1024 then 5 else if n ≤ 2048 then 6 else if n ≤ 4096 then 7 else if n ≤ 8192 then 8 else -1
def clsO (n : Int) : Unit ⊕ Int := if n ≤ 32 then .inr 0 else if n ≤ 64 then .inr 1 else if n ≤ 128 then .inr 2 else if n ≤ 256 then .inr 3 else if n ≤ 512 then .inr 4 else if n ≤ 1024 then .inr 5 else if n ≤ 2048 then .inr 6 else if n ≤ 4096 then .inr 7 else if n ≤ 8192 then .inr 8 else .inl ()
theorem clsO_cls {n : Int} (h : 0 ≤ n) : Sum.elim (fun _ => some (-1)) (fun y => some y) (clsO n) = some (cls n) := by
  unfold clsO cls
  rw [if_neg (show ¬ n < 0 by omega)]
  split
  · rfl
  split
  · rfl
  split
  · rfl
  split
  · rfl
  split
  · rfl
  split
  · rfl
  split
  · rfl
  split
  · rfl
  split <;> rfl
theorem unroll9 {B : Int → Option (Int ⊕ (Unit ⊕ Int))} {n : Int} (hb : ∀ c : Int, 0 ≤ c → c < 9 → B c = some (if n ≤ sizeI c then .inr (.inr c) else .inl (c + 1))) (he : B 9 = some (.inr (.inl ()))) : loopO B 0 = some (clsO n) := by
  have st : ∀ c : Int, 0 ≤ c → c < 9 → loopO B c = if n ≤ sizeI c then some (.inr c) else loopO B (c + 1) := by
    intro c h1 h2
    have := hb c h1 h2
    split
    · rename_i h; rw [if_pos h] at this; exact loopO_out this
    · rename_i h; rw [if_neg h] at this; exact loopO_in this
  rw [st 0 (by decide) (by decide), st (0 + 1) (by decide) (by decide), st (0 + 1 + 1) (by decide) (by decide), st (0 + 1 + 1 + 1) (by decide) (by decide), st (0 + 1 + 1 + 1 + 1) (by decide) (by decide), st (0 + 1 + 1 + 1 + 1 + 1) (by decide) (by decide), st (0 + 1 + 1 + 1 + 1 + 1 + 1) (by decide) (by decide), st (0 + 1 + 1 + 1 + 1 + 1 + 1 + 1) (by decide) (by decide), st (0 + 1 + 1 + 1 + 1 + 1 + 1 + 1 + 1) (by decide) (by decide)]
  rw [show (0 + 1 + 1 + 1 + 1 + 1 + 1 + 1 + 1 + 1 : Int) = 9 by decide, loopO_out he]
  rw [show sizeI 0 = 32 by decide, show sizeI (0 + 1) = 64 by decide, show sizeI (0 + 1 + 1) = 128 by decide, show sizeI (0 + 1 + 1 + 1) = 256 by decide, show sizeI (0 + 1 + 1 + 1 + 1) = 512 by decide, show sizeI (0 + 1 + 1 + 1 + 1 + 1) = 1024 by decide, show sizeI (0 + 1 + 1 + 1 + 1 + 1 + 1) = 2048 by decide, show sizeI (0 + 1 + 1 + 1 + 1 + 1 + 1 + 1) = 4096 by decide, show sizeI (0 + 1 + 1 + 1 + 1 + 1 + 1 + 1 + 1) = 8192 by decide]
  unfold clsO
  split
  · rfl
  split
  · rfl
  split
  · rfl
  split
  · rfl
  split
  · rfl
  split
  · rfl
  split
  · rfl
  split
  · rfl
  split <;> rfl
theorem class_eq (n : Int) : slab_Class n = some (cls n) := by
  unfold slab_Class
  simp only [lt_eq]
  by_cases h : n < 0
  · rw [if_pos (decide_eq_true h)]; unfold cls; rw [if_pos h]
  · rw [if_neg (by rw [decide_eq_false h]; simp)]
    have k := unroll9 (B := fun s => slab_Class_b0 n s) (n := n) (fun c h1 h2 => by
      simp only [slab_Class_b0, lt_eq, size_eq, Option.bind_some]
      rw [if_pos (decide_eq_true h2)]
      by_cases hc : n ≤ sizeI c
      · rw [if_pos (decide_eq_true hc), if_pos hc]
      · rw [if_neg (by rw [decide_eq_false hc]; simp), if_neg hc, w64_eq (by omega) (by omega)]) (by simp [slab_Class_b0, lt_eq])
    simp only [slab_Class_l0, k, Option.bind_some]
    exact clsO_cls (by omega)
theorem refClass_eq (n : Int) : butteryref08_Class n = some (cls n) := by
  unfold butteryref08_Class
  by_cases h : n < 0
  · have k : butteryref08_Class_l0 n 0 = some (.inl ()) := loopO_out (by
      simp only [butteryref08_Class_b0, lt_eq]
      rw [if_pos (by rfl), decide_eq_false (show ¬ n ≥ 0 by omega)]; rfl)
    rw [k]; unfold cls; rw [if_pos h]; rfl
  · have k := unroll9 (B := fun s => butteryref08_Class_b0 n s) (n := n) (fun c h1 h2 => by
      simp only [butteryref08_Class_b0, lt_eq, refSize_eq, Option.bind_some]
      rw [if_pos (decide_eq_true (show c ≤ 8 by omega)), decide_eq_true (show n ≥ 0 by omega)]
      simp only [Option.bind_some, if_true]
      by_cases hc : n ≤ sizeI c
      · rw [if_pos (decide_eq_true hc), if_pos hc]
      · rw [if_neg (by rw [decide_eq_false hc]; simp), if_neg hc, w64_eq (by omega) (by omega)]) (by
      simp only [butteryref08_Class_b0, lt_eq]
      rw [if_neg (by decide)]; rfl)
    simp only [butteryref08_Class_l0, k, Option.bind_some]
    exact clsO_cls (by omega)
theorem works08 : butterylaw08_works = some true := by
  have n1 : slab_New 100 = some (some ⟨100, 0, Vector.replicate 9 0⟩, Err.nil) := rfl
  have n2 : slab_New 0 = some (none, .fault [98#8, 117#8, 100#8, 103#8, 101#8, 116#8] 0 2 .nil) := rfl
  have z1 : slab_Size 1 = some 64 := by rw [size_eq]; rfl
  obtain ⟨b, hb⟩ : ∃ b : slab_Budget, slab_Budget_Take ⟨100, 0, Vector.replicate 9 0⟩ 1 = some (Err.nil, b) ∧ b.limit = 100 ∧ b.used = 64 ∧ ixA 9 b.count.toList 1 = some 1 := by
    refine ⟨⟨100, 64, (Vector.replicate 9 0).set 1 1⟩, ?_, rfl, rfl, rfl⟩
    unfold slab_Budget_Take
    rw [z1]
    rfl
  obtain ⟨h1, h2, h3, h4⟩ := hb
  have t2 : slab_Budget_Take b 1 = some (.fault [116#8, 97#8, 107#8, 101#8] 64 4 .nil, b) := by
    unfold slab_Budget_Take
    rw [z1]
    simp only [Option.bind_some, lt_eq, slab_Budget_Left, h2, h3]
    rfl
  unfold butterylaw08_works
  rw [n1, Option.bind_some, Option.elim_some, n2, Option.bind_some, Option.elim_none]
  simp only [lt_eq]
  rw [if_neg (by decide), h1, Option.bind_some, t2, Option.bind_some]
  simp only [lt_eq, trouble_Of, codeOf, Option.bind_some, slab_Budget_Used, slab_Budget_Left, h2, h3, class_eq, size_eq, slab_Budget_Fits, slab_Budget_Count]
  rw [show ixA 9 b.count.toList 1 = some 1 from h4]
  rfl
end Go.Proofs.YthjabhcbkbchjaaDoor
namespace Go.Proofs.YthjabhcbkbchjaaDoor
open Go Go.Va
set_option linter.unusedVariables false
set_option linter.unusedSimpArgs false
/-- What the first classes take together. -/
def part (v : Vector Int 9) : Nat → Int
  | 0 => 0
  | i + 1 => part v i + v.toList.getD i 0 * sizeI i
theorem getD_set (v : Vector Int 9) (i j : Nat) (hi : i < 9) (y : Int) : (v.set i y).toList.getD j 0 = if i = j then y else v.toList.getD j 0 := by
  rw [Vector.toList_set, List.getD_eq_getElem?_getD, List.getElem?_set, List.getD_eq_getElem?_getD]
  split
  · rename_i h; subst h; simp [hi]
  · rfl
theorem part_set (v : Vector Int 9) (i : Nat) (hi : i < 9) (y : Int) : ∀ n, part (v.set i y) n = part v n + (if i < n then (y - v.toList.getD i 0) * sizeI i else 0)
  | 0 => by simp [part]
  | n + 1 => by
    simp only [part, part_set v i hi y n, getD_set v i n hi y]
    by_cases h1 : i = n
    · subst h1
      rw [if_neg (by omega), if_pos rfl, if_pos (by omega), Int.sub_mul]; omega
    · rw [if_neg h1]
      by_cases h2 : i < n
      · rw [if_pos h2, if_pos (by omega)]; omega
      · rw [if_neg h2, if_neg (by omega)]; omega
theorem sizeI_nn (c : Int) : 0 ≤ sizeI c := by
  unfold sizeI
  split
  · exact Int.le_refl _
  · have : (0 : Int) ≤ 2 ^ c.toNat := Int.pow_nonneg (by decide)
    omega
theorem part_mono {v : Vector Int 9} (h : ∀ i, 0 ≤ v.toList.getD i 0) : ∀ {i j : Nat}, i ≤ j → part v i ≤ part v j := by
  intro i j hij
  induction hij with
  | refl => exact Int.le_refl _
  | step _ ih =>
    simp only [part]
    rename_i m _
    have := Int.mul_nonneg (h m) (sizeI_nn m)
    omega
/-- A budget that is sound. -/
structure bok (L : Int) (b : slab_Budget) : Prop where
  lim : b.limit = L
  used : b.used = part b.count 9
  nn : ∀ i, 0 ≤ b.count.toList.getD i 0
  le : b.used ≤ L
theorem ixA9 (v : Vector Int 9) (i : Nat) (hi : i < 9) : ixA 9 v.toList (i : Int) = some (v.toList.getD i 0) := by
  rw [ixA_nat hi (by simp [hi]), List.getD_eq_getElem?_getD]; simp [hi]
theorem chk9 (i : Nat) (hi : i < 9) : chk 9 (i : Int) = some () := by unfold chk; rw [if_pos ⟨by omega, by omega⟩]
theorem updV9 (v : Vector Int 9) (i : Nat) (hi : i < 9) (y : Int) : updV v (i : Int) (fun _ => y) = some (v.set i y) := by
  unfold updV; rw [dif_pos ⟨by omega, by simpa using hi⟩]; rfl
theorem size_i (i : Nat) (hi : i < 9) : 32 ≤ sizeI i ∧ sizeI i ≤ 8192 := by
  have : ∀ i : Fin 9, 32 ≤ sizeI (i.val : Int) ∧ sizeI (i.val : Int) ≤ 8192 := by decide
  exact this ⟨i, hi⟩
theorem one_le {L : Int} {b : slab_Budget} (h : bok L b) (i : Nat) (hi : i < 9) : b.count.toList.getD i 0 * sizeI i ≤ b.used := by
  have h1 := part_mono h.nn (i := i + 1) (j := 9) (by omega)
  have h2 := part_mono h.nn (i := 0) (j := i) (by omega)
  rw [h.used]
  simp only [part] at h1 h2
  simp only [part] at *
  omega
theorem take_ok {L : Int} (hL : L ≤ 1099511627776) {b : slab_Budget} (h : bok L b) (hu : 0 ≤ b.used) (c : Int) : ∃ e b', slab_Budget_Take b c = some (e, b') ∧ bok L b' := by
  unfold slab_Budget_Take
  simp only [size_eq, Option.bind_some, lt_eq]
  by_cases hc : c < 0 ∨ 9 ≤ c
  · have : sizeI c = 0 := by unfold sizeI; rw [if_pos hc]
    rw [this, if_pos (by rfl)]
    exact ⟨_, b, rfl, h⟩
  obtain ⟨⟨i, hi⟩, rfl⟩ := upto9 hc
  simp only
  obtain ⟨s1, s2⟩ := size_i i hi
  rw [if_neg (by simp; omega)]
  have hle := h.le
  have e1 : w64 (b.limit - b.used) = L - b.used := by rw [h.lim, w64_eq (by omega) (by omega)]
  simp only [slab_Budget_Left, lt_eq, e1, Option.bind_some]
  by_cases hf : sizeI i > L - b.used
  · rw [if_pos (decide_eq_true hf)]
    exact ⟨_, b, rfl, h⟩
  · rw [if_neg (by rw [decide_eq_false hf]; simp), chk9 i hi, ixA9 _ i hi]
    have h1 := one_le h i hi
    have h0 := h.nn i
    have h2 : b.count.toList.getD i 0 * 32 ≤ b.count.toList.getD i 0 * sizeI i := Int.mul_le_mul_of_nonneg_left s1 h0
    simp only [Option.bind_some]
    rw [w64_eq (n := b.count.toList.getD i 0 + 1) (by omega) (by omega), w64_eq (n := b.used + sizeI i) (by omega) (by omega), updV9 _ i hi]
    refine ⟨_, _, rfl, h.lim, ?_, fun j => ?_, by simp only; omega⟩
    · simp only
      rw [part_set _ i hi, if_pos hi, h.used, Int.sub_mul, Int.add_mul]; omega
    · simp only
      rw [getD_set _ i j hi]
      split
      · omega
      · exact h.nn j
theorem give_ok {L : Int} (hL : L ≤ 1099511627776) {b : slab_Budget} (h : bok L b) (hu : 0 ≤ b.used) (c : Int) : ∃ e b', slab_Budget_Give b c = some (e, b') ∧ bok L b' := by
  unfold slab_Budget_Give
  simp only [size_eq, Option.bind_some, lt_eq]
  by_cases hc : c < 0 ∨ 9 ≤ c
  · have : sizeI c = 0 := by unfold sizeI; rw [if_pos hc]
    rw [this, if_pos (by rfl)]
    exact ⟨_, b, rfl, h⟩
  obtain ⟨⟨i, hi⟩, rfl⟩ := upto9 hc
  simp only
  obtain ⟨s1, s2⟩ := size_i i hi
  rw [if_neg (by simp; omega), chk9 i hi, ixA9 _ i hi]
  simp only [Option.bind_some]
  have hle := h.le
  have h0 := h.nn i
  by_cases hz : b.count.toList.getD i 0 = 0
  · rw [if_pos (by rw [hz]; rfl)]
    exact ⟨_, b, rfl, h⟩
  · rw [if_neg (by rw [beq_iff_eq]; exact hz)]
    have h1 := one_le h i hi
    have h2 : b.count.toList.getD i 0 * 32 ≤ b.count.toList.getD i 0 * sizeI i := Int.mul_le_mul_of_nonneg_left s1 h0
    rw [w64_eq (n := b.count.toList.getD i 0 - 1) (by omega) (by omega), w64_eq (n := b.used - sizeI i) (by omega) (by omega), updV9 _ i hi]
    refine ⟨_, _, rfl, h.lim, ?_, fun j => ?_, by simp only; omega⟩
    · simp only
      rw [part_set _ i hi, if_pos hi, h.used, Int.sub_mul, Int.sub_mul]; omega
    · simp only
      rw [getD_set _ i j hi]
      split
      · omega
      · exact h.nn j
theorem used_nn {L : Int} {b : slab_Budget} (h : bok L b) : 0 ≤ b.used := by
  rw [h.used]; exact part_mono h.nn (i := 0) (by omega)
theorem count_i (b : slab_Budget) (i : Nat) (hi : i < 9) : slab_Budget_Count b (i : Int) = some (b.count.toList.getD i 0) := by
  simp only [slab_Budget_Count, size_eq, Option.bind_some, lt_eq]
  obtain ⟨s1, s2⟩ := size_i i hi
  rw [if_neg (by simp; omega), chk9 i hi, ixA9 _ i hi]; rfl
end Go.Proofs.YthjabhcbkbchjaaDoor
namespace Go.Proofs.YthjabhcbkbchjaaDoor
open Go Go.Va
set_option linter.unusedVariables false
set_option linter.unusedSimpArgs false
/-- What things of these classes take. -/
def usedL : List Int → Int
  | [] => 0
  | c :: l => sizeI c + usedL l
theorem usedL_app : ∀ (l m : List Int), usedL (l ++ m) = usedL l + usedL m
  | [], m => by simp [usedL]
  | c :: l, m => by simp only [List.cons_append, usedL, usedL_app l m]; omega
theorem usedL_nn : ∀ l : List Int, 0 ≤ usedL l
  | [] => Int.le_refl _
  | c :: l => by have := usedL_nn l; have := sizeI_nn c; simp only [usedL]; omega
theorem usedL_take (l : List Int) (i : Nat) : usedL (l.take i) ≤ usedL l := by
  have h := usedL_app (l.take i) (l.drop i)
  rw [List.take_append_drop] at h
  have := usedL_nn (l.drop i)
  omega
theorem refUsed_eq {r : butteryref08_Budget} (h : usedL r.L ≤ 1099511627776) (hl : r.L.length < 9223372036854775807) : butteryref08_Used r = some (usedL r.L) := by
  have k := loopO_up (body := fun s => butteryref08_Used_b0 r s.1 s.2) (fun i : Nat => (usedL (r.L.take i), (i : Int))) r.L.length (x := usedL r.L) (fun i hi => by
    have h1 := usedL_take r.L (i + 1)
    have h2 := usedL_nn (r.L.take (i + 1))
    have e : usedL (r.L.take (i + 1)) = usedL (r.L.take i) + sizeI r.L[i] := by
      rw [List.take_succ_eq_append_getElem hi, usedL_app]; simp [usedL]
    simp only [butteryref08_Used_b0, lt_eq, ix_nat hi, refSize_eq, Option.bind_some]
    rw [if_pos (decide_eq_true (by omega)), w64_nat (by omega), ← e, w64_eq (by omega) (by omega)]) (by simp [butteryref08_Used_b0, lt_eq])
  have e0 : usedL (r.L.take 0) = 0 := rfl
  rw [e0, show ((0 : Nat) : Int) = 0 from rfl] at k
  simp only [butteryref08_Used, butteryref08_Used_l0, k, Option.bind_some]
theorem refCount_eq {r : butteryref08_Budget} (c : Int) (hl : r.L.length < 9223372036854775807) : butteryref08_Count r c = some ((r.L.count c : Nat) : Int) := by
  have k := loopO_up (body := fun s => butteryref08_Count_b0 r c s.1 s.2) (fun i : Nat => (((r.L.take i).count c : Nat), (i : Int))) r.L.length (x := ((r.L.count c : Nat) : Int)) (fun i hi => by
    have h1 : (r.L.take i).count c ≤ i := Nat.le_trans List.count_le_length (by simp; omega)
    simp only [butteryref08_Count_b0, lt_eq, ix_nat hi, Option.bind_some]
    rw [if_pos (decide_eq_true (by omega)), List.take_succ_eq_append_getElem hi, List.count_append]
    by_cases he : r.L[i] = c
    · rw [if_pos (by simpa using he), w64_nat (by omega), w64_nat (by omega)]
      simp [he]
    · rw [if_neg (by simpa using he), w64_nat (by omega)]
      simp [he]) (by simp [butteryref08_Count_b0, lt_eq])
  have e0 : (((r.L.take 0).count c : Nat) : Int) = 0 := rfl
  rw [e0, show ((0 : Nat) : Int) = 0 from rfl] at k
  simp only [butteryref08_Count, butteryref08_Count_l0, k, Option.bind_some]
theorem refTake_eq {r : butteryref08_Budget} (c : Int) (h0 : 0 ≤ r.Limit) (hL : r.Limit ≤ 1099511627776) (h : usedL r.L ≤ r.Limit) (hl : r.L.length ≤ 1000000000) : butteryref08_Take r c = some (if sizeI c = 0 then (r, 2) else if sizeI c > r.Limit - usedL r.L then (r, 4) else (⟨r.Limit, r.L ++ [c]⟩, 0)) := by
  have hn := usedL_nn r.L
  simp only [butteryref08_Take, refSize_eq, refUsed_eq (r := r) (by omega) (by omega), Option.bind_some, lt_eq]
  by_cases h1 : sizeI c = 0
  · rw [if_pos (by simp [h1]), if_pos h1]
  · rw [if_neg (by simpa using h1), if_neg h1, w64_eq (by omega) (by omega)]
    by_cases h2 : sizeI c > r.Limit - usedL r.L
    · rw [if_pos (decide_eq_true h2), if_pos h2]
    · rw [if_neg (by rw [decide_eq_false h2]; simp), if_neg h2, app_eq (by simp; omega)]
      simp only [Option.bind_some, List.nil_append]
      rw [app_eq (by simp; omega)]; rfl
end Go.Proofs.YthjabhcbkbchjaaDoor
namespace Go.Proofs.YthjabhcbkbchjaaDoor
open Go Go.Va
set_option linter.unusedVariables false
set_option linter.unusedSimpArgs false
theorem refGive_l {r : butteryref08_Budget} (c : Int) (hl : r.L.length ≤ 1000000000) : ∀ (post pre : List Int), r.L = pre ++ post → c ∉ pre → butteryref08_Give_l0 r c (pre.length : Int) = some (if c ∈ post then .inr (⟨r.Limit, pre ++ post.erase c⟩, 0) else .inl ())
  | [], pre, h, hp => by
    have : r.L.length = pre.length := by rw [h]; simp
    refine loopO_out ?_
    simp only [butteryref08_Give_b0, lt_eq]
    rw [if_neg (by rw [decide_eq_false (by omega)]; simp)]
    simp
  | x :: post, pre, h, hp => by
    have hlen : r.L.length = pre.length + (post.length + 1) := by rw [h]; simp
    have hx : ix r.L (pre.length : Int) = some x := by rw [ix_get, h]; simp
    by_cases he : x = c
    · subst he
      refine loopO_out ?_
      simp only [butteryref08_Give_b0, lt_eq, hx, Option.bind_some]
      rw [if_pos (decide_eq_true (by omega)), if_pos (by simp), cutTo_eq (by omega), w64_nat (by omega)]
      simp only [Option.bind_some]
      rw [app_eq (by simp; omega)]
      simp only [Option.bind_some]
      rw [cutFrom_eq (by omega)]
      simp only [Option.bind_some, List.nil_append]
      rw [app_eq (by simp; omega)]
      have e1 : r.L.take pre.length = pre := by rw [h]; simp
      have e2 : r.L.drop (pre.length + 1) = post := by rw [h, ← List.drop_drop]; simp
      rw [e1, e2]
      simp
    · have hb : butteryref08_Give_b0 r c (pre.length : Int) = some (.inl ((pre.length + 1 : Nat) : Int)) := by
        simp only [butteryref08_Give_b0, lt_eq, hx, Option.bind_some]
        rw [if_pos (decide_eq_true (by omega)), if_neg (by simpa using he), w64_nat (by omega)]
      have hs := loopO_in (body := fun s => butteryref08_Give_b0 r c s) hb
      have ih := refGive_l c hl post (pre ++ [x]) (by rw [h]; simp) (by simp; exact ⟨hp, fun e => he e.symm⟩)
      rw [List.length_append] at ih
      simp only [List.length_cons, List.length_nil, Nat.zero_add] at ih
      rw [butteryref08_Give_l0] at ih ⊢
      rw [hs, ih]
      have e3 : (c ∈ x :: post) = (c ∈ post) := by simp [show ¬ c = x from fun e => he e.symm]
      have e4 : (x :: post).erase c = x :: post.erase c := by rw [List.erase_cons_tail (by simpa using he)]
      simp only [e3, e4, List.append_assoc, List.singleton_append]
theorem refGive_eq {r : butteryref08_Budget} (c : Int) (hl : r.L.length ≤ 1000000000) : butteryref08_Give r c = some (if sizeI c = 0 then (r, 2) else if c ∈ r.L then (⟨r.Limit, r.L.erase c⟩, 0) else (r, 9)) := by
  simp only [butteryref08_Give, refSize_eq, Option.bind_some, lt_eq]
  by_cases h1 : sizeI c = 0
  · rw [if_pos (by simp [h1]), if_pos h1]
  · rw [if_neg (by simpa using h1), if_neg h1]
    have k := refGive_l (r := r) c hl r.L [] rfl (by simp)
    simp only [List.length_nil, List.nil_append, show ((0 : Nat) : Int) = 0 from rfl] at k
    rw [k]
    split <;> rfl
theorem usedL_erase : ∀ {l : List Int} {c : Int}, c ∈ l → usedL (l.erase c) = usedL l - sizeI c
  | x :: l, c, h => by
    by_cases he : x = c
    · subst he; simp only [List.erase_cons_head, usedL]; omega
    · have hm : c ∈ l := by
        rcases List.mem_cons.1 h with rfl | h
        · exact absurd rfl he
        · exact h
      rw [List.erase_cons_tail (by simpa using he)]
      simp only [usedL, usedL_erase hm]; omega
end Go.Proofs.YthjabhcbkbchjaaDoor
namespace Go.Proofs.YthjabhcbkbchjaaDoor
open Go Go.Va
set_option linter.unusedVariables false
set_option linter.unusedSimpArgs false
structure brel (L : Int) (b : slab_Budget) (r : butteryref08_Budget) : Prop where
  ok : bok L b
  lim : r.Limit = L
  used : b.used = usedL r.L
  cnt : ∀ i : Nat, i < 9 → b.count.toList.getD i 0 = ((r.L.count (i : Int) : Nat) : Int)
  cls : ∀ c ∈ r.L, sizeI c ≠ 0
theorem take_both {L : Int} (hL0 : 0 ≤ L) (hL : L ≤ 1099511627776) {b : slab_Budget} {r : butteryref08_Budget} (h : brel L b r) (hl : r.L.length ≤ 1000000000) (c : Int) : ∃ e b' x r', slab_Budget_Take b c = some (e, b') ∧ butteryref08_Take r c = some (r', x) ∧ codeOf e = x ∧ e.isNil = decide (x = 0) ∧ brel L b' r' ∧ r'.L.length ≤ r.L.length + 1 := by
  obtain ⟨e, b', k1, k2⟩ := take_ok hL h.ok (used_nn h.ok) c
  have hu := h.used
  have hle := h.ok.le
  have hnn := used_nn h.ok
  rw [refTake_eq (r := r) c (by rw [h.lim]; exact hL0) (by rw [h.lim]; exact hL) (by rw [h.lim]; omega) hl, h.lim]
  unfold slab_Budget_Take at k1 ⊢
  simp only [size_eq, Option.bind_some, lt_eq] at k1 ⊢
  by_cases hc : c < 0 ∨ 9 ≤ c
  · have hz : sizeI c = 0 := by unfold sizeI; rw [if_pos hc]
    rw [hz, if_pos (by rfl), if_pos rfl]
    exact ⟨_, b, _, r, rfl, rfl, rfl, rfl, h, by omega⟩
  obtain ⟨⟨i, hi⟩, rfl⟩ := upto9 hc
  simp only at k1 ⊢
  obtain ⟨s1, s2⟩ := size_i i hi
  rw [if_neg (by simp; omega)] at k1 ⊢
  rw [if_neg (show ¬ sizeI (i : Int) = 0 by omega)]
  have e1 : w64 (b.limit - b.used) = L - b.used := by rw [h.ok.lim, w64_eq (by omega) (by omega)]
  simp only [slab_Budget_Left, lt_eq, e1, Option.bind_some] at k1 ⊢
  rw [← hu]
  by_cases hf : sizeI i > L - b.used
  · rw [if_pos (decide_eq_true hf), if_pos hf]
    exact ⟨_, b, _, r, rfl, rfl, rfl, rfl, h, by omega⟩
  · rw [if_neg (by rw [decide_eq_false hf]; simp), chk9 i hi, ixA9 _ i hi] at k1 ⊢
    rw [if_neg hf]
    have h1 := one_le h.ok i hi
    have h0 := h.ok.nn i
    have h2 : b.count.toList.getD i 0 * 32 ≤ b.count.toList.getD i 0 * sizeI i := Int.mul_le_mul_of_nonneg_left s1 h0
    simp only [Option.bind_some] at k1 ⊢
    rw [w64_eq (n := b.count.toList.getD i 0 + 1) (by omega) (by omega), w64_eq (n := b.used + sizeI i) (by omega) (by omega), updV9 _ i hi] at k1 ⊢
    obtain ⟨rfl, rfl⟩ := Prod.mk.injEq _ _ _ _ ▸ Option.some.inj k1
    refine ⟨_, _, _, _, rfl, rfl, rfl, rfl, ⟨k2, rfl, ?_, fun j hj => ?_, fun c hc => ?_⟩, by simp⟩
    · simp only; rw [usedL_app, hu]; simp [usedL]
    · simp only
      rw [getD_set _ i j hi, List.count_append, h.cnt i hi, h.cnt j hj]
      split
      · rename_i hij; subst hij; simp
      · rename_i hij
        have : ((i : Int) == (j : Int)) = false := by simp; omega
        simp [List.count_cons, this]
    · rcases List.mem_append.1 hc with hc | hc
      · exact h.cls c hc
      · obtain rfl := List.mem_singleton.1 hc; omega
theorem give_both {L : Int} (hL0 : 0 ≤ L) (hL : L ≤ 1099511627776) {b : slab_Budget} {r : butteryref08_Budget} (h : brel L b r) (hl : r.L.length ≤ 1000000000) (c : Int) : ∃ e b' x r', slab_Budget_Give b c = some (e, b') ∧ butteryref08_Give r c = some (r', x) ∧ codeOf e = x ∧ e.isNil = decide (x = 0) ∧ brel L b' r' ∧ r'.L.length ≤ r.L.length + 1 := by
  obtain ⟨e, b', k1, k2⟩ := give_ok hL h.ok (used_nn h.ok) c
  have hu := h.used
  have hle := h.ok.le
  have hnn := used_nn h.ok
  rw [refGive_eq (r := r) c hl]
  unfold slab_Budget_Give at k1 ⊢
  simp only [size_eq, Option.bind_some, lt_eq] at k1 ⊢
  by_cases hc : c < 0 ∨ 9 ≤ c
  · have hz : sizeI c = 0 := by unfold sizeI; rw [if_pos hc]
    rw [hz, if_pos (by rfl), if_pos rfl]
    exact ⟨_, b, _, r, rfl, rfl, rfl, rfl, h, by omega⟩
  obtain ⟨⟨i, hi⟩, rfl⟩ := upto9 hc
  simp only at k1 ⊢
  obtain ⟨s1, s2⟩ := size_i i hi
  rw [if_neg (by simp; omega), chk9 i hi, ixA9 _ i hi] at k1 ⊢
  rw [if_neg (show ¬ sizeI (i : Int) = 0 by omega)]
  simp only [Option.bind_some] at k1 ⊢
  have hcnt := h.cnt i hi
  by_cases hz : b.count.toList.getD i 0 = 0
  · have hm : (i : Int) ∉ r.L := by
      intro hm
      have := List.count_pos_iff.2 hm
      omega
    rw [if_pos (by rw [hz]; rfl), if_neg hm]
    exact ⟨_, b, _, r, rfl, rfl, rfl, rfl, h, by omega⟩
  · have hm : (i : Int) ∈ r.L := by
      apply List.count_pos_iff.1
      omega
    rw [if_neg (by rw [beq_iff_eq]; exact hz)] at k1 ⊢
    rw [if_pos hm]
    have h1 := one_le h.ok i hi
    have h0 := h.ok.nn i
    have h2 : b.count.toList.getD i 0 * 32 ≤ b.count.toList.getD i 0 * sizeI i := Int.mul_le_mul_of_nonneg_left s1 h0
    rw [w64_eq (n := b.count.toList.getD i 0 - 1) (by omega) (by omega), w64_eq (n := b.used - sizeI i) (by omega) (by omega), updV9 _ i hi] at k1 ⊢
    obtain ⟨rfl, rfl⟩ := Prod.mk.injEq _ _ _ _ ▸ Option.some.inj k1
    have hlen : (r.L.erase (i : Int)).length = r.L.length - 1 := List.length_erase_of_mem hm
    have hpos : 0 < r.L.length := List.length_pos_of_mem hm
    refine ⟨_, _, _, _, rfl, rfl, rfl, rfl, ⟨k2, h.lim, ?_, fun j hj => ?_, fun c hc => h.cls c (List.mem_of_mem_erase hc)⟩, by simp only; omega⟩
    · simp only; rw [usedL_erase hm, hu]
    · simp only
      rw [getD_set _ i j hi, List.count_erase, h.cnt i hi, h.cnt j hj]
      split
      · rename_i hij; subst hij
        have := List.count_pos_iff.2 hm
        simp; omega
      · rename_i hij
        have : ((i : Int) == (j : Int)) = false := by simp; omega
        simp [this]
end Go.Proofs.YthjabhcbkbchjaaDoor
namespace Go.Proofs.YthjabhcbkbchjaaDoor
open Go Go.Va
set_option linter.unusedVariables false
set_option linter.unusedSimpArgs false
/-- What a loop of many comes to: how many, and the budget. -/
def manyO (v : Int) : slab_Budget ⊕ (Int × slab_Budget) → Int × slab_Budget
  | .inl b => (v, b)
  | .inr p => p
theorem manyTake_l {L : Int} (hL0 : 0 ≤ L) (hL : L ≤ 1099511627776) (x1 : List butterylaw08_Op) (x2 : Int) (v154 : butteryref08_Budget × Int) (c173 : Int) (c175 : slab_Budget) (o : butterylaw08_Op) (hk : o.Kind = 2) (n : Nat) (hn : n ≤ 50) (hN : o.N = (n : Int)) (x0 : Int) :
    ∀ (d k : Nat) (b : slab_Budget) (r : butteryref08_Budget), k + d = n → brel L b r → r.L.length + d ≤ 1000000 → ∃ z k' r', slab_Many_slab_Budget_Take_l0 x0 o.Class (n : Int) ((k : Int), b) = some z ∧ butterylaw08_SlabDoes_l3 x1 x2 v154 c173 c175 o (0, (k : Int), r) = some (k', r') ∧ (manyO n z).1 = k' ∧ brel L (manyO n z).2 r' ∧ r'.L.length ≤ r.L.length + d
  | 0, k, b, r, hd, h, hl => by
    refine ⟨.inl b, (k : Int), r, loopO_out ?_, loopO_out ?_, ?_, h, by omega⟩
    · simp only [slab_Many_slab_Budget_Take_b0, lt_eq]
      rw [if_neg (by rw [decide_eq_false (by omega)]; simp)]
    · simp only [butterylaw08_SlabDoes_b3, lt_eq, hN]
      rw [if_neg (by rw [decide_eq_false (by omega)]; simp)]
      simp
    · simp only [manyO]; omega
  | d + 1, k, b, r, hd, h, hl => by
    obtain ⟨e, b', x, r', t1, t2, t3, t4, t5, t6⟩ := take_both hL0 hL h (by omega) o.Class
    by_cases hx : x = 0
    · obtain ⟨z, k', r'', i1, i2, i3, i4, i5⟩ := manyTake_l hL0 hL x1 x2 v154 c173 c175 o hk n hn hN x0 d (k + 1) b' r' (by omega) t5 (by omega)
      refine ⟨z, k', r'', ?_, ?_, i3, i4, by omega⟩
      · rw [← i1]
        refine loopO_in (body := fun s => slab_Many_slab_Budget_Take_b0 x0 o.Class (n : Int) s.1 s.2) ?_
        simp only [slab_Many_slab_Budget_Take_b0, lt_eq, t1, Option.bind_some, t4, hx]
        rw [if_pos (decide_eq_true (by omega)), w64_nat (by omega)]; rfl
      · rw [← i2]
        refine loopO_in (body := fun s => butterylaw08_SlabDoes_b3 x1 x2 v154 c173 c175 o s.1 s.2.1 s.2.2) ?_
        simp only [butterylaw08_SlabDoes_b3, lt_eq, hN, hk, t2, Option.bind_some, hx]
        rw [if_pos (decide_eq_true (by omega)), w64_nat (by omega)]
        simp
    · refine ⟨.inr ((k : Int), b'), (k : Int), r', loopO_out ?_, ?_, rfl, t5, by omega⟩
      · simp only [slab_Many_slab_Budget_Take_b0, lt_eq, t1, Option.bind_some, t4]
        rw [if_pos (decide_eq_true (by omega))]; simp [hx]
      · have e1 : butterylaw08_SlabDoes_l3 x1 x2 v154 c173 c175 o (0, (k : Int), r) = butterylaw08_SlabDoes_l3 x1 x2 v154 c173 c175 o (x, (k : Int), r') := by
          refine loopO_in (body := fun s => butterylaw08_SlabDoes_b3 x1 x2 v154 c173 c175 o s.1 s.2.1 s.2.2) ?_
          simp only [butterylaw08_SlabDoes_b3, lt_eq, hN, hk, t2, Option.bind_some]
          rw [if_pos (decide_eq_true (by omega))]
          simp [hx]
        rw [e1]
        refine loopO_out ?_
        simp only [butterylaw08_SlabDoes_b3, lt_eq, hN]
        rw [if_pos (decide_eq_true (by omega))]
        simp [hx]
theorem manyGive_l {L : Int} (hL0 : 0 ≤ L) (hL : L ≤ 1099511627776) (x1 : List butterylaw08_Op) (x2 : Int) (v154 : butteryref08_Budget × Int) (c173 : Int) (c175 : slab_Budget) (o : butterylaw08_Op) (hk : (o.Kind == 2) = false) (n : Nat) (hn : n ≤ 50) (hN : o.N = (n : Int)) (x0 : Int) :
    ∀ (d k : Nat) (b : slab_Budget) (r : butteryref08_Budget), k + d = n → brel L b r → r.L.length + d ≤ 1000000 → ∃ z k' r', slab_Many_slab_Budget_Give_l0 x0 o.Class (n : Int) ((k : Int), b) = some z ∧ butterylaw08_SlabDoes_l3 x1 x2 v154 c173 c175 o (0, (k : Int), r) = some (k', r') ∧ (manyO n z).1 = k' ∧ brel L (manyO n z).2 r' ∧ r'.L.length ≤ r.L.length + d
  | 0, k, b, r, hd, h, hl => by
    refine ⟨.inl b, (k : Int), r, loopO_out ?_, loopO_out ?_, ?_, h, by omega⟩
    · simp only [slab_Many_slab_Budget_Give_b0, lt_eq]
      rw [if_neg (by rw [decide_eq_false (by omega)]; simp)]
    · simp only [butterylaw08_SlabDoes_b3, lt_eq, hN]
      rw [if_neg (by rw [decide_eq_false (by omega)]; simp)]
      simp
    · simp only [manyO]; omega
  | d + 1, k, b, r, hd, h, hl => by
    obtain ⟨e, b', x, r', t1, t2, t3, t4, t5, t6⟩ := give_both hL0 hL h (by omega) o.Class
    by_cases hx : x = 0
    · obtain ⟨z, k', r'', i1, i2, i3, i4, i5⟩ := manyGive_l hL0 hL x1 x2 v154 c173 c175 o hk n hn hN x0 d (k + 1) b' r' (by omega) t5 (by omega)
      refine ⟨z, k', r'', ?_, ?_, i3, i4, by omega⟩
      · rw [← i1]
        refine loopO_in (body := fun s => slab_Many_slab_Budget_Give_b0 x0 o.Class (n : Int) s.1 s.2) ?_
        simp only [slab_Many_slab_Budget_Give_b0, lt_eq, t1, Option.bind_some, t4, hx]
        rw [if_pos (decide_eq_true (by omega)), w64_nat (by omega)]; rfl
      · rw [← i2]
        refine loopO_in (body := fun s => butterylaw08_SlabDoes_b3 x1 x2 v154 c173 c175 o s.1 s.2.1 s.2.2) ?_
        simp only [butterylaw08_SlabDoes_b3, lt_eq, hN, hk, t2, Option.bind_some, hx]
        rw [if_pos (decide_eq_true (by omega)), w64_nat (by omega)]
        simp
    · refine ⟨.inr ((k : Int), b'), (k : Int), r', loopO_out ?_, ?_, rfl, t5, by omega⟩
      · simp only [slab_Many_slab_Budget_Give_b0, lt_eq, t1, Option.bind_some, t4]
        rw [if_pos (decide_eq_true (by omega))]; simp [hx]
      · have e1 : butterylaw08_SlabDoes_l3 x1 x2 v154 c173 c175 o (0, (k : Int), r) = butterylaw08_SlabDoes_l3 x1 x2 v154 c173 c175 o (x, (k : Int), r') := by
          refine loopO_in (body := fun s => butterylaw08_SlabDoes_b3 x1 x2 v154 c173 c175 o s.1 s.2.1 s.2.2) ?_
          simp only [butterylaw08_SlabDoes_b3, lt_eq, hN, hk, t2, Option.bind_some]
          rw [if_pos (decide_eq_true (by omega))]
          simp [hx]
        rw [e1]
        refine loopO_out ?_
        simp only [butterylaw08_SlabDoes_b3, lt_eq, hN]
        rw [if_pos (decide_eq_true (by omega))]
        simp [hx]
end Go.Proofs.YthjabhcbkbchjaaDoor
namespace Go.Proofs.YthjabhcbkbchjaaDoor
open Go Go.Va
set_option linter.unusedVariables false
set_option linter.unusedSimpArgs false
theorem fits_eq {L : Int} {b : slab_Budget} {r : butteryref08_Budget} (h : brel L b r) (n : Int) : ∃ v, slab_Budget_Fits b n = some v ∧ butteryref08_Fits r n = some v := by
  simp only [slab_Budget_Fits, butteryref08_Fits, class_eq, refClass_eq, size_eq, refSize_eq, Option.bind_some, lt_eq, h.lim, h.ok.lim]
  split
  · exact ⟨_, rfl, rfl⟩
  · exact ⟨_, rfl, rfl⟩
theorem left_eq8 {L : Int} (hL0 : 0 ≤ L) (hL : L ≤ 1099511627776) {b : slab_Budget} {r : butteryref08_Budget} (h : brel L b r) : slab_Budget_Left b = some (L - b.used) ∧ w64 (r.Limit - b.used) = L - b.used := by
  have := h.ok.le
  have := used_nn h.ok
  simp only [slab_Budget_Left, lt_eq, h.ok.lim, h.lim]
  rw [w64_eq (by omega) (by omega)]
  exact ⟨rfl, rfl⟩
theorem count_both {L : Int} {b : slab_Budget} {r : butteryref08_Budget} (h : brel L b r) (hl : r.L.length ≤ 1000000) (c : Int) : ∃ v, slab_Budget_Count b c = some v ∧ butteryref08_Count r c = some v := by
  rw [refCount_eq c (by omega)]
  by_cases h9 : c < 0 ∨ 9 ≤ c
  · have hz : sizeI c = 0 := by unfold sizeI; rw [if_pos h9]
    have : r.L.count c = 0 := List.count_eq_zero.2 (fun hm => h.cls c hm hz)
    refine ⟨0, ?_, by rw [this]; rfl⟩
    simp only [slab_Budget_Count, size_eq, Option.bind_some, lt_eq, hz]; rfl
  · obtain ⟨⟨i, hi⟩, rfl⟩ := upto9 h9
    exact ⟨_, by simp only; rw [count_i b i hi, h.cnt i hi], rfl⟩
end Go.Proofs.YthjabhcbkbchjaaDoor
namespace Go.Proofs.YthjabhcbkbchjaaDoor
open Go Go.Va
set_option linter.unusedSimpArgs false
set_option linter.unusedVariables false
def wf_runtime_boundsError (x : runtime_boundsError) : Prop := (wfI .i64) x.x ∧ (wfI .i64) x.y ∧ wfT x.signed ∧ wfT x.code
theorem opens7 : Opens Tryd.prog 7 e_runtime_boundsError wf_runtime_boundsError := by
  intro H enc w fuel cs x hx
  obtain ⟨xs, m, _, _, hl, hn, hx⟩ := DataW.trod_struct Tryd.underlying7 hx
  rw [cellsOf_sz tk sz7 (by decide)] at hl
  obtain ⟨y0, w0, r0, o0⟩ := opens_f hx hn 0 (o := 0) (s := 1) rfl (opens_i64 Tryd.underlying2) rfl (cellsOf_sz tk sz2 (by decide))
  obtain ⟨y1, w1, r1, o1⟩ := opens_f hx hn 1 (o := 1) (s := 1) rfl (opens_i64 Tryd.underlying3) rfl (cellsOf_sz tk sz3 (by decide))
  obtain ⟨y2, w2, r2, o2⟩ := opens_f hx hn 2 (o := 2) (s := 1) rfl (opens_b Tryd.underlying4) rfl (cellsOf_sz tk sz4 (by decide))
  obtain ⟨y3, w3, r3, o3⟩ := opens_f hx hn 3 (o := 3) (s := 1) rfl (opens_u rfl rfl Tryd.underlying6) rfl (cellsOf_sz tk sz6 (by decide))
  refine ⟨⟨y0, y1, y2, y3⟩, ⟨w0, w1, w2, w3⟩, ?_, ?_⟩
  · have h := (rel_piece r0 (rel_piece r1 (rel_piece r2 (rel_piece r3 (rel_end hl)))))
    rw [List.drop_zero] at h
    first | exact h | (simp only [List.append_nil, List.append_assoc] at h ⊢; exact h) | (simpa [AV.cells, e_runtime_boundsError, c_runtime_boundsError] using h)
  · have h := (one_piece o0 (one_piece o1 (one_piece o2 (one_piece o3 (one_end hl)))))
    rw [List.drop_zero] at h
    exact h
theorem opens8 : Opens Tryd.prog 8 e_runtime_boundsError wf_runtime_boundsError := by
  intro H enc w fuel cs x hx
  obtain ⟨xs, m, _, _, hl, hn, hx⟩ := DataW.trod_struct Tryd.underlying8 hx
  rw [cellsOf_sz tk sz8 (by decide)] at hl
  obtain ⟨y0, w0, r0, o0⟩ := opens_f hx hn 0 (o := 0) (s := 1) rfl (opens_i64 Tryd.underlying2) rfl (cellsOf_sz tk sz2 (by decide))
  obtain ⟨y1, w1, r1, o1⟩ := opens_f hx hn 1 (o := 1) (s := 1) rfl (opens_i64 Tryd.underlying3) rfl (cellsOf_sz tk sz3 (by decide))
  obtain ⟨y2, w2, r2, o2⟩ := opens_f hx hn 2 (o := 2) (s := 1) rfl (opens_b Tryd.underlying4) rfl (cellsOf_sz tk sz4 (by decide))
  obtain ⟨y3, w3, r3, o3⟩ := opens_f hx hn 3 (o := 3) (s := 1) rfl (opens_u rfl rfl Tryd.underlying6) rfl (cellsOf_sz tk sz6 (by decide))
  refine ⟨⟨y0, y1, y2, y3⟩, ⟨w0, w1, w2, w3⟩, ?_, ?_⟩
  · have h := (rel_piece r0 (rel_piece r1 (rel_piece r2 (rel_piece r3 (rel_end hl)))))
    rw [List.drop_zero] at h
    first | exact h | (simp only [List.append_nil, List.append_assoc] at h ⊢; exact h) | (simpa [AV.cells, e_runtime_boundsError, c_runtime_boundsError] using h)
  · have h := (one_piece o0 (one_piece o1 (one_piece o2 (one_piece o3 (one_end hl)))))
    rw [List.drop_zero] at h
    exact h
def wf_runtime_errorAddressString (x : runtime_errorAddressString) : Prop := wfS x.msg ∧ wfT x.addr
theorem opens13 : Opens Tryd.prog 13 e_runtime_errorAddressString wf_runtime_errorAddressString := by
  intro H enc w fuel cs x hx
  obtain ⟨xs, m, _, _, hl, hn, hx⟩ := DataW.trod_struct Tryd.underlying13 hx
  rw [cellsOf_sz tk sz13 (by decide)] at hl
  obtain ⟨y0, w0, r0, o0⟩ := opens_f hx hn 0 (o := 0) (s := 1) rfl (opens_s Tryd.underlying9) rfl (cellsOf_sz tk sz9 (by decide))
  obtain ⟨y1, w1, r1, o1⟩ := opens_f hx hn 1 (o := 1) (s := 1) rfl (opens_u rfl rfl Tryd.underlying12) rfl (cellsOf_sz tk sz12 (by decide))
  refine ⟨⟨y0, y1⟩, ⟨w0, w1⟩, ?_, ?_⟩
  · have h := (rel_piece r0 (rel_piece r1 (rel_end hl)))
    rw [List.drop_zero] at h
    first | exact h | (simp only [List.append_nil, List.append_assoc] at h ⊢; exact h) | (simpa [AV.cells, e_runtime_errorAddressString, c_runtime_errorAddressString] using h)
  · have h := (one_piece o0 (one_piece o1 (one_end hl)))
    rw [List.drop_zero] at h
    exact h
theorem opens14 : Opens Tryd.prog 14 e_runtime_errorAddressString wf_runtime_errorAddressString := by
  intro H enc w fuel cs x hx
  obtain ⟨xs, m, _, _, hl, hn, hx⟩ := DataW.trod_struct Tryd.underlying14 hx
  rw [cellsOf_sz tk sz14 (by decide)] at hl
  obtain ⟨y0, w0, r0, o0⟩ := opens_f hx hn 0 (o := 0) (s := 1) rfl (opens_s Tryd.underlying9) rfl (cellsOf_sz tk sz9 (by decide))
  obtain ⟨y1, w1, r1, o1⟩ := opens_f hx hn 1 (o := 1) (s := 1) rfl (opens_u rfl rfl Tryd.underlying12) rfl (cellsOf_sz tk sz12 (by decide))
  refine ⟨⟨y0, y1⟩, ⟨w0, w1⟩, ?_, ?_⟩
  · have h := (rel_piece r0 (rel_piece r1 (rel_end hl)))
    rw [List.drop_zero] at h
    first | exact h | (simp only [List.append_nil, List.append_assoc] at h ⊢; exact h) | (simpa [AV.cells, e_runtime_errorAddressString, c_runtime_errorAddressString] using h)
  · have h := (one_piece o0 (one_piece o1 (one_end hl)))
    rw [List.drop_zero] at h
    exact h
def wf_butterylaw08_Op (x : butterylaw08_Op) : Prop := (wfI .i64) x.Kind ∧ (wfI .i64) x.Class ∧ (wfI .i64) x.N
theorem opens32 : Opens Tryd.prog 32 e_butterylaw08_Op wf_butterylaw08_Op := by
  intro H enc w fuel cs x hx
  obtain ⟨xs, m, _, _, hl, hn, hx⟩ := DataW.trod_struct Tryd.underlying32 hx
  rw [cellsOf_sz tk sz32 (by decide)] at hl
  obtain ⟨y0, w0, r0, o0⟩ := opens_f hx hn 0 (o := 0) (s := 1) rfl (opens_i64 Tryd.underlying3) rfl (cellsOf_sz tk sz3 (by decide))
  obtain ⟨y1, w1, r1, o1⟩ := opens_f hx hn 1 (o := 1) (s := 1) rfl (opens_i64 Tryd.underlying3) rfl (cellsOf_sz tk sz3 (by decide))
  obtain ⟨y2, w2, r2, o2⟩ := opens_f hx hn 2 (o := 2) (s := 1) rfl (opens_i64 Tryd.underlying3) rfl (cellsOf_sz tk sz3 (by decide))
  refine ⟨⟨y0, y1, y2⟩, ⟨w0, w1, w2⟩, ?_, ?_⟩
  · have h := (rel_piece r0 (rel_piece r1 (rel_piece r2 (rel_end hl))))
    rw [List.drop_zero] at h
    first | exact h | (simp only [List.append_nil, List.append_assoc] at h ⊢; exact h) | (simpa [AV.cells, e_butterylaw08_Op, c_butterylaw08_Op] using h)
  · have h := (one_piece o0 (one_piece o1 (one_piece o2 (one_end hl))))
    rw [List.drop_zero] at h
    exact h
theorem opens33 : Opens Tryd.prog 33 e_butterylaw08_Op wf_butterylaw08_Op := by
  intro H enc w fuel cs x hx
  obtain ⟨xs, m, _, _, hl, hn, hx⟩ := DataW.trod_struct Tryd.underlying33 hx
  rw [cellsOf_sz tk sz33 (by decide)] at hl
  obtain ⟨y0, w0, r0, o0⟩ := opens_f hx hn 0 (o := 0) (s := 1) rfl (opens_i64 Tryd.underlying3) rfl (cellsOf_sz tk sz3 (by decide))
  obtain ⟨y1, w1, r1, o1⟩ := opens_f hx hn 1 (o := 1) (s := 1) rfl (opens_i64 Tryd.underlying3) rfl (cellsOf_sz tk sz3 (by decide))
  obtain ⟨y2, w2, r2, o2⟩ := opens_f hx hn 2 (o := 2) (s := 1) rfl (opens_i64 Tryd.underlying3) rfl (cellsOf_sz tk sz3 (by decide))
  refine ⟨⟨y0, y1, y2⟩, ⟨w0, w1, w2⟩, ?_, ?_⟩
  · have h := (rel_piece r0 (rel_piece r1 (rel_piece r2 (rel_end hl))))
    rw [List.drop_zero] at h
    first | exact h | (simp only [List.append_nil, List.append_assoc] at h ⊢; exact h) | (simpa [AV.cells, e_butterylaw08_Op, c_butterylaw08_Op] using h)
  · have h := (one_piece o0 (one_piece o1 (one_piece o2 (one_end hl))))
    rw [List.drop_zero] at h
    exact h
def wf_butteryref18_Policy (x : butteryref18_Policy) : Prop := (wfI .i64) x.Chance ∧ (wfI .i64) x.Limit ∧ (wfL wfT) x.L
theorem opens42 : Opens Tryd.prog 42 e_butteryref18_Policy wf_butteryref18_Policy := by
  intro H enc w fuel cs x hx
  obtain ⟨xs, m, _, _, hl, hn, hx⟩ := DataW.trod_struct Tryd.underlying42 hx
  rw [cellsOf_sz tk sz42 (by decide)] at hl
  obtain ⟨y0, w0, r0, o0⟩ := opens_f hx hn 0 (o := 0) (s := 1) rfl (opens_i64 Tryd.underlying3) rfl (cellsOf_sz tk sz3 (by decide))
  obtain ⟨y1, w1, r1, o1⟩ := opens_f hx hn 1 (o := 1) (s := 1) rfl (opens_i64 Tryd.underlying3) rfl (cellsOf_sz tk sz3 (by decide))
  obtain ⟨y2, w2, r2, o2⟩ := opens_f hx hn 2 (o := 2) (s := 1) rfl (opens_l tk Tryd.underlying41 (enc_u td48 sz48) (opens_u rfl rfl Tryd.underlying48)) rfl (cellsOf_sz tk sz41 (by decide))
  refine ⟨⟨y0, y1, y2⟩, ⟨w0, w1, w2⟩, ?_, ?_⟩
  · have h := (rel_piece r0 (rel_piece r1 (rel_piece r2 (rel_end hl))))
    rw [List.drop_zero] at h
    first | exact h | (simp only [List.append_nil, List.append_assoc] at h ⊢; exact h) | (simpa [AV.cells, e_butteryref18_Policy, c_butteryref18_Policy] using h)
  · have h := (one_piece o0 (one_piece o1 (one_piece o2 (one_end hl))))
    rw [List.drop_zero] at h
    exact h
theorem opens43 : Opens Tryd.prog 43 e_butteryref18_Policy wf_butteryref18_Policy := by
  intro H enc w fuel cs x hx
  obtain ⟨xs, m, _, _, hl, hn, hx⟩ := DataW.trod_struct Tryd.underlying43 hx
  rw [cellsOf_sz tk sz43 (by decide)] at hl
  obtain ⟨y0, w0, r0, o0⟩ := opens_f hx hn 0 (o := 0) (s := 1) rfl (opens_i64 Tryd.underlying3) rfl (cellsOf_sz tk sz3 (by decide))
  obtain ⟨y1, w1, r1, o1⟩ := opens_f hx hn 1 (o := 1) (s := 1) rfl (opens_i64 Tryd.underlying3) rfl (cellsOf_sz tk sz3 (by decide))
  obtain ⟨y2, w2, r2, o2⟩ := opens_f hx hn 2 (o := 2) (s := 1) rfl (opens_l tk Tryd.underlying41 (enc_u td48 sz48) (opens_u rfl rfl Tryd.underlying48)) rfl (cellsOf_sz tk sz41 (by decide))
  refine ⟨⟨y0, y1, y2⟩, ⟨w0, w1, w2⟩, ?_, ?_⟩
  · have h := (rel_piece r0 (rel_piece r1 (rel_piece r2 (rel_end hl))))
    rw [List.drop_zero] at h
    first | exact h | (simp only [List.append_nil, List.append_assoc] at h ⊢; exact h) | (simpa [AV.cells, e_butteryref18_Policy, c_butteryref18_Policy] using h)
  · have h := (one_piece o0 (one_piece o1 (one_piece o2 (one_end hl))))
    rw [List.drop_zero] at h
    exact h
def wf_butterylaw18_Ask (x : butterylaw18_Ask) : Prop := wfT x.Hash ∧ wfT x.Draw ∧ wfT x.Forget
theorem opens49 : Opens Tryd.prog 49 e_butterylaw18_Ask wf_butterylaw18_Ask := by
  intro H enc w fuel cs x hx
  obtain ⟨xs, m, _, _, hl, hn, hx⟩ := DataW.trod_struct Tryd.underlying49 hx
  rw [cellsOf_sz tk sz49 (by decide)] at hl
  obtain ⟨y0, w0, r0, o0⟩ := opens_f hx hn 0 (o := 0) (s := 1) rfl (opens_u rfl rfl Tryd.underlying48) rfl (cellsOf_sz tk sz48 (by decide))
  obtain ⟨y1, w1, r1, o1⟩ := opens_f hx hn 1 (o := 1) (s := 1) rfl (opens_u rfl rfl Tryd.underlying5) rfl (cellsOf_sz tk sz5 (by decide))
  obtain ⟨y2, w2, r2, o2⟩ := opens_f hx hn 2 (o := 2) (s := 1) rfl (opens_b Tryd.underlying4) rfl (cellsOf_sz tk sz4 (by decide))
  refine ⟨⟨y0, y1, y2⟩, ⟨w0, w1, w2⟩, ?_, ?_⟩
  · have h := (rel_piece r0 (rel_piece r1 (rel_piece r2 (rel_end hl))))
    rw [List.drop_zero] at h
    first | exact h | (simp only [List.append_nil, List.append_assoc] at h ⊢; exact h) | (simpa [AV.cells, e_butterylaw18_Ask, c_butterylaw18_Ask] using h)
  · have h := (one_piece o0 (one_piece o1 (one_piece o2 (one_end hl))))
    rw [List.drop_zero] at h
    exact h
theorem opens50 : Opens Tryd.prog 50 e_butterylaw18_Ask wf_butterylaw18_Ask := by
  intro H enc w fuel cs x hx
  obtain ⟨xs, m, _, _, hl, hn, hx⟩ := DataW.trod_struct Tryd.underlying50 hx
  rw [cellsOf_sz tk sz50 (by decide)] at hl
  obtain ⟨y0, w0, r0, o0⟩ := opens_f hx hn 0 (o := 0) (s := 1) rfl (opens_u rfl rfl Tryd.underlying48) rfl (cellsOf_sz tk sz48 (by decide))
  obtain ⟨y1, w1, r1, o1⟩ := opens_f hx hn 1 (o := 1) (s := 1) rfl (opens_u rfl rfl Tryd.underlying5) rfl (cellsOf_sz tk sz5 (by decide))
  obtain ⟨y2, w2, r2, o2⟩ := opens_f hx hn 2 (o := 2) (s := 1) rfl (opens_b Tryd.underlying4) rfl (cellsOf_sz tk sz4 (by decide))
  refine ⟨⟨y0, y1, y2⟩, ⟨w0, w1, w2⟩, ?_, ?_⟩
  · have h := (rel_piece r0 (rel_piece r1 (rel_piece r2 (rel_end hl))))
    rw [List.drop_zero] at h
    first | exact h | (simp only [List.append_nil, List.append_assoc] at h ⊢; exact h) | (simpa [AV.cells, e_butterylaw18_Ask, c_butterylaw18_Ask] using h)
  · have h := (one_piece o0 (one_piece o1 (one_piece o2 (one_end hl))))
    rw [List.drop_zero] at h
    exact h
def wf_butteryref08_Budget (x : butteryref08_Budget) : Prop := (wfI .i64) x.Limit ∧ (wfL (wfI .i64)) x.L
theorem opens60 : Opens Tryd.prog 60 e_butteryref08_Budget wf_butteryref08_Budget := by
  intro H enc w fuel cs x hx
  obtain ⟨xs, m, _, _, hl, hn, hx⟩ := DataW.trod_struct Tryd.underlying60 hx
  rw [cellsOf_sz tk sz60 (by decide)] at hl
  obtain ⟨y0, w0, r0, o0⟩ := opens_f hx hn 0 (o := 0) (s := 1) rfl (opens_i64 Tryd.underlying3) rfl (cellsOf_sz tk sz3 (by decide))
  obtain ⟨y1, w1, r1, o1⟩ := opens_f hx hn 1 (o := 1) (s := 1) rfl (opens_l tk Tryd.underlying59 (enc_i64 td3 sz3) (opens_i64 Tryd.underlying3)) rfl (cellsOf_sz tk sz59 (by decide))
  refine ⟨⟨y0, y1⟩, ⟨w0, w1⟩, ?_, ?_⟩
  · have h := (rel_piece r0 (rel_piece r1 (rel_end hl)))
    rw [List.drop_zero] at h
    first | exact h | (simp only [List.append_nil, List.append_assoc] at h ⊢; exact h) | (simpa [AV.cells, e_butteryref08_Budget, c_butteryref08_Budget] using h)
  · have h := (one_piece o0 (one_piece o1 (one_end hl)))
    rw [List.drop_zero] at h
    exact h
theorem opens61 : Opens Tryd.prog 61 e_butteryref08_Budget wf_butteryref08_Budget := by
  intro H enc w fuel cs x hx
  obtain ⟨xs, m, _, _, hl, hn, hx⟩ := DataW.trod_struct Tryd.underlying61 hx
  rw [cellsOf_sz tk sz61 (by decide)] at hl
  obtain ⟨y0, w0, r0, o0⟩ := opens_f hx hn 0 (o := 0) (s := 1) rfl (opens_i64 Tryd.underlying3) rfl (cellsOf_sz tk sz3 (by decide))
  obtain ⟨y1, w1, r1, o1⟩ := opens_f hx hn 1 (o := 1) (s := 1) rfl (opens_l tk Tryd.underlying59 (enc_i64 td3 sz3) (opens_i64 Tryd.underlying3)) rfl (cellsOf_sz tk sz59 (by decide))
  refine ⟨⟨y0, y1⟩, ⟨w0, w1⟩, ?_, ?_⟩
  · have h := (rel_piece r0 (rel_piece r1 (rel_end hl)))
    rw [List.drop_zero] at h
    first | exact h | (simp only [List.append_nil, List.append_assoc] at h ⊢; exact h) | (simpa [AV.cells, e_butteryref08_Budget, c_butteryref08_Budget] using h)
  · have h := (one_piece o0 (one_piece o1 (one_end hl)))
    rw [List.drop_zero] at h
    exact h
def wf_reflectlite_ValueError (x : reflectlite_ValueError) : Prop := wfS x.Method ∧ wfT x.Kind
theorem opens131 : Opens Tryd.prog 131 e_reflectlite_ValueError wf_reflectlite_ValueError := by
  intro H enc w fuel cs x hx
  obtain ⟨xs, m, _, _, hl, hn, hx⟩ := DataW.trod_struct Tryd.underlying131 hx
  rw [cellsOf_sz tk sz131 (by decide)] at hl
  obtain ⟨y0, w0, r0, o0⟩ := opens_f hx hn 0 (o := 0) (s := 1) rfl (opens_s Tryd.underlying9) rfl (cellsOf_sz tk sz9 (by decide))
  obtain ⟨y1, w1, r1, o1⟩ := opens_f hx hn 1 (o := 1) (s := 1) rfl (opens_u rfl rfl Tryd.underlying96) rfl (cellsOf_sz tk sz96 (by decide))
  refine ⟨⟨y0, y1⟩, ⟨w0, w1⟩, ?_, ?_⟩
  · have h := (rel_piece r0 (rel_piece r1 (rel_end hl)))
    rw [List.drop_zero] at h
    first | exact h | (simp only [List.append_nil, List.append_assoc] at h ⊢; exact h) | (simpa [AV.cells, e_reflectlite_ValueError, c_reflectlite_ValueError] using h)
  · have h := (one_piece o0 (one_piece o1 (one_end hl)))
    rw [List.drop_zero] at h
    exact h
theorem opens132 : Opens Tryd.prog 132 e_reflectlite_ValueError wf_reflectlite_ValueError := by
  intro H enc w fuel cs x hx
  obtain ⟨xs, m, _, _, hl, hn, hx⟩ := DataW.trod_struct Tryd.underlying132 hx
  rw [cellsOf_sz tk sz132 (by decide)] at hl
  obtain ⟨y0, w0, r0, o0⟩ := opens_f hx hn 0 (o := 0) (s := 1) rfl (opens_s Tryd.underlying9) rfl (cellsOf_sz tk sz9 (by decide))
  obtain ⟨y1, w1, r1, o1⟩ := opens_f hx hn 1 (o := 1) (s := 1) rfl (opens_u rfl rfl Tryd.underlying96) rfl (cellsOf_sz tk sz96 (by decide))
  refine ⟨⟨y0, y1⟩, ⟨w0, w1⟩, ?_, ?_⟩
  · have h := (rel_piece r0 (rel_piece r1 (rel_end hl)))
    rw [List.drop_zero] at h
    first | exact h | (simp only [List.append_nil, List.append_assoc] at h ⊢; exact h) | (simpa [AV.cells, e_reflectlite_ValueError, c_reflectlite_ValueError] using h)
  · have h := (one_piece o0 (one_piece o1 (one_end hl)))
    rw [List.drop_zero] at h
    exact h
def wf_abi_Method (x : abi_Method) : Prop := (wfI .i32) x.Name ∧ (wfI .i32) x.Mtyp ∧ (wfI .i32) x.Ifn ∧ (wfI .i32) x.Tfn
theorem opens140 : Opens Tryd.prog 140 e_abi_Method wf_abi_Method := by
  intro H enc w fuel cs x hx
  obtain ⟨xs, m, _, _, hl, hn, hx⟩ := DataW.trod_struct Tryd.underlying140 hx
  rw [cellsOf_sz tk sz140 (by decide)] at hl
  obtain ⟨y0, w0, r0, o0⟩ := opens_f hx hn 0 (o := 0) (s := 1) rfl (opens_i Tryd.underlying125) rfl (cellsOf_sz tk sz125 (by decide))
  obtain ⟨y1, w1, r1, o1⟩ := opens_f hx hn 1 (o := 1) (s := 1) rfl (opens_i Tryd.underlying126) rfl (cellsOf_sz tk sz126 (by decide))
  obtain ⟨y2, w2, r2, o2⟩ := opens_f hx hn 2 (o := 2) (s := 1) rfl (opens_i Tryd.underlying139) rfl (cellsOf_sz tk sz139 (by decide))
  obtain ⟨y3, w3, r3, o3⟩ := opens_f hx hn 3 (o := 3) (s := 1) rfl (opens_i Tryd.underlying139) rfl (cellsOf_sz tk sz139 (by decide))
  refine ⟨⟨y0, y1, y2, y3⟩, ⟨w0, w1, w2, w3⟩, ?_, ?_⟩
  · have h := (rel_piece r0 (rel_piece r1 (rel_piece r2 (rel_piece r3 (rel_end hl)))))
    rw [List.drop_zero] at h
    first | exact h | (simp only [List.append_nil, List.append_assoc] at h ⊢; exact h) | (simpa [AV.cells, e_abi_Method, c_abi_Method] using h)
  · have h := (one_piece o0 (one_piece o1 (one_piece o2 (one_piece o3 (one_end hl)))))
    rw [List.drop_zero] at h
    exact h
theorem opens141 : Opens Tryd.prog 141 e_abi_Method wf_abi_Method := by
  intro H enc w fuel cs x hx
  obtain ⟨xs, m, _, _, hl, hn, hx⟩ := DataW.trod_struct Tryd.underlying141 hx
  rw [cellsOf_sz tk sz141 (by decide)] at hl
  obtain ⟨y0, w0, r0, o0⟩ := opens_f hx hn 0 (o := 0) (s := 1) rfl (opens_i Tryd.underlying125) rfl (cellsOf_sz tk sz125 (by decide))
  obtain ⟨y1, w1, r1, o1⟩ := opens_f hx hn 1 (o := 1) (s := 1) rfl (opens_i Tryd.underlying126) rfl (cellsOf_sz tk sz126 (by decide))
  obtain ⟨y2, w2, r2, o2⟩ := opens_f hx hn 2 (o := 2) (s := 1) rfl (opens_i Tryd.underlying139) rfl (cellsOf_sz tk sz139 (by decide))
  obtain ⟨y3, w3, r3, o3⟩ := opens_f hx hn 3 (o := 3) (s := 1) rfl (opens_i Tryd.underlying139) rfl (cellsOf_sz tk sz139 (by decide))
  refine ⟨⟨y0, y1, y2, y3⟩, ⟨w0, w1, w2, w3⟩, ?_, ?_⟩
  · have h := (rel_piece r0 (rel_piece r1 (rel_piece r2 (rel_piece r3 (rel_end hl)))))
    rw [List.drop_zero] at h
    first | exact h | (simp only [List.append_nil, List.append_assoc] at h ⊢; exact h) | (simpa [AV.cells, e_abi_Method, c_abi_Method] using h)
  · have h := (one_piece o0 (one_piece o1 (one_piece o2 (one_piece o3 (one_end hl)))))
    rw [List.drop_zero] at h
    exact h
end Go.Proofs.YthjabhcbkbchjaaDoor
namespace Go.Proofs.YthjabhcbkbchjaaDoor
open Go Go.Va
set_option linter.unusedVariables false
set_option linter.unusedSimpArgs false
/-- What is looked at behind each act is alike. -/
theorem look {L : Int} (hL0 : 0 ≤ L) (hL : L ≤ 1099511627776) {b : slab_Budget} {r : butteryref08_Budget} (h : brel L b r) (hl : r.L.length ≤ 1000000) (c n : Int) :
    (slab_Budget_Used b).bind (fun v375 => (butteryref08_Used r).bind fun v377 => if (v375 != v377) = true then some true else (slab_Budget_Left b).bind fun v382 => (slab_Budget_Used b).bind fun v384 => if (v382 != w64 (r.Limit - v384)) = true then some true else (slab_Budget_Limit b).bind fun v391 => if (v391 != r.Limit) = true then some true else (slab_Budget_Count b c).bind fun v396 => (butteryref08_Count r c).bind fun v398 => if (v396 != v398) = true then some true else (slab_Budget_Fits b n).bind fun v403 => (butteryref08_Fits r n).bind fun v405 => some (v403 != v405)) = some false := by
  obtain ⟨v, f1, f2⟩ := fits_eq h n
  obtain ⟨w, c1, c2⟩ := count_both h hl c
  obtain ⟨l1, l2⟩ := left_eq8 hL0 hL h
  have hu := h.used
  have hle := h.ok.le
  simp only [slab_Budget_Used, Option.bind_some, refUsed_eq (r := r) (by omega) (by omega), ← hu, l1, l2, c1, c2, f1, f2, slab_Budget_Limit, h.ok.lim, h.lim, bne_self_eq_false]
  have hn := used_nn h.ok
  rw [w64_eq (n := L - b.used) (by omega) (by omega)]
  simp
theorem manyTake_eq {L : Int} (hL0 : 0 ≤ L) (hL : L ≤ 1099511627776) (x1 : List butterylaw08_Op) (x2 : Int) (v154 : butteryref08_Budget × Int) (c173 : Int) (c175 : slab_Budget) (o : butterylaw08_Op) (hk : o.Kind = 2) (hN : o.N ≤ 50) {b : slab_Budget} {r : butteryref08_Budget} (h : brel L b r) (hl : r.L.length ≤ 100000) :
    ∃ k b' r', slab_Many_slab_Budget_Take o.N o.Class b = some (k, b') ∧ butterylaw08_SlabDoes_l3 x1 x2 v154 c173 c175 o (0, 0, r) = some (k, r') ∧ brel L b' r' ∧ r'.L.length ≤ r.L.length + 50 := by
  by_cases h0 : 0 ≤ o.N
  · obtain ⟨n, hn⟩ : ∃ n : Nat, o.N = (n : Int) := ⟨o.N.toNat, by omega⟩
    obtain ⟨z, k', r', i1, i2, i3, i4, i5⟩ := manyTake_l hL0 hL x1 x2 v154 c173 c175 o hk n (by omega) hn o.N n 0 b r (by omega) h (by omega)
    refine ⟨k', (manyO n z).2, r', ?_, i2, i4, by omega⟩
    have e : (if (0 : Int) > o.N then (0 : Int) else o.N) = (n : Int) := by rw [if_neg (by omega), hn]
    simp only [slab_Many_slab_Budget_Take, lt_eq, e]
    rw [show ((0 : Nat) : Int) = 0 from rfl] at i1
    rw [i1]
    cases z with
    | inl b' => simp only [manyO] at i3; subst i3; rfl
    | inr p => simp only [manyO] at i3; subst i3; rfl
  · refine ⟨0, b, r, ?_, ?_, h, by omega⟩
    · have e : (if (0 : Int) > o.N then (0 : Int) else o.N) = 0 := by rw [if_pos (by omega)]
      simp only [slab_Many_slab_Budget_Take, lt_eq, e]
      rw [show slab_Many_slab_Budget_Take_l0 o.N o.Class 0 (0, b) = some (.inl b) from loopO_out (by simp [slab_Many_slab_Budget_Take_b0, lt_eq])]
      rfl
    · refine loopO_out ?_
      simp only [butterylaw08_SlabDoes_b3, lt_eq]
      rw [if_neg (by rw [decide_eq_false (by omega)]; simp)]; simp
theorem manyGive_eq {L : Int} (hL0 : 0 ≤ L) (hL : L ≤ 1099511627776) (x1 : List butterylaw08_Op) (x2 : Int) (v154 : butteryref08_Budget × Int) (c173 : Int) (c175 : slab_Budget) (o : butterylaw08_Op) (hk : (o.Kind == 2) = false) (hN : o.N ≤ 50) {b : slab_Budget} {r : butteryref08_Budget} (h : brel L b r) (hl : r.L.length ≤ 100000) :
    ∃ k b' r', slab_Many_slab_Budget_Give o.N o.Class b = some (k, b') ∧ butterylaw08_SlabDoes_l3 x1 x2 v154 c173 c175 o (0, 0, r) = some (k, r') ∧ brel L b' r' ∧ r'.L.length ≤ r.L.length + 50 := by
  by_cases h0 : 0 ≤ o.N
  · obtain ⟨n, hn⟩ : ∃ n : Nat, o.N = (n : Int) := ⟨o.N.toNat, by omega⟩
    obtain ⟨z, k', r', i1, i2, i3, i4, i5⟩ := manyGive_l hL0 hL x1 x2 v154 c173 c175 o hk n (by omega) hn o.N n 0 b r (by omega) h (by omega)
    refine ⟨k', (manyO n z).2, r', ?_, i2, i4, by omega⟩
    have e : (if (0 : Int) > o.N then (0 : Int) else o.N) = (n : Int) := by rw [if_neg (by omega), hn]
    simp only [slab_Many_slab_Budget_Give, lt_eq, e]
    rw [show ((0 : Nat) : Int) = 0 from rfl] at i1
    rw [i1]
    cases z with
    | inl b' => simp only [manyO] at i3; subst i3; rfl
    | inr p => simp only [manyO] at i3; subst i3; rfl
  · refine ⟨0, b, r, ?_, ?_, h, by omega⟩
    · have e : (if (0 : Int) > o.N then (0 : Int) else o.N) = 0 := by rw [if_pos (by omega)]
      simp only [slab_Many_slab_Budget_Give, lt_eq, e]
      rw [show slab_Many_slab_Budget_Give_l0 o.N o.Class 0 (0, b) = some (.inl b) from loopO_out (by simp [slab_Many_slab_Budget_Give_b0, lt_eq])]
      rfl
    · refine loopO_out ?_
      simp only [butterylaw08_SlabDoes_b3, lt_eq]
      rw [if_neg (by rw [decide_eq_false (by omega)]; simp)]; simp
theorem step {L : Int} (hL0 : 0 ≤ L) (hL : L ≤ 1099511627776) (x1 : List butterylaw08_Op) (x2 : Int) (v154 : butteryref08_Budget × Int) (hz : v154.2 = 0) (i : Nat) (hi : i < x1.length) (h60 : x1.length ≤ 60) {b : slab_Budget} {r : butteryref08_Budget} (h : brel L b r) (hl : r.L.length ≤ 51 * i) :
    butterylaw08_SlabDoes_b2 x1 x2 v154 (i : Int) r b = some (.inr (.inr true)) ∨ ∃ b' r', butterylaw08_SlabDoes_b2 x1 x2 v154 (i : Int) r b = some (.inl (((i + 1 : Nat) : Int), r', b')) ∧ brel L b' r' ∧ r'.L.length ≤ 51 * (i + 1) := by
  unfold butterylaw08_SlabDoes_b2
  simp only [lt_eq, hz, works08, Option.bind_some]
  rw [if_pos (decide_eq_true (by omega))]
  simp only [Option.bind_some, ix_nat hi, beq_self_eq_true, if_true]
  generalize x1[i] = o
  have fin : ∀ b' r', brel L b' r' → r'.L.length ≤ 51 * (i + 1) → ∀ {Z : Option (Bool)}, Z = some false → ((Z.bind fun s370 => if s370 = true then (some (.inr (.inr false)) : Option ((Int × butteryref08_Budget × slab_Budget) ⊕ ((butteryref08_Budget × slab_Budget) ⊕ (Bool)))) else some (.inl (w64 ((i : Int) + 1), r', b'))) = some (.inl (((i + 1 : Nat) : Int), r', b'))) := by
    rintro b' r' _ _ Z rfl
    simp only [Option.bind_some]
    rw [if_neg (by simp), w64_nat (by omega)]
  by_cases k0 : o.Kind = 0
  · right
    obtain ⟨e, b', x, r', t1, t2, t3, t4, t5, t6⟩ := take_both hL0 hL h (by omega) o.Class
    rw [if_pos (by rw [k0]; rfl)]
    simp only [t1, t2, Option.bind_some, trouble_Of, t3, bne_self_eq_false, if_false, Bool.false_eq_true]
    exact ⟨b', r', fin b' r' t5 (by omega) (look hL0 hL t5 (by omega) o.Class x2), t5, by omega⟩
  rw [if_neg (by simpa using k0)]
  by_cases k1 : o.Kind = 1
  · right
    obtain ⟨e, b', x, r', t1, t2, t3, t4, t5, t6⟩ := give_both hL0 hL h (by omega) o.Class
    rw [if_pos (by rw [k1]; rfl)]
    simp only [t1, t2, Option.bind_some, trouble_Of, t3, bne_self_eq_false, if_false, Bool.false_eq_true]
    exact ⟨b', r', fin b' r' t5 (by omega) (look hL0 hL t5 (by omega) o.Class x2), t5, by omega⟩
  rw [if_neg (by simpa using k1)]
  by_cases hN : o.N > 50
  · left
    rw [if_pos (decide_eq_true hN)]
    rfl
  rw [if_neg (by rw [decide_eq_false hN]; simp)]
  right
  by_cases k2 : o.Kind = 2
  · obtain ⟨k, b', r', m1, m2, m3, m4⟩ := manyTake_eq hL0 hL x1 x2 v154 (i : Int) b o k2 (by omega) h (by omega)
    have e1 : slab_Budget_Fill b o.Class o.N = some (k, b') := by simp only [slab_Budget_Fill, lt_eq, m1, Option.bind_some]
    simp only [m2, Option.bind_some, k2, e1, bne_self_eq_false, if_false, Bool.false_eq_true, beq_self_eq_true, if_true, show ((2 : Int) == 3) = false from rfl]
    exact ⟨b', r', fin b' r' m3 (by omega) (look hL0 hL m3 (by omega) o.Class x2), m3, by omega⟩
  · obtain ⟨k, b', r', m1, m2, m3, m4⟩ := manyGive_eq hL0 hL x1 x2 v154 (i : Int) b o (by simpa using k2) (by omega) h (by omega)
    have e2 : (o.Kind == 2) = false := by simpa using k2
    have e3 : (o.Kind != 2) = true := by simpa using k2
    by_cases k3 : o.Kind = 3
    · have e1 : slab_Budget_Drain b o.Class o.N = some (k, b') := by simp only [slab_Budget_Drain, lt_eq, m1, Option.bind_some]
      simp only [m2, Option.bind_some, k3, e1, bne_self_eq_false, if_false, Bool.false_eq_true, beq_self_eq_true, if_true, show ((3 : Int) == 2) = false from rfl, show ((3 : Int) != 2) = true from rfl]
      exact ⟨b', r', fin b' r' m3 (by omega) (look hL0 hL m3 (by omega) o.Class x2), m3, by omega⟩
    · have e4 : (o.Kind == 3) = false := by simpa using k3
      have e5 : (o.Kind != 3) = true := by simpa using k3
      simp only [m2, Option.bind_some, e2, e3, e4, e5, m1, bne_self_eq_false, if_false, Bool.false_eq_true, if_true]
      exact ⟨b', r', fin b' r' m3 (by omega) (look hL0 hL m3 (by omega) o.Class x2), m3, by omega⟩
theorem SlabDoes_pure (L : Int) (l : List butterylaw08_Op) (n : Int) (_ : wfI .i64 L) (_ : wfL wf_butterylaw08_Op l) (_ : wfI .i64 n) : butterylaw08_SlabDoes L l n = some true := by
  unfold butterylaw08_SlabDoes
  simp only [lt_eq, works08, Option.bind_some]
  by_cases h0 : l.length > 60
  · rw [if_pos (decide_eq_true (by omega))]
  rw [if_neg (by rw [decide_eq_false (by omega)]; simp)]
  by_cases hb : L < 1 ∨ L > 1099511627776
  · have hn : ∃ e, slab_New L = some (none, e) ∧ codeOf e = 2 := by
      simp only [slab_New, lt_eq]
      by_cases h1 : L < 1
      · rw [if_pos (decide_eq_true h1)]; exact ⟨_, rfl, rfl⟩
      · rw [if_neg (by rw [decide_eq_false h1]; simp), decide_eq_true (by omega : L > 1099511627776)]; exact ⟨_, rfl, rfl⟩
    obtain ⟨e, hn, he⟩ := hn
    have hr : butteryref08_New L = some (⟨0, []⟩, 2) := by
      simp only [butteryref08_New, lt_eq]
      by_cases h1 : L < 1
      · rw [if_pos (decide_eq_true h1)]; rfl
      · rw [if_neg (by rw [decide_eq_false h1]; simp), decide_eq_true (by omega : L > 1099511627776)]; rfl
    rw [hn, hr]
    simp only [Option.bind_some, Option.elim_none, trouble_Of, he, bne_self_eq_false, Bool.false_eq_true, if_false, show ((2 : Int) != 0) = true from rfl]
    have : butterylaw08_SlabDoes_l0 l n (⟨0, []⟩, 2) (0 : Int) = some (.inl ()) := by
      refine loopO_out ?_
      simp only [butterylaw08_SlabDoes_b0, lt_eq]
      by_cases hl : (0 : Int) < l.length
      · rw [if_pos (decide_eq_true hl)]; rfl
      · rw [if_neg (by rw [decide_eq_false hl]; simp)]; rfl
    rw [this]; rfl
  · have h1 : ¬ L < 1 := by omega
    have h2 : ¬ L > 1099511627776 := by omega
    have hn : slab_New L = some (some ⟨L, 0, Vector.replicate 9 0⟩, Err.nil) := by
      simp only [slab_New, lt_eq]
      rw [if_neg (by rw [decide_eq_false h1]; simp), decide_eq_false h2]; rfl
    have hr : butteryref08_New L = some (⟨L, []⟩, 0) := by
      simp only [butteryref08_New, lt_eq]
      rw [if_neg (by rw [decide_eq_false h1]; simp), decide_eq_false h2]; rfl
    rw [hn, hr]
    simp only [Option.bind_some, Option.elim_some, trouble_Of, codeOf, bne_self_eq_false, Bool.false_eq_true, if_false]
    have hb0 : brel L ⟨L, 0, Vector.replicate 9 0⟩ ⟨L, []⟩ := by
      have hz : ∀ i, (Vector.replicate 9 (0 : Int)).toList.getD i 0 = 0 := fun i => by
        rw [List.getD_eq_getElem?_getD, Vector.toList_replicate, List.getElem?_replicate]
        split <;> simp
      refine ⟨⟨rfl, rfl, fun i => ?_, by simp only; omega⟩, rfl, rfl, fun i hi => ?_, fun c hc => by cases hc⟩
      · simp only; rw [hz i]; exact Int.le_refl _
      · simp only; rw [hz i]; rfl
    have key := loopO_inv (body := fun s => butterylaw08_SlabDoes_b2 l n (⟨L, []⟩, 0) s.1 s.2.1 s.2.2) (fun s => ∃ (i : Nat) (b : slab_Budget) (r : butteryref08_Budget), brel L b r ∧ r.L.length ≤ 51 * i ∧ s = ((i : Int), r, b)) (fun s => l.length - s.1.toNat) (fun x => x = .inr true ∨ ∃ y, x = .inl y) (fun s => by
      rintro ⟨i, b, r, hb, hl, rfl⟩
      by_cases hi : i < l.length
      · rcases step (L := L) (by omega) (by omega) l n (⟨L, []⟩, 0) rfl i hi (by omega) hb hl with h | ⟨b', r', h, h3, h4⟩
        · right; exact ⟨_, h, .inl rfl⟩
        · left
          exact ⟨_, h, ⟨i + 1, b', r', h3, h4, rfl⟩, by simp only [Int.toNat_natCast]; omega⟩
      · right
        refine ⟨.inl (r, b), ?_, .inr ⟨_, rfl⟩⟩
        simp only [butterylaw08_SlabDoes_b2, lt_eq]
        rw [if_neg (by rw [decide_eq_false (by omega)]; simp)]
        rfl) (s := ((0 : Int), ⟨L, []⟩, ⟨L, 0, Vector.replicate 9 0⟩)) ⟨0, _, _, hb0, by simp, rfl⟩
    obtain ⟨x, h3, h4⟩ := key
    have h3' : butterylaw08_SlabDoes_l2 l n (⟨L, []⟩, 0) ((0 : Int), ⟨L, []⟩, ⟨L, 0, Vector.replicate 9 0⟩) = some x := h3
    rw [h3']
    rcases h4 with rfl | ⟨y, rfl⟩ <;> rfl
end Go.Proofs.YthjabhcbkbchjaaDoor
namespace Go.Proofs.YthjabhcbkbchjaaDoor
open Go.ChangeShapes Go.WideShapes Go.RowKit
theorem own : ownKnob Tryd.prog.godebug = none := by kernel_rfl
theorem laidEt : Tryd.prog.globalNamed "errors.errorType" = some 0 := by kernel_rfl
theorem laidRt : (Tryd.prog.cutTypes.find? (·.1 == "internal/reflectlite.rtype")).map (·.2) = some 101 := by kernel_rfl
theorem laidRow : ((List.range 143).filter fun t => Tryd.prog.rowNamed t [101, 114, 114, 111, 114]) = [29] := by kernel_rfl
theorem laidSize : Tryd.prog.types.size = 143 := by kernel_rfl
def laidL {H : Type} : List (String × DataW H) := [("errors.errorType", Rows.laid_errors_errorType)]
theorem handle_of_laid {W : World} (h : laidMetH Tryd.prog laidL W) : W.cell? ⟨0, 0, none⟩ = some (.iface 101 (.agg #[.pointer (some ⟨1, 29, none⟩)])) := by
  have h' : laidMet Tryd.prog [] W ∧ handlesMet Tryd.prog laidL W := h
  obtain ⟨name, u, ty, e1, e2, e3, e4, e5⟩ := h'.2 _ (List.mem_singleton.2 rfl)
  have en : name = [101, 114, 114, 111, 114] := (Option.some.inj e1).symm
  subst en
  obtain rfl := Option.some.inj (laidRt.symm.trans e2)
  have hm : ty ∈ (List.range 143).filter fun t => Tryd.prog.rowNamed t [101, 114, 114, 111, 114] := List.mem_filter.2 ⟨List.mem_range.2 (by rw [← laidSize]; exact e3), e4⟩
  rw [laidRow] at hm
  obtain rfl := List.mem_singleton.1 hm
  have hh : typeHandle Tryd.prog 29 = .pointer (some ⟨1, 29, none⟩) := by kernel_rfl
  rw [hh] at e5
  simpa using World.var?_cell laidEt e5 0
/-- A world that meets the condition. -/
noncomputable def laidWorld (os : Os) : World :=
  let w0 := World.holding Tryd.prog os ⟨#[], #[], []⟩
  { w0 with heap := w0.heap.modify 0 fun
      | .cells _ t frozen => .cells #[.iface 101 (.agg #[.pointer (some ⟨1, 29, none⟩)])] t frozen
      | o => o }
theorem laidWorld_met (os : Os) (args : Array Value) : laidMetH Tryd.prog laidL ((laidWorld os).forCall (fun _ _ => 0) ⟨#[], args, []⟩).memory :=
  laidMetH_of_parts (laidMet_nil _ _) (by kernel_rfl)
theorem gls_met {W : World} (h : laidMetH Tryd.prog laidL W) : ∀ p ∈ gls, W.cell? p.1 = some p.2 := by
  intro p hp
  obtain rfl := List.mem_singleton.1 hp
  exact handle_of_laid h
theorem laidOut : laidOutB Tryd.prog = true := by kernel_rfl
end Go.Proofs.YthjabhcbkbchjaaDoor
