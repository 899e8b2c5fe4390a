/- WHAT IS USED IS LAST TO GO: a node that was touched is ahead of all others of its list, which stay in their order; if there are others, it is not the oldest. (part 6 of 7) -/
import Derived.Test.YtobbifgmjkgkfaaDoorKListsTouch5
import Derived.ChangeSame
import Derived.ChangeVars
import Derived.JoinedOf
import Derived.LaidHandle
import Derived.LaidLaws
import Derived.RowKit
import Derived.RowKitTokens
import Derived.Stop.Joined
import Derived.Test.YtobbifgmjkgkfaaDoorRows
namespace Go.Proofs.YtobbifgmjkgkfaaDoor
open Go Go.Va
set_option linter.unusedVariables false
set_option linter.unusedSimpArgs false
set_option maxRecDepth 20000
theorem butterylaw09_ListsTouch_ok {x0 : List butterylaw09_Op} {x1 : BitVec 8} {r : Bool} (H : butterylaw09_ListsTouch x0 x1 = some r) (σ : St)  (hg : σ.gl = gls) : ACall Tryd.prog 7 [((eL 2 e_butterylaw09_Op) x0), ((@eU .u8 8) x1)] σ (fun a τ => a = eB r ∧ τ = σ) := by
  unfold butterylaw09_ListsTouch at H
  refine ACall.pure (acall_start tk Tryd.func7 (by decide) rfl (Nat.le_of_ble_eq_true rfl) ?_)
  have hH := Holds.init σ
  refine awp_seq ?_
  refine awp_region rfl ?_
  refine wpo_mv (a := (eB false)) rfl rfl rfl (o_as tk rfl (Wk.refl _)) ?_
  refine wpo_nil ?_
  refine awp_seq ?_
  refine awp_seq ?_
  refine awp_region rfl ?_
  refine wpo_mv (a := ((eL 2 e_butterylaw09_Op) x0)) rfl rfl rfl (o_mv tk rfl (Wk.refl _)) ?_
  refine wpo_lt H eI rfl rfl rfl (o_len tk td57 rfl) fun v2 H1 => ?_
  refine wpo_lt H1 eB rfl rfl rfl (o_ar tk rfl rfl rfl) fun v4 H3 => ?_
  refine wpo_nil ?_
  refine awp_if H3 rfl (fun H5 => ?_) (fun H5 => ?_)
  · refine awp_seq ?_
    refine awp_region rfl ?_
    refine wpo_bdr H5 eB rfl rfl rfl (fun v7 hv => h_callr rfl rfl .nil (butterylaw09_works_ok hv _ (hH.gl.trans hg))) fun v7 hv7 H6 => ?_
    refine wpo_mv (a := (eB v7)) rfl rfl rfl (o_as tk rfl (Wk.refl _)) ?_
    refine wpo_nil ?_
    refine awp_ret ?_
    obtain rfl := Option.some.inj H6
    exact ⟨_, (eB v7), rfl, (.of_eq rfl), .of_eq ((enc_b td4 sz4).cut _ _ _), hH.noT⟩
  · refine awp_skip ?_
    refine awp_seq ?_
    refine awp_region rfl ?_
    obtain ⟨v9, hvv9, H8⟩ := Option.bind_eq_some_iff.1 H5
    rcases hz13 : v9.1 with _ | c10
    · rw [hz13, Option.elim_none] at H8
      refine wpo_a (av := fun _ => .tup [.nilp, (eErr v9.2)]) rfl rfl rfl (h_callnb0 hH hz13 rfl rfl (.cons (.of_eq rfl) (.cons (.of_eq rfl) .nil)) (lists_New_ok hvv9 _)) fun _ τ hH => ?_
      refine wpo_mv (a := (.tup [.nilp, (eErr v9.2)])) rfl rfl rfl (o_mv tk rfl (Wk.refl _)) ?_
      refine wpo_mv (a := .nilp) rfl rfl rfl (o_ext tk rfl rfl) ?_
      refine wpo_mv (a := (eErr v9.2)) rfl rfl rfl (o_ext tk rfl rfl) ?_
      refine wpo_mv (a := .nilp) rfl rfl rfl (o_as tk rfl (Wk.refl _)) ?_
      refine wpo_mv (a := (eErr v9.2)) rfl rfl rfl (o_as tk rfl (Wk.refl _)) ?_
      refine wpo_nil ?_
      refine awp_seq ?_
      refine awp_seq ?_
      obtain ⟨s14, hs16, hj17⟩ := Option.bind_eq_some_iff.1 H8
      refine awp_cutn (fun fr τ => WkF fr (fm [(0, ((eL 2 e_butterylaw09_Op) x0)), (1, ((@eU .u8 8) x1)), (5, .nilp), (27, (eB true))]) ∧ Holds σ [] [] τ) ?_ ?_
      · rintro fr τ ⟨hfr, hH⟩
        have H21 := hj17
        refine AWP.fm [(0, ((eL 2 e_butterylaw09_Op) x0)), (1, ((@eU .u8 8) x1)), (5, .nilp), (27, (eB true))] hfr ?_
        refine awp_true rfl ?_
        refine awp_seq ?_
        refine awp_region rfl ?_
        refine wpo_mv (a := (eB false)) rfl rfl rfl (o_as tk rfl (Wk.refl _)) ?_
        refine wpo_nil ?_
        refine awp_ret ?_
        obtain rfl := Option.some.inj H21
        exact ⟨_, (eB false), rfl, (.of_eq rfl), .of_eq ((enc_b td4 sz4).cut _ _ _), hH.noT⟩
      · refine awp_region rfl ?_
        refine wpo_mv (a := (eErr v9.2)) rfl rfl rfl (o_mv tk rfl (Wk.refl _)) ?_
        refine wpo_lt hs16 eB rfl rfl rfl (o_err_neq tk rfl rfl rfl) fun v19 H18 => ?_
        refine wpo_mv (a := (eB v19)) rfl rfl rfl (o_mv tk rfl (Wk.refl _)) ?_
        refine if_split H18 (fun hb H20 => ?_) (fun hb H20 => ?_)
        · subst hb
          refine wpo_skip rfl rfl rfl ?_
          refine wpo_skip rfl rfl rfl ?_
          refine wpo_mv (a := (eB true)) rfl rfl rfl (o_pick_t tk rfl rfl (Wk.refl _)) ?_
          refine wpo_nil ?_
          have e := Option.some.inj H20
          subst e
          exact ⟨(wkf_cons (.of_eq rfl) (wkf_cons (.of_eq rfl) (wkf_cons (.of_eq rfl) (wkf_cons (.of_eq rfl) (wkf_nil _))))), hH⟩
        · subst hb
          refine wpo_mv (a := .nilp) rfl rfl rfl (o_mv tk rfl (Wk.refl _)) ?_
          refine wpo_mv (a := (eB true)) rfl rfl rfl (o_c tk false rfl (fun _ => rfl)) ?_
          refine wpo_mv (a := (eB true)) rfl rfl rfl (o_pick_f tk rfl rfl (Wk.refl _)) ?_
          refine wpo_nil ?_
          have e := Option.some.inj H20
          subst e
          exact ⟨(wkf_cons (.of_eq rfl) (wkf_cons (.of_eq rfl) (wkf_cons (.of_eq rfl) (wkf_cons (.of_eq rfl) (wkf_nil _))))), hH⟩
    · rw [hz13, Option.elim_some] at H8
      refine wpo_a (av := fun id => .tup [.ref id 0, (eErr v9.2)]) rfl rfl rfl (h_callnb1 hH hz13 rfl rfl (.cons (.of_eq rfl) (.cons (.of_eq rfl) .nil)) (lists_New_ok hvv9 _)) fun id11 τ ⟨hH, n12⟩ => ?_
      obtain ⟨id11_nodes, h_id11_nodes⟩ : ∃ x, x = id11 + 1 := ⟨_, rfl⟩
      obtain ⟨id11_first_, h_id11_first_⟩ : ∃ x, x = id11 + 2 := ⟨_, rfl⟩
      obtain ⟨id11_last_, h_id11_last_⟩ : ∃ x, x = id11 + 3 := ⟨_, rfl⟩
      obtain ⟨id11_count, h_id11_count⟩ : ∃ x, x = id11 + 4 := ⟨_, rfl⟩
      have hH : Holds σ [(id11, [(.vec id11_nodes 4 (c10.nodes).length), (.vec id11_first_ 1 (c10.first_).length), (.vec id11_last_ 1 (c10.last_).length), (.vec id11_count 1 (c10.count).length), (eI c10.free), (eI c10.clock)]), (id11_nodes, (cL e_lists_link c10.nodes)), (id11_first_, (cL eI c10.first_)), (id11_last_, (cL eI c10.last_)), (id11_count, (cL eI c10.count))] [] τ := by rw [h_id11_nodes, h_id11_first_, h_id11_last_, h_id11_count]; exact hH
      have n12_1 : σ.objs.length ≤ id11_nodes := by omega
      have n12_2 : σ.objs.length ≤ id11_first_ := by omega
      have n12_3 : σ.objs.length ≤ id11_last_ := by omega
      have n12_4 : σ.objs.length ≤ id11_count := by omega
      refine wpo_mv (a := (.tup [(.ref id11 0), (eErr v9.2)])) rfl rfl rfl (o_mv tk rfl (Wk.refl _)) ?_
      refine wpo_mv (a := (.ref id11 0)) rfl rfl rfl (o_ext tk rfl rfl) ?_
      refine wpo_mv (a := (eErr v9.2)) rfl rfl rfl (o_ext tk rfl rfl) ?_
      refine wpo_mv (a := (.ref id11 0)) rfl rfl rfl (o_as tk rfl (Wk.refl _)) ?_
      refine wpo_mv (a := (eErr v9.2)) rfl rfl rfl (o_as tk rfl (Wk.refl _)) ?_
      refine wpo_nil ?_
      refine awp_seq ?_
      refine awp_seq ?_
      obtain ⟨s22, hs24, hj25⟩ := Option.bind_eq_some_iff.1 H8
      refine awp_cutn (fun fr τ => WkF fr (fm [(0, ((eL 2 e_butterylaw09_Op) x0)), (1, ((@eU .u8 8) x1)), (5, (.ref id11 0)), (27, (eB s22))]) ∧ Holds σ [(id11, [(.vec id11_nodes 4 (c10.nodes).length), (.vec id11_first_ 1 (c10.first_).length), (.vec id11_last_ 1 (c10.last_).length), (.vec id11_count 1 (c10.count).length), (eI c10.free), (eI c10.clock)]), (id11_nodes, (cL e_lists_link c10.nodes)), (id11_first_, (cL eI c10.first_)), (id11_last_, (cL eI c10.last_)), (id11_count, (cL eI c10.count))] [] τ) ?_ ?_
      · rintro fr τ ⟨hfr, hH⟩
        have H29 := hj25
        refine AWP.fm [(0, ((eL 2 e_butterylaw09_Op) x0)), (1, ((@eU .u8 8) x1)), (5, (.ref id11 0)), (27, (eB s22))] hfr ?_
        refine awp_if H29 rfl (fun H30 => ?_) (fun H30 => ?_)
        · refine awp_seq ?_
          refine awp_region rfl ?_
          refine wpo_mv (a := (eB false)) rfl rfl rfl (o_as tk rfl (Wk.refl _)) ?_
          refine wpo_nil ?_
          refine awp_ret ?_
          obtain rfl := Option.some.inj H30
          exact ⟨_, (eB false), rfl, (.of_eq rfl), .of_eq ((enc_b td4 sz4).cut _ _ _), (((((hH.noT.drop n12).drop n12_1).drop n12_2).drop n12_3).drop n12_4)⟩
        · refine awp_skip ?_
          refine awp_seq ?_
          refine awp_region rfl ?_
          refine wpo_bd H30 (fun r => .tup [e_butteryref09_Lists r.1, eI r.2]) rfl rfl rfl (fun v32 hv => OpP.of_call rfl rfl (.cons (.of_eq rfl) (.cons (.of_eq rfl) .nil)) (butteryref09_New_ok hv)) fun v32 hv32 H31 => ?_
          refine wpo_mv (a := (.tup [(e_butteryref09_Lists v32.1), (eI v32.2)])) rfl rfl rfl (o_mv tk rfl (Wk.refl _)) ?_
          refine wpo_mv (a := (e_butteryref09_Lists v32.1)) rfl rfl rfl (o_ext tk rfl rfl) ?_
          refine wpo_mv (a := (eI v32.2)) rfl rfl rfl (o_ext tk rfl rfl) ?_
          refine wpo_a (av := fun id => .ref id 0) rfl rfl rfl (h_alloc tk hH ty64 [AV.nils, AV.nils, AV.nils, (eI z_butteryref09_Lists.Nodes)] rfl) fun id33 τ ⟨hH, n34⟩ => ?_
          refine wpo_z rfl rfl (h_st tk hH 0 rfl ty64 (by simp) rfl rfl (.of_eq rfl) (b := (e_butteryref09_Lists v32.1)) (enc64.flat _) rfl (Nat.le_of_ble_eq_true rfl) (c_butteryref09_Lists (v32.1 : butteryref09_Lists)) rfl) fun τ hH => ?_
          refine wpo_mv (a := (eI v32.2)) rfl rfl rfl (o_as tk rfl (Wk.refl _)) ?_
          refine wpo_nil ?_
          refine awp_seq ?_
          refine awp_seq ?_
          refine awp_region rfl ?_
          refine wpo_mv (a := (eI (0 : Int))) rfl rfl rfl (o_as tk rfl (Wk.refl _)) ?_
          refine wpo_nil ?_
          refine awp_block ?_
          obtain ⟨s50, hs44, hj45⟩ := Option.bind_eq_some_iff.1 H31
          refine awp_cutx 0 (fun fr τ => WkF fr (fm [(1, ((@eU .u8 8) x1)), (5, (.ref id11 0)), (7, (.ref id33 0))]) ∧ Holds σ [(id33, (c_butteryref09_Lists s50.1)), (id11, [(.vec id11_nodes 4 (s50.2.2.1).length), (.vec id11_first_ 1 (s50.2.2.2.1).length), (.vec id11_last_ 1 (s50.2.2.2.2.1).length), (.vec id11_count 1 (s50.2.2.2.2.2).length), (eI s50.2.1.free), (eI s50.2.1.clock)]), (id11_nodes, (cL e_lists_link s50.2.2.1)), (id11_first_, (cL eI s50.2.2.2.1)), (id11_last_, (cL eI s50.2.2.2.2.1)), (id11_count, (cL eI s50.2.2.2.2.2))] [] τ) ?_ ?_
          · rintro fr τ ⟨hfr, hH⟩
            have H66 := hj45
            refine AWP.fm [(1, ((@eU .u8 8) x1)), (5, (.ref id11 0)), (7, (.ref id33 0))] hfr ?_
            refine awp_seq ?_
            refine awp_seq ?_
            refine awp_region rfl ?_
            refine wpo_mv (a := (.ref id33 2)) rfl rfl rfl (o_c tk false rfl (fun _ => rfl)) ?_
            refine wpo_rd (a := ((eL 1 eI) s50.1.Used)) rfl rfl rfl (h_ld tk hH 0 rfl rfl rfl) ?_
            refine wpo_lt H66 eI rfl rfl rfl (o_len tk td62 rfl) fun v68 H67 => ?_
            refine wpo_lt H67 eB rfl rfl rfl (o_ar tk rfl rfl rfl) fun v70 H69 => ?_
            refine wpo_nil ?_
            refine awp_if H69 rfl (fun H71 => ?_) (fun H71 => ?_)
            · refine awp_seq ?_
              refine awp_region rfl ?_
              refine wpo_mv (a := (.ref id11 0)) rfl rfl rfl (o_mv tk rfl (Wk.refl _)) ?_
              refine wpo_bdr H71 eI rfl rfl rfl (fun v73 hv => h_callr rfl rfl (.cons (.of_eq rfl) .nil) (lists_Lists_Oldest_ok hv _ (hH.at_ 1 rfl) (hH.at_ 2 rfl) (hH.at_ 3 rfl) (hH.at_ 4 rfl) (hH.at_ 5 rfl) (hH.pw [1, 2, 3, 4, 5] rfl (by decide)))) fun v73 hv73 H72 => ?_
              refine wpo_lt H72 eB rfl rfl rfl (o_ar tk rfl rfl rfl) fun v75 H74 => ?_
              refine wpo_mv (a := (eB v75)) rfl rfl rfl (o_mv tk rfl (Wk.refl _)) ?_
              refine if_split H74 (fun hb H76 => ?_) (fun hb H76 => ?_)
              · subst hb
                refine wpo_bdr H76 eB rfl rfl rfl (fun v78 hv => h_callr rfl rfl .nil (butterylaw09_works_ok hv _ (hH.gl.trans hg))) fun v78 hv78 H77 => ?_
                refine wpo_mv (a := (eB v78)) rfl rfl rfl (o_pick_t tk rfl rfl (Wk.refl _)) ?_
                refine wpo_mv (a := (eB v78)) rfl rfl rfl (o_as tk rfl (Wk.refl _)) ?_
                refine wpo_nil ?_
                refine awp_ret ?_
                obtain rfl := Option.some.inj H77
                exact ⟨_, (eB v78), rfl, (.of_eq rfl), .of_eq ((enc_b td4 sz4).cut _ _ _), ((((((hH.noT.drop n34).drop n12).drop n12_1).drop n12_2).drop n12_3).drop n12_4)⟩
              · subst hb
                refine wpo_skip rfl rfl rfl ?_
                refine wpo_mv (a := (eB false)) rfl rfl rfl (o_pick_f tk rfl rfl (Wk.refl _)) ?_
                refine wpo_mv (a := (eB false)) rfl rfl rfl (o_as tk rfl (Wk.refl _)) ?_
                refine wpo_nil ?_
                refine awp_ret ?_
                obtain rfl := Option.some.inj H76
                exact ⟨_, (eB false), rfl, (.of_eq rfl), .of_eq ((enc_b td4 sz4).cut _ _ _), ((((((hH.noT.drop n34).drop n12).drop n12_1).drop n12_2).drop n12_3).drop n12_4)⟩
            · refine awp_skip ?_
              refine awp_seq ?_
              refine awp_drawS mixed [] rfl (by decide +kernel) rfl rfl ?_
              refine wpdS_mv (a := (.ref id33 2)) rfl rfl rfl (o_c tk false rfl (fun _ => rfl)) ?_
              refine wpdS_rd (a := ((eL 1 eI) s50.1.Used)) rfl (by decide +kernel) rfl rfl (h_ld tk hH 0 rfl rfl rfl) ?_
              refine wpdS_mv (a := ((@eU .u8 8) x1)) rfl rfl rfl (o_mv tk rfl (Wk.refl _)) ?_
              refine wpdS_lt H71 eI rfl rfl rfl (o_cv_ui tk td5 td3 (by decide) rfl) fun v80 H79 => ?_
              refine wpdS_mv (a := (.ref id33 2)) rfl rfl rfl (o_c tk false rfl (fun _ => rfl)) ?_
              refine wpdS_rd (a := ((eL 1 eI) s50.1.Used)) rfl (by decide +kernel) rfl rfl (h_ld tk hH 0 rfl rfl rfl) ?_
              refine wpdS_lt H79 eI rfl rfl rfl (o_len tk td62 rfl) fun v82 H81 => ?_
              refine wpdS_bd H81 eI rfl rfl rfl (fun v84 hv => om_rem tk hv rfl rfl) fun v84 hv84 H83 => ?_
              refine wpdS_bd H83 (fun y => .fptr (eI y).cells 0) rfl rfl rfl (fun v86 hv => o_ixa tk hv td62 (enc_i64 td3 sz3) rfl rfl) fun v86 hv86 H85 => ?_
              refine wpdS_mv (a := (eI v86)) rfl rfl rfl (o_ld_e tk (enc_i64 td3 sz3) rfl rfl) ?_
              refine wpdS_mv (a := (eI v86)) rfl rfl rfl (o_as tk rfl (Wk.refl _)) ?_
              refine wpdS_nil ?_
              refine awp_seq ?_
              refine awp_region rfl ?_
              refine wpo_mv (a := (.ref id11 0)) rfl rfl rfl (o_mv tk rfl (Wk.refl _)) ?_
              refine wpo_mv (a := (eI v86)) rfl rfl rfl (o_mv tk rfl (Wk.refl _)) ?_
              refine wpo_bdr H85 eI rfl rfl rfl (fun v88 hv => h_callr rfl rfl (.cons (.of_eq rfl) (.cons (.of_eq rfl) .nil)) (lists_Lists_List_ok hv _ (hH.at_ 1 rfl) (hH.at_ 2 rfl) (hH.at_ 3 rfl) (hH.at_ 4 rfl) (hH.at_ 5 rfl) (hH.pw [1, 2, 3, 4, 5] rfl (by decide)))) fun v88 hv88 H87 => ?_
              refine wpo_mv (a := (eI v88)) rfl rfl rfl (o_as tk rfl (Wk.refl _)) ?_
              refine wpo_nil ?_
              refine awp_seq ?_
              refine awp_region rfl ?_
              refine wpo_mv (a := (.ref id11 0)) rfl rfl rfl (o_mv tk rfl (Wk.refl _)) ?_
              refine wpo_mv (a := (eI v88)) rfl rfl rfl (o_mv tk rfl (Wk.refl _)) ?_
              refine wpo_bdr H87 (eL 1 eI) rfl rfl rfl (fun v90 hv => h_callr rfl rfl (.cons (.of_eq rfl) (.cons (.of_eq rfl) .nil)) (lists_Lists_Order_ok hv _ (hH.at_ 1 rfl) (hH.at_ 2 rfl) (hH.at_ 3 rfl) (hH.at_ 4 rfl) (hH.at_ 5 rfl) (hH.pw [1, 2, 3, 4, 5] rfl (by decide)))) fun v90 hv90 H89 => ?_
              refine wpo_mv (a := ((eL 1 eI) v90)) rfl rfl rfl (o_as tk rfl (Wk.refl _)) ?_
              refine wpo_nil ?_
              refine awp_seq ?_
              refine awp_seq ?_
              refine awp_region rfl ?_
              refine wpo_mv (a := (.ref id11 0)) rfl rfl rfl (o_mv tk rfl (Wk.refl _)) ?_
              refine wpo_mv (a := (eI v86)) rfl rfl rfl (o_mv tk rfl (Wk.refl _)) ?_
              refine wpo_cb H89 (fun x _ => eErr x.1) rfl rfl rfl (fun v92 hv => h_call1 hH [(1, (id11, [(.vec id11_nodes 4 (v92.2.nodes).length), (.vec id11_first_ 1 (v92.2.first_).length), (.vec id11_last_ 1 (v92.2.last_).length), (.vec id11_count 1 (v92.2.count).length), (eI v92.2.free), (eI v92.2.clock)])), (2, (id11_nodes, (cL e_lists_link v92.2.nodes))), (3, (id11_first_, (cL eI v92.2.first_))), (4, (id11_last_, (cL eI v92.2.last_))), (5, (id11_count, (cL eI v92.2.count)))] ⟨⟨_, rfl⟩, ⟨⟨_, rfl⟩, ⟨⟨_, rfl⟩, ⟨⟨_, rfl⟩, ⟨⟨_, rfl⟩, trivial⟩⟩⟩⟩⟩ rfl rfl (.cons (.of_eq rfl) (.cons (.of_eq rfl) .nil)) (lists_Lists_Touch_ok hv _ (hH.at_ 1 rfl) (hH.at_ 2 rfl) (hH.at_ 3 rfl) (hH.at_ 4 rfl) (hH.at_ 5 rfl) (hH.pw [1, 2, 3, 4, 5] rfl (by decide)))) fun v92 _ τ hv92 H91 (hH : Holds σ [(id33, (c_butteryref09_Lists s50.1)), (id11, [(.vec id11_nodes 4 (v92.2.nodes).length), (.vec id11_first_ 1 (v92.2.first_).length), (.vec id11_last_ 1 (v92.2.last_).length), (.vec id11_count 1 (v92.2.count).length), (eI v92.2.free), (eI v92.2.clock)]), (id11_nodes, (cL e_lists_link v92.2.nodes)), (id11_first_, (cL eI v92.2.first_)), (id11_last_, (cL eI v92.2.last_)), (id11_count, (cL eI v92.2.count))] [] τ) => ?_
              refine wpo_lt H91 eB rfl rfl rfl (o_err_neq tk rfl rfl rfl) fun v94 H93 => ?_
              refine wpo_nil ?_
              refine awp_if H93 rfl (fun H95 => ?_) (fun H95 => ?_)
              · refine awp_seq ?_
                refine awp_region rfl ?_
                refine wpo_mv (a := (eB false)) rfl rfl rfl (o_as tk rfl (Wk.refl _)) ?_
                refine wpo_nil ?_
                refine awp_ret ?_
                obtain rfl := Option.some.inj H95
                exact ⟨_, (eB false), rfl, (.of_eq rfl), .of_eq ((enc_b td4 sz4).cut _ _ _), ((((((hH.noT.drop n34).drop n12).drop n12_1).drop n12_2).drop n12_3).drop n12_4)⟩
              · refine awp_skip ?_
                refine awp_seq ?_
                refine awp_region rfl ?_
                refine wpo_mv (a := (.ref id11 0)) rfl rfl rfl (o_mv tk rfl (Wk.refl _)) ?_
                refine wpo_mv (a := (eI v88)) rfl rfl rfl (o_mv tk rfl (Wk.refl _)) ?_
                refine wpo_bdr H95 (eL 1 eI) rfl rfl rfl (fun v97 hv => h_callr rfl rfl (.cons (.of_eq rfl) (.cons (.of_eq rfl) .nil)) (lists_Lists_Order_ok hv _ (hH.at_ 1 rfl) (hH.at_ 2 rfl) (hH.at_ 3 rfl) (hH.at_ 4 rfl) (hH.at_ 5 rfl) (hH.pw [1, 2, 3, 4, 5] rfl (by decide)))) fun v97 hv97 H96 => ?_
                refine wpo_mv (a := ((eL 1 eI) v97)) rfl rfl rfl (o_as tk rfl (Wk.refl _)) ?_
                refine wpo_nil ?_
                refine awp_seq ?_
                refine awp_seq ?_
                obtain ⟨s98, hs100, hj101⟩ := Option.bind_eq_some_iff.1 H96
                refine awp_cutn (fun fr τ => WkF fr (fm [(5, (.ref id11 0)), (7, (.ref id33 0)), (10, (eI v86)), (12, ((eL 1 eI) v90)), (13, ((eL 1 eI) v97)), (97, (eB s98))]) ∧ Holds σ [(id33, (c_butteryref09_Lists s50.1)), (id11, [(.vec id11_nodes 4 (v92.2.nodes).length), (.vec id11_first_ 1 (v92.2.first_).length), (.vec id11_last_ 1 (v92.2.last_).length), (.vec id11_count 1 (v92.2.count).length), (eI v92.2.free), (eI v92.2.clock)]), (id11_nodes, (cL e_lists_link v92.2.nodes)), (id11_first_, (cL eI v92.2.first_)), (id11_last_, (cL eI v92.2.last_)), (id11_count, (cL eI v92.2.count))] [] τ) ?_ ?_
                · rintro fr τ ⟨hfr, hH⟩
                  have H118 := hj101
                  refine AWP.fm [(5, (.ref id11 0)), (7, (.ref id33 0)), (10, (eI v86)), (12, ((eL 1 eI) v90)), (13, ((eL 1 eI) v97)), (97, (eB s98))] hfr ?_
                  refine awp_if H118 rfl (fun H119 => ?_) (fun H119 => ?_)
                  · refine awp_seq ?_
                    refine awp_region rfl ?_
                    refine wpo_mv (a := (eB false)) rfl rfl rfl (o_as tk rfl (Wk.refl _)) ?_
                    refine wpo_nil ?_
                    refine awp_ret ?_
                    obtain rfl := Option.some.inj H119
                    exact ⟨_, (eB false), rfl, (.of_eq rfl), .of_eq ((enc_b td4 sz4).cut _ _ _), ((((((hH.noT.drop n34).drop n12).drop n12_1).drop n12_2).drop n12_3).drop n12_4)⟩
                  · refine awp_skip ?_
                    refine awp_seq ?_
                    refine awp_drawS mixed [] rfl (by decide +kernel) rfl rfl ?_
                    refine wpdS_mv (a := ((eL 1 eI) v97)) rfl rfl rfl (o_mv tk rfl (Wk.refl _)) ?_
                    refine wpdS_bd H119 (eL 1 eI) rfl rfl rfl (fun v121 hv => o_cutFrom tk hv td62 (enc_i64 td3 sz3) rfl rfl) fun v121 hv121 H120 => ?_
                    refine wpdS_mv (a := ((eL 1 eI) v90)) rfl rfl rfl (o_mv tk rfl (Wk.refl _)) ?_
                    refine wpdS_mv (a := (eI v86)) rfl rfl rfl (o_mv tk rfl (Wk.refl _)) ?_
                    refine wpdS_bd H120 (eL 1 eI) rfl rfl rfl (fun v123 hv => OpP.of_call rfl rfl (.cons (.of_eq rfl) (.cons (.of_eq rfl) .nil)) (butteryref09_But_ok hv)) fun v123 hv123 H122 => ?_
                    refine wpdS_bd H122 eB rfl rfl rfl (fun v125 hv => OpP.of_call rfl rfl (.cons (.of_eq rfl) (.cons (.of_eq rfl) .nil)) (butteryref02_Ints_ok hv)) fun v125 hv125 H124 => ?_
                    refine wpdS_mv (a := (eB v125)) rfl rfl rfl (o_mv tk rfl (Wk.refl _)) ?_
                    refine if_split H124 (fun hb H126 => ?_) (fun hb H126 => ?_)
                    · subst hb
                      refine wpdS_mv (a := (.ref id33 2)) rfl rfl rfl (o_c tk false rfl (fun _ => rfl)) ?_
                      refine wpdS_rd (a := ((eL 1 eI) s50.1.Used)) rfl (by decide +kernel) rfl rfl (h_ld tk hH 0 rfl rfl rfl) ?_
                      refine wpdS_lt H126 eI rfl rfl rfl (o_len tk td62 rfl) fun v128 H127 => ?_
                      refine wpdS_lt H127 eB rfl rfl rfl (o_ar tk rfl rfl rfl) fun v130 H129 => ?_
                      refine wpdS_mv (a := (eB v130)) rfl rfl rfl (o_mv tk rfl (Wk.refl _)) ?_
                      refine if_split H129 (fun hb H131 => ?_) (fun hb H131 => ?_)
                      · subst hb
                        refine wpdS_skip rfl rfl rfl ?_
                        refine wpdS_skip rfl rfl rfl ?_
                        refine wpdS_skip rfl rfl rfl ?_
                        refine wpdS_skip rfl rfl rfl ?_
                        refine wpdS_mv (a := (eB true)) rfl rfl rfl (o_pick_t tk rfl rfl (Wk.refl _)) ?_
                        refine wpdS_mv (a := (eB true)) rfl rfl rfl (o_pick_t tk rfl rfl (Wk.refl _)) ?_
                        refine wpdS_mv (a := (eB true)) rfl rfl rfl (o_mv tk rfl (Wk.refl _)) ?_
                        refine wpdS_bdr H131 eB rfl (by decide +kernel) rfl rfl (fun v133 hv => h_callr rfl rfl .nil (butterylaw09_works_ok hv _ (hH.gl.trans hg))) fun v133 hv133 H132 => ?_
                        refine wpdS_mv (a := (eB v133)) rfl rfl rfl (o_pick_t tk rfl rfl (Wk.refl _)) ?_
                        refine wpdS_mv (a := (eB v133)) rfl rfl rfl (o_as tk rfl (Wk.refl _)) ?_
                        refine wpdS_nil ?_
                        refine awp_ret ?_
                        obtain rfl := Option.some.inj H132
                        exact ⟨_, (eB v133), rfl, (.of_eq rfl), .of_eq ((enc_b td4 sz4).cut _ _ _), ((((((hH.noT.drop n34).drop n12).drop n12_1).drop n12_2).drop n12_3).drop n12_4)⟩
                      · subst hb
                        refine wpdS_mv (a := (.ref id11 0)) rfl rfl rfl (o_mv tk rfl (Wk.refl _)) ?_
                        refine wpdS_bdr H131 eI rfl (by decide +kernel) rfl rfl (fun v135 hv => h_callr rfl rfl (.cons (.of_eq rfl) .nil) (lists_Lists_Oldest_ok hv _ (hH.at_ 1 rfl) (hH.at_ 2 rfl) (hH.at_ 3 rfl) (hH.at_ 4 rfl) (hH.at_ 5 rfl) (hH.pw [1, 2, 3, 4, 5] rfl (by decide)))) fun v135 hv135 H134 => ?_
                        refine wpdS_mv (a := (eI v86)) rfl rfl rfl (o_mv tk rfl (Wk.refl _)) ?_
                        refine wpdS_lt H134 eB rfl rfl rfl (o_ar tk rfl rfl rfl) fun v137 H136 => ?_
                        refine wpdS_mv (a := (eB v137)) rfl rfl rfl (o_pick_f tk rfl rfl (Wk.refl _)) ?_
                        refine wpdS_mv (a := (eB v137)) rfl rfl rfl (o_pick_t tk rfl rfl (Wk.refl _)) ?_
                        refine wpdS_mv (a := (eB v137)) rfl rfl rfl (o_mv tk rfl (Wk.refl _)) ?_
                        refine if_split H136 (fun hb H138 => ?_) (fun hb H138 => ?_)
                        · subst hb
                          refine wpdS_bdr H138 eB rfl (by decide +kernel) rfl rfl (fun v140 hv => h_callr rfl rfl .nil (butterylaw09_works_ok hv _ (hH.gl.trans hg))) fun v140 hv140 H139 => ?_
                          refine wpdS_mv (a := (eB v140)) rfl rfl rfl (o_pick_t tk rfl rfl (Wk.refl _)) ?_
                          refine wpdS_mv (a := (eB v140)) rfl rfl rfl (o_as tk rfl (Wk.refl _)) ?_
                          refine wpdS_nil ?_
                          refine awp_ret ?_
                          obtain rfl := Option.some.inj H139
                          exact ⟨_, (eB v140), rfl, (.of_eq rfl), .of_eq ((enc_b td4 sz4).cut _ _ _), ((((((hH.noT.drop n34).drop n12).drop n12_1).drop n12_2).drop n12_3).drop n12_4)⟩
                        · subst hb
                          refine wpdS_skip rfl rfl rfl ?_
                          refine wpdS_mv (a := (eB false)) rfl rfl rfl (o_pick_f tk rfl rfl (Wk.refl _)) ?_
                          refine wpdS_mv (a := (eB false)) rfl rfl rfl (o_as tk rfl (Wk.refl _)) ?_
                          refine wpdS_nil ?_
                          refine awp_ret ?_
                          obtain rfl := Option.some.inj H138
                          exact ⟨_, (eB false), rfl, (.of_eq rfl), .of_eq ((enc_b td4 sz4).cut _ _ _), ((((((hH.noT.drop n34).drop n12).drop n12_1).drop n12_2).drop n12_3).drop n12_4)⟩
                    · subst hb
                      refine wpdS_skip rfl rfl rfl ?_
                      refine wpdS_skip rfl rfl rfl ?_
                      refine wpdS_skip rfl rfl rfl ?_
                      refine wpdS_skip rfl rfl rfl ?_
                      refine wpdS_skip rfl rfl rfl ?_
                      refine wpdS_skip rfl rfl rfl ?_
                      refine wpdS_skip rfl rfl rfl ?_
                      refine wpdS_skip rfl rfl rfl ?_
                      refine wpdS_skip rfl rfl rfl ?_
                      refine wpdS_skip rfl rfl rfl ?_
                      refine wpdS_mv (a := (eB false)) rfl rfl rfl (o_pick_f tk rfl rfl (Wk.refl _)) ?_
                      refine wpdS_mv (a := (eB false)) rfl rfl rfl (o_mv tk rfl (Wk.refl _)) ?_
                      refine wpdS_skip rfl rfl rfl ?_
                      refine wpdS_mv (a := (eB false)) rfl rfl rfl (o_pick_f tk rfl rfl (Wk.refl _)) ?_
                      refine wpdS_mv (a := (eB false)) rfl rfl rfl (o_as tk rfl (Wk.refl _)) ?_
                      refine wpdS_nil ?_
                      refine awp_ret ?_
                      obtain rfl := Option.some.inj H126
                      exact ⟨_, (eB false), rfl, (.of_eq rfl), .of_eq ((enc_b td4 sz4).cut _ _ _), ((((((hH.noT.drop n34).drop n12).drop n12_1).drop n12_2).drop n12_3).drop n12_4)⟩
                · refine awp_region rfl ?_
                  refine wpo_mv (a := ((eL 1 eI) v97)) rfl rfl rfl (o_mv tk rfl (Wk.refl _)) ?_
                  refine wpo_lt hs100 eI rfl rfl rfl (o_len tk td62 rfl) fun v103 H102 => ?_
                  refine wpo_mv (a := ((eL 1 eI) v90)) rfl rfl rfl (o_mv tk rfl (Wk.refl _)) ?_
                  refine wpo_lt H102 eI rfl rfl rfl (o_len tk td62 rfl) fun v105 H104 => ?_
                  refine wpo_lt H104 eB rfl rfl rfl (o_ar tk rfl rfl rfl) fun v107 H106 => ?_
                  refine wpo_mv (a := (eB v107)) rfl rfl rfl (o_mv tk rfl (Wk.refl _)) ?_
                  refine if_split H106 (fun hb H108 => ?_) (fun hb H108 => ?_)
                  · subst hb
                    refine wpo_skip rfl rfl rfl ?_
                    refine wpo_skip rfl rfl rfl ?_
                    refine wpo_skip rfl rfl rfl ?_
                    refine wpo_mv (a := (eB true)) rfl rfl rfl (o_pick_t tk rfl rfl (Wk.refl _)) ?_
                    refine wpo_mv (a := (eB true)) rfl rfl rfl (o_mv tk rfl (Wk.refl _)) ?_
                    refine wpo_skip rfl rfl rfl ?_
                    refine wpo_skip rfl rfl rfl ?_
                    refine wpo_skip rfl rfl rfl ?_
                    refine wpo_skip rfl rfl rfl ?_
                    refine wpo_skip rfl rfl rfl ?_
                    refine wpo_mv (a := (eB true)) rfl rfl rfl (o_pick_t tk rfl rfl (Wk.refl _)) ?_
                    refine wpo_nil ?_
                    have e := Option.some.inj H108
                    subst e
                    exact ⟨(wkf_cons (.of_eq rfl) (wkf_cons (.of_eq rfl) (wkf_cons (.of_eq rfl) (wkf_cons (.of_eq rfl) (wkf_cons (.of_eq rfl) (wkf_cons (.of_eq rfl) (wkf_nil _))))))), hH⟩
                  · subst hb
                    refine wpo_mv (a := ((eL 1 eI) v97)) rfl rfl rfl (o_mv tk rfl (Wk.refl _)) ?_
                    refine wpo_lt H108 eI rfl rfl rfl (o_len tk td62 rfl) fun v110 H109 => ?_
                    refine wpo_lt H109 eB rfl rfl rfl (o_ar tk rfl rfl rfl) fun v112 H111 => ?_
                    refine wpo_mv (a := (eB v112)) rfl rfl rfl (o_pick_f tk rfl rfl (Wk.refl _)) ?_
                    refine wpo_mv (a := (eB v112)) rfl rfl rfl (o_mv tk rfl (Wk.refl _)) ?_
                    refine if_split H111 (fun hb H113 => ?_) (fun hb H113 => ?_)
                    · subst hb
                      refine wpo_skip rfl rfl rfl ?_
                      refine wpo_skip rfl rfl rfl ?_
                      refine wpo_skip rfl rfl rfl ?_
                      refine wpo_skip rfl rfl rfl ?_
                      refine wpo_skip rfl rfl rfl ?_
                      refine wpo_mv (a := (eB true)) rfl rfl rfl (o_pick_t tk rfl rfl (Wk.refl _)) ?_
                      refine wpo_nil ?_
                      have e := Option.some.inj H113
                      subst e
                      exact ⟨(wkf_cons (.of_eq rfl) (wkf_cons (.of_eq rfl) (wkf_cons (.of_eq rfl) (wkf_cons (.of_eq rfl) (wkf_cons (.of_eq rfl) (wkf_cons (.of_eq rfl) (wkf_nil _))))))), hH⟩
                    · subst hb
                      refine wpo_mv (a := ((eL 1 eI) v97)) rfl rfl rfl (o_mv tk rfl (Wk.refl _)) ?_
                      refine wpo_bd H113 (fun y => .fptr (eI y).cells 0) rfl rfl rfl (fun v115 hv => o_ixa tk hv td62 (enc_i64 td3 sz3) rfl rfl) fun v115 hv115 H114 => ?_
                      refine wpo_mv (a := (eI v115)) rfl rfl rfl (o_ld_e tk (enc_i64 td3 sz3) rfl rfl) ?_
                      refine wpo_mv (a := (eI v86)) rfl rfl rfl (o_mv tk rfl (Wk.refl _)) ?_
                      refine wpo_lt H114 eB rfl rfl rfl (o_ar tk rfl rfl rfl) fun v117 H116 => ?_
                      refine wpo_mv (a := (eB v117)) rfl rfl rfl (o_pick_f tk rfl rfl (Wk.refl _)) ?_
                      refine wpo_nil ?_
                      have e := Option.some.inj H116
                      subst e
                      exact ⟨(wkf_cons (.of_eq rfl) (wkf_cons (.of_eq rfl) (wkf_cons (.of_eq rfl) (wkf_cons (.of_eq rfl) (wkf_cons (.of_eq rfl) (wkf_cons (.of_eq rfl) (wkf_nil _))))))), hH⟩
          · refine awp_loopO (body := fun s => butterylaw09_ListsTouch_b0 x0 x1 s.1 s.2.1 s.2.2.1 s.2.2.2.1 s.2.2.2.2.1 s.2.2.2.2.2.1 s.2.2.2.2.2.2) hs44 (fun (s : Int × butteryref09_Lists × lists_Lists × (List lists_link) × (List Int) × (List Int) × (List Int)) fr τ => WkF fr (fm [(0, ((eL 2 e_butterylaw09_Op) x0)), (1, ((@eU .u8 8) x1)), (5, (.ref id11 0)), (7, (.ref id33 0)), (9, (eI s.1))]) ∧ Holds σ [(id33, (c_butteryref09_Lists s.2.1)), (id11, [(.vec id11_nodes 4 (s.2.2.2.1).length), (.vec id11_first_ 1 (s.2.2.2.2.1).length), (.vec id11_last_ 1 (s.2.2.2.2.2.1).length), (.vec id11_count 1 (s.2.2.2.2.2.2).length), (eI s.2.2.1.free), (eI s.2.2.1.clock)]), (id11_nodes, (cL e_lists_link s.2.2.2.1)), (id11_first_, (cL eI s.2.2.2.2.1)), (id11_last_, (cL eI s.2.2.2.2.2.1)), (id11_count, (cL eI s.2.2.2.2.2.2))] [] τ) ⟨(wkf_cons (.of_eq rfl) (wkf_cons (.of_eq rfl) (wkf_cons (.of_eq rfl) (wkf_cons (.of_eq rfl) (wkf_cons (.of_eq rfl) (wkf_nil _)))))), hH⟩ ?_
            rintro ⟨c36, c37, c38, c39, c40, c41, c42⟩ fr τ y46 ⟨hfr, hH⟩ hb48 hy49
            have H51 : butterylaw09_ListsTouch_b0 x0 x1 c36 c37 c38 c39 c40 c41 c42 = some y46 := hb48
            unfold butterylaw09_ListsTouch_b0 at H51
            refine AWP.fm [(0, ((eL 2 e_butterylaw09_Op) x0)), (1, ((@eU .u8 8) x1)), (5, (.ref id11 0)), (7, (.ref id33 0)), (9, (eI c36))] hfr ?_
            have hH : Holds σ [(id33, (c_butteryref09_Lists c37)), (id11, [(.vec id11_nodes 4 (c39).length), (.vec id11_first_ 1 (c40).length), (.vec id11_last_ 1 (c41).length), (.vec id11_count 1 (c42).length), (eI c38.free), (eI c38.clock)]), (id11_nodes, (cL e_lists_link c39)), (id11_first_, (cL eI c40)), (id11_last_, (cL eI c41)), (id11_count, (cL eI c42))] [] τ := hH
            refine awp_seq ?_
            refine awp_seq ?_
            refine awp_region rfl ?_
            refine wpo_mv (a := (eI c36)) rfl rfl rfl (o_mv tk rfl (Wk.refl _)) ?_
            refine wpo_mv (a := ((eL 2 e_butterylaw09_Op) x0)) rfl rfl rfl (o_mv tk rfl (Wk.refl _)) ?_
            refine wpo_lt H51 eI rfl rfl rfl (o_len tk td57 rfl) fun v53 H52 => ?_
            refine wpo_lt H52 eB rfl rfl rfl (o_ar tk rfl rfl rfl) fun v55 H54 => ?_
            refine wpo_nil ?_
            refine awp_if H54 rfl (fun H56 => ?_) (fun H56 => ?_)
            · refine awp_skip ?_
              refine awp_seq ?_
              refine awp_block ?_
              refine awp_drawS mixed [6, 10] rfl (by decide +kernel) rfl rfl ?_
              refine wpdS_mv (a := (.ref id11 0)) rfl rfl rfl (o_mv tk rfl (Wk.refl _)) ?_
              refine wpdS_rd (a := (e_butteryref09_Lists c37)) rfl (by decide +kernel) rfl rfl (h_ld tk hH 0 rfl rfl rfl) ?_
              refine wpdS_mv (a := ((eL 2 e_butterylaw09_Op) x0)) rfl rfl rfl (o_mv tk rfl (Wk.refl _)) ?_
              refine wpdS_mv (a := (eI c36)) rfl rfl rfl (o_mv tk rfl (Wk.refl _)) ?_
              refine wpdS_bd H56 (fun y => .fptr (e_butterylaw09_Op y).cells 0) rfl rfl rfl (fun v58 hv => o_ixa tk hv td57 enc70 rfl rfl) fun v58 hv58 H57 => ?_
              refine wpdS_mv (a := (e_butterylaw09_Op v58)) rfl rfl rfl (o_ld_e tk enc70 rfl rfl) ?_
              refine wpdS_cb H57 (fun x _ => .tup [e_butteryref09_Lists x.1, eB x.2.1]) rfl rfl rfl (fun v60 hv => h_call1 hH [(1, (id11, [(.vec id11_nodes 4 (v60.2.2.nodes).length), (.vec id11_first_ 1 (v60.2.2.first_).length), (.vec id11_last_ 1 (v60.2.2.last_).length), (.vec id11_count 1 (v60.2.2.count).length), (eI v60.2.2.free), (eI v60.2.2.clock)])), (2, (id11_nodes, (cL e_lists_link v60.2.2.nodes))), (3, (id11_first_, (cL eI v60.2.2.first_))), (4, (id11_last_, (cL eI v60.2.2.last_))), (5, (id11_count, (cL eI v60.2.2.count)))] ⟨⟨_, rfl⟩, ⟨⟨_, rfl⟩, ⟨⟨_, rfl⟩, ⟨⟨_, rfl⟩, ⟨⟨_, rfl⟩, trivial⟩⟩⟩⟩⟩ rfl rfl (.cons (.of_eq rfl) (.cons (.of_eq rfl) (.cons (.of_eq rfl) .nil))) (butterylaw09_do_ok hv _ (hH.at_ 1 rfl) (hH.at_ 2 rfl) (hH.at_ 3 rfl) (hH.at_ 4 rfl) (hH.at_ 5 rfl) (hH.pw [1, 2, 3, 4, 5] rfl (by decide)) (hH.gl.trans hg))) fun v60 _ τ hv60 H59 (hH : Holds σ [(id33, (c_butteryref09_Lists c37)), (id11, [(.vec id11_nodes 4 (v60.2.2.nodes).length), (.vec id11_first_ 1 (v60.2.2.first_).length), (.vec id11_last_ 1 (v60.2.2.last_).length), (.vec id11_count 1 (v60.2.2.count).length), (eI v60.2.2.free), (eI v60.2.2.clock)]), (id11_nodes, (cL e_lists_link v60.2.2.nodes)), (id11_first_, (cL eI v60.2.2.first_)), (id11_last_, (cL eI v60.2.2.last_)), (id11_count, (cL eI v60.2.2.count))] [] τ) => ?_
              refine wpdS_mv (a := (.tup [(e_butteryref09_Lists v60.1), (eB v60.2.1)])) rfl rfl rfl (o_mv tk rfl (Wk.refl _)) ?_
              refine wpdS_mv (a := (e_butteryref09_Lists v60.1)) rfl rfl rfl (o_ext tk rfl rfl) ?_
              refine wpdS_mv (a := (eB v60.2.1)) rfl rfl rfl (o_ext tk rfl rfl) ?_
              obtain ⟨c62, hc63, H61⟩ := lt_ex H59
              refine wpdS_z rfl rfl rfl (h_st tk hH 0 rfl ty64 (by simp) rfl rfl (.of_eq rfl) (b := (e_butteryref09_Lists v60.1)) (enc64.flat _) rfl (Nat.le_of_ble_eq_true rfl) (c_butteryref09_Lists c62) (by rw [← hc63]; rfl)) fun τ hH => ?_
              refine wpdS_nil ?_
              refine awp_region rfl ?_
              refine wpo_mv (a := (eI c36)) rfl rfl rfl (o_mv tk rfl (Wk.refl _)) ?_
              refine wpo_lt H61 eI rfl rfl rfl (o_ar tk rfl rfl rfl) fun v65 H64 => ?_
              refine wpo_mv (a := (eI v65)) rfl rfl rfl (o_as tk rfl (Wk.refl _)) ?_
              refine wpo_nil ?_
              exact ⟨(v65, c62, v60.2.2, v60.2.2.nodes, v60.2.2.first_, v60.2.2.last_, v60.2.2.count), inj_inl H64, (wkf_cons (.of_eq rfl) (wkf_cons (.of_eq rfl) (wkf_cons (.of_eq rfl) (wkf_cons (.of_eq rfl) (wkf_cons (.of_eq rfl) (wkf_nil _)))))), hH⟩
            · refine awp_exit ?_
              have hz := hy49 _ (inj_inr H56)
              subst hz
              exact ⟨⟨_, inj_inr H56⟩, (wkf_cons (.of_eq rfl) (wkf_cons (.of_eq rfl) (wkf_cons (.of_eq rfl) (wkf_nil _)))), hH⟩
      · refine awp_region rfl ?_
        refine wpo_mv (a := (eErr v9.2)) rfl rfl rfl (o_mv tk rfl (Wk.refl _)) ?_
        refine wpo_lt hs24 eB rfl rfl rfl (o_err_neq tk rfl rfl rfl) fun v27 H26 => ?_
        refine wpo_mv (a := (eB v27)) rfl rfl rfl (o_mv tk rfl (Wk.refl _)) ?_
        refine if_split H26 (fun hb H28 => ?_) (fun hb H28 => ?_)
        · subst hb
          refine wpo_skip rfl rfl rfl ?_
          refine wpo_skip rfl rfl rfl ?_
          refine wpo_mv (a := (eB true)) rfl rfl rfl (o_pick_t tk rfl rfl (Wk.refl _)) ?_
          refine wpo_nil ?_
          have e := Option.some.inj H28
          subst e
          exact ⟨(wkf_cons (.of_eq rfl) (wkf_cons (.of_eq rfl) (wkf_cons (.of_eq rfl) (wkf_cons (.of_eq rfl) (wkf_nil _))))), hH⟩
        · subst hb
          refine wpo_mv (a := (.ref id11 0)) rfl rfl rfl (o_mv tk rfl (Wk.refl _)) ?_
          refine wpo_mv (a := (eB false)) rfl rfl rfl (o_c tk false rfl (fun _ => rfl)) ?_
          refine wpo_mv (a := (eB false)) rfl rfl rfl (o_pick_f tk rfl rfl (Wk.refl _)) ?_
          refine wpo_nil ?_
          have e := Option.some.inj H28
          subst e
          exact ⟨(wkf_cons (.of_eq rfl) (wkf_cons (.of_eq rfl) (wkf_cons (.of_eq rfl) (wkf_cons (.of_eq rfl) (wkf_nil _))))), hH⟩
end Go.Proofs.YtobbifgmjkgkfaaDoor
namespace Go.Proofs.YtobbifgmjkgkfaaDoor
open Go Go.Va
set_option linter.unusedVariables false
set_option linter.unusedSimpArgs false
set_option maxRecDepth 20000
noncomputable def butteryref09_Last (x0 : List Int) : Option (Int) :=
  lt (((x0).length : Int)) fun v2 =>
  lt (v2 == (0 : Int)) fun v4 =>
  if v4 = true then
    some (-1 : Int)
  else
    lt (((x0).length : Int)) fun v7 =>
    lt (w64 (v7 - (1 : Int))) fun v9 =>
    (ix x0 v9).bind fun v11 =>
    some v11
end Go.Proofs.YtobbifgmjkgkfaaDoor
namespace Go.Proofs.YtobbifgmjkgkfaaDoor
open Go Go.Va
set_option linter.unusedVariables false
set_option linter.unusedSimpArgs false
/-- One at a place. -/
def At {α : Type} (l : List α) (i : Int) (y : α) : Prop := 0 ≤ i ∧ l[i.toNat]? = some y
section
variable {α : Type} {l : List α} {i j : Int} {y z : α}
theorem At.lt (h : At l i y) : i < l.length := by
  have := (List.getElem?_eq_some_iff.1 h.2).1
  have := h.1
  omega
theorem At.chk (h : At l i y) : chk l.length i = some () := if_pos ⟨h.1, h.lt⟩
theorem At.ixA (h : At l i y) : ixA l.length l i = some y := (if_pos ⟨h.1, h.lt⟩).trans h.2
theorem At.ix (h : At l i y) : ix l i = some y := (if_pos h.1).trans h.2
theorem At.updA (h : At l i y) (f : α → α) : updA l.length l i f = some (l.set i.toNat (f y)) := by
  unfold Go.Va.updA
  rw [h.ixA]
  rfl
theorem At.same (h : At l i y) (z : α) : At (l.set i.toNat z) i z := ⟨h.1, by rw [List.getElem?_set_self]; have := h.lt; have := h.1; omega⟩
theorem At.ne (h : At l j y) (hi : 0 ≤ i) (hn : j ≠ i) (z : α) : At (l.set i.toNat z) j y := ⟨h.1, by
  rw [List.getElem?_set_ne (by have := h.1; omega)]; exact h.2⟩
theorem At.uniq (h : At l i y) (h' : At l i z) : y = z := Option.some.inj (h.2.symm.trans h'.2)
theorem at_nat {k : Nat} (h : l[k]? = some y) : At l (k : Int) y := ⟨by omega, by simpa using h⟩
theorem at_ex (h0 : 0 ≤ i) (h1 : i < l.length) : ∃ y, At l i y := ⟨l[i.toNat]'(by omega), h0, List.getElem?_eq_getElem _⟩
end
def hdp : List Int → Int → Int
  | [], q => q
  | m :: _, _ => m
def lsp : Int → List Int → Int
  | p, [] => p
  | _, m :: l => lsp m l
theorem hdp_app (a b : List Int) (q : Int) : hdp (a ++ b) q = hdp a (hdp b q) := by cases a <;> rfl
theorem lsp_app : ∀ (p : Int) (a b : List Int), lsp p (a ++ b) = lsp (lsp p a) b
  | _, [], _ => rfl
  | _, m :: a, b => lsp_app m a b
theorem hdp_mem {l : List Int} {q : Int} (h : l ≠ []) : hdp l q ∈ l := by cases l with | nil => exact absurd rfl h | cons a l => exact List.mem_cons_self
theorem lsp_mem : ∀ {l : List Int} {p : Int}, l ≠ [] → lsp p l ∈ l
  | [], _, h => absurd rfl h
  | [a], _, _ => List.mem_cons_self
  | a :: b :: l, p, _ => List.mem_cons_of_mem _ (lsp_mem (l := b :: l) (p := a) (by simp))
theorem lsp_q : ∀ {l : List Int} {p q : Int}, l ≠ [] → lsp p l = lsp q l
  | [], _, _, h => absurd rfl h
  | _ :: _, _, _, _ => rfl
/-- A chain of links. -/
def dl (g : Int → lists_link) (i : Int) : Int → List Int → Int → Prop
  | _, [], _ => True
  | p, n :: l, q => (g n).ahead = p ∧ (g n).behind = hdp l q ∧ (g n).list = i ∧ dl g i n l q
theorem dl_congr {g g' : Int → lists_link} {i : Int} : ∀ {p : Int} {l : List Int} {q : Int}, (∀ n ∈ l, (g n).ahead = (g' n).ahead ∧ (g n).behind = (g' n).behind ∧ (g n).list = (g' n).list) → dl g i p l q → dl g' i p l q
  | _, [], _, _, _ => trivial
  | p, n :: l, q, h, hd => by
    obtain ⟨h1, h2, h3, h4⟩ := hd
    obtain ⟨e1, e2, e3⟩ := h n List.mem_cons_self
    exact ⟨e1 ▸ h1, e2 ▸ h2, e3 ▸ h3, dl_congr (fun m hm => h m (List.mem_cons_of_mem _ hm)) h4⟩
theorem dl_app {g : Int → lists_link} {i : Int} : ∀ {p : Int} {a b : List Int} {q : Int}, dl g i p (a ++ b) q ↔ dl g i p a (hdp b q) ∧ dl g i (lsp p a) b q
  | _, [], _, _ => by simp [dl, lsp]
  | p, n :: a, b, q => by
    simp only [List.cons_append, dl, lsp, hdp_app]
    rw [dl_app (p := n) (a := a)]
    simp only [and_assoc]
theorem dl_list {g : Int → lists_link} {i : Int} : ∀ {p : Int} {l : List Int} {q : Int}, dl g i p l q → ∀ n ∈ l, (g n).list = i
  | _, n :: l, _, h, m, hm => by
    rcases List.mem_cons.1 hm with rfl | hm
    · exact h.2.2.1
    · exact dl_list h.2.2.2 m hm
def fup (g : Int → lists_link) (n : Int) (v : lists_link) : Int → lists_link := fun m => if m = n then v else g m
theorem fup_same {g : Int → lists_link} {n : Int} {v : lists_link} : fup g n v n = v := if_pos rfl
theorem fup_ne {g : Int → lists_link} {n m : Int} {v : lists_link} (h : m ≠ n) : fup g n v m = g m := if_neg h
/-- The end of a chain turned elsewhere. -/
theorem dl_q {g : Int → lists_link} {i q' : Int} : ∀ {p : Int} {a : List Int} {q : Int}, a ≠ [] → a.Nodup → dl g i p a q → dl (fup g (lsp p a) { g (lsp p a) with behind := q' }) i p a q'
  | _, [], _, h, _, _ => absurd rfl h
  | p, [n], q, _, _, hd => by
    simp only [dl, lsp, fup_same, hdp] at hd ⊢
    exact ⟨hd.1, trivial, hd.2.2.1, trivial⟩
  | p, n :: m :: a, q, _, hn, hd => by
    obtain ⟨h1, h2, h3, h4⟩ := hd
    have hn' := List.nodup_cons.1 hn
    have hne : n ≠ lsp n (m :: a) := fun e => hn'.1 (e ▸ lsp_mem (by simp))
    have := dl_q (p := n) (q' := q') (by simp) hn'.2 h4
    refine ⟨?_, ?_, ?_, this⟩
    · show (fup g (lsp n (m :: a)) _ n).ahead = p
      rw [fup_ne hne]; exact h1
    · show (fup g (lsp n (m :: a)) _ n).behind = m
      rw [fup_ne hne]; exact h2
    · show (fup g (lsp n (m :: a)) _ n).list = i
      rw [fup_ne hne]; exact h3
theorem dl_p {g : Int → lists_link} {i p p' m q : Int} {l : List Int} (hn : (m :: l).Nodup) (hd : dl g i p (m :: l) q) : dl (fup g m { g m with ahead := p' }) i p' (m :: l) q := by
  obtain ⟨h1, h2, h3, h4⟩ := hd
  refine ⟨by rw [fup_same], by rw [fup_same]; exact h2, by rw [fup_same]; exact h3, dl_congr (fun n hm => ?_) h4⟩
  have e : n ≠ m := fun e => (List.nodup_cons.1 hn).1 (e ▸ hm)
  rw [fup_ne e]
  exact ⟨rfl, rfl, rfl⟩
/-- The free ones. -/
def fl (g : Int → lists_link) : List Int → Prop
  | [] => True
  | n :: l => (g n).behind = hdp l (-1) ∧ (g n).list = -1 ∧ fl g l
theorem fl_congr {g g' : Int → lists_link} : ∀ {l : List Int}, (∀ n ∈ l, g n = g' n) → fl g l → fl g' l
  | [], _, _ => trivial
  | n :: l, h, hd => ⟨by rw [← h n List.mem_cons_self]; exact hd.1, by rw [← h n List.mem_cons_self]; exact hd.2.1, fl_congr (fun m hm => h m (List.mem_cons_of_mem _ hm)) hd.2.2⟩
theorem fl_list {g : Int → lists_link} : ∀ {l : List Int}, fl g l → ∀ n ∈ l, (g n).list = -1
  | n :: l, h, m, hm => by
    rcases List.mem_cons.1 hm with rfl | hm
    · exact h.2.1
    · exact fl_list h.2.2 m hm
/-- A table of links, as a function. -/
def Rep (t : List lists_link) (g : Int → lists_link) : Prop := ∀ n : Int, 0 ≤ n → n < t.length → At t n (g n)
theorem Rep.set {t : List lists_link} {g : Int → lists_link} (h : Rep t g) {n : Int} (h0 : 0 ≤ n) (h1 : n < t.length) (v : lists_link) : Rep (t.set n.toNat v) (fup g n v) := fun m hm hl => by
  rw [List.length_set] at hl
  unfold fup
  split
  · rename_i e; subst e; exact (h m hm hl).same v
  · rename_i e; exact (h m hm hl).ne h0 e v
/-! ### the document's -/
def but (l : List Int) (n : Int) : List Int := l.filter (fun m => m != n)
theorem but_split {a b : List Int} {n : Int} (h : (a ++ n :: b).Nodup) : but (a ++ n :: b) n = a ++ b := by
  unfold but
  rw [List.nodup_append] at h
  obtain ⟨h1, h2, h3⟩ := h
  rw [List.filter_append, List.filter_cons, if_neg (by simp), List.filter_eq_self.2 (fun m hm => by simpa using h3 m hm n List.mem_cons_self), List.filter_eq_self.2 (fun m hm => by simpa using show ¬ m = n from fun e => (List.nodup_cons.1 h2).1 (e ▸ hm))]
theorem but_not {l : List Int} {n : Int} (h : n ∉ l) : but l n = l := List.filter_eq_self.2 fun m hm => by simpa using show ¬ m = n from fun e => h (e ▸ hm)
theorem mem_but {l : List Int} {n m : Int} : m ∈ but l n ↔ m ∈ l ∧ m ≠ n := by simp [but]
theorem butF_eq (l : List Int) (n : Int) (h : l.length ≤ 70000) : butteryref09_But l n = some (but l n) := by
  unfold butteryref09_But butteryref09_But_l0
  have key := loopO_up (body := fun s => butteryref09_But_b0 l n s.1 s.2) (fun i => (but (l.take i) n, (i : Int))) l.length (x := but l n) (fun i hi => ?_) ?_
  · rw [show ((([] : List Int), (0 : Int))) = (but (l.take 0) n, ((0 : Nat) : Int)) from rfl, key]
    rfl
  · unfold butteryref09_But_b0
    simp only [lt_eq]
    have hlen : (but (l.take i) n).length ≤ i := Nat.le_trans (List.length_filter_le _ _) (by simp; omega)
    rw [if_pos (decide_eq_true (by omega)), ix_nat hi]
    simp only [Option.bind_some, lt_eq]
    have e : but (l.take (i + 1)) n = but (l.take i) n ++ (if (l[i] != n) = true then [l[i]] else []) := by
      unfold but
      rw [List.take_succ_eq_append_getElem hi, List.filter_append]
      simp only [List.filter_cons, List.filter_nil]
    rw [w64_nat (by omega), e]
    split
    · rw [app_eq (by simp only [List.length_cons, List.length_nil]; omega)]
      rfl
    · rw [List.append_nil]
  · unfold butteryref09_But_b0
    simp only [lt_eq]
    rw [if_neg (by simp), List.take_length]
theorem hasF_eq (l : List Int) (n : Int) (h : l.length ≤ 70000) : butteryref02_Has l n = some (decide (n ∈ l)) := by
  unfold butteryref02_Has butteryref02_Has_l0
  have key := loopO_inv (body := fun s => butteryref02_Has_b0 l n s) (fun s => ∃ i : Nat, s = (i : Int) ∧ i ≤ l.length ∧ n ∉ l.take i) (fun s => (l.length - s).toNat) (fun x => x = (if n ∈ l then .inr true else .inl ())) ?_ (s := 0) ⟨0, rfl, Nat.zero_le _, by simp⟩
  · obtain ⟨x, h1, h2⟩ := key
    rw [h1, h2]
    by_cases hn : n ∈ l <;> simp [hn]
  · rintro s ⟨i, rfl, hi, hn⟩
    unfold butteryref02_Has_b0
    simp only [lt_eq]
    by_cases hil : i < l.length
    · rw [if_pos (decide_eq_true (by omega)), ix_nat hil]
      simp only [Option.bind_some, lt_eq]
      by_cases he : l[i] = n
      · right
        rw [if_pos (by simpa using he), if_pos (he ▸ List.getElem_mem hil)]
        exact ⟨_, rfl, rfl⟩
      · left
        rw [if_neg (by simpa using he), w64_nat (by omega)]
        refine ⟨_, rfl, ⟨i + 1, rfl, hil, ?_⟩, by omega⟩
        rw [List.take_succ_eq_append_getElem hil, List.mem_append, List.mem_singleton]
        rintro (h1 | h1)
        · exact hn h1
        · exact he h1.symm
    · right
      have : i = l.length := by omega
      subst this
      rw [List.take_length] at hn
      rw [if_neg (by simp), if_neg hn]
      exact ⟨_, rfl, rfl⟩
theorem aheadF_eq (l : List Int) (n : Int) (h : l.length ≤ 70000) : butteryref09_ahead l n = some (n :: l) := by
  unfold butteryref09_ahead
  simp only [lt_eq]
  rw [app_eq (by simp only [List.length_cons, List.length_nil]; omega)]
  rfl
theorem withF_eq (r : butteryref09_Lists) (k : Int) {y : List Int} (to : List Int) (hk : At r.L k y) (h : r.L.length ≤ 70000) : butteryref09_with r k to = some { r with L := r.L.set k.toNat to } := by
  unfold butteryref09_with
  rw [app_eq (by simp only [List.length_nil]; omega)]
  simp only [Option.bind_some, List.nil_append]
  rw [hk.chk, Option.bind_some, hk.updA, Option.bind_some]
theorem lsp_get : ∀ {l : List Int} {p : Int}, l ≠ [] → l[l.length - 1]? = some (lsp p l)
  | [], _, h => absurd rfl h
  | [a], _, _ => rfl
  | a :: b :: l, p, _ => by
    have := lsp_get (l := b :: l) (p := a) (by simp)
    simpa [lsp] using this
theorem lastF_eq (l : List Int) (h : l.length ≤ 70000) : butteryref09_Last l = some (lsp (-1) l) := by
  unfold butteryref09_Last
  simp only [lt_eq]
  by_cases hl : l = []
  · subst hl; rfl
  · have h0 : 0 < l.length := List.length_pos_iff.2 hl
    rw [if_neg (by simpa using hl), w64_eq (by omega) (by omega), show (l.length : Int) - 1 = ((l.length - 1 : Nat) : Int) by omega, ix_get, lsp_get hl]
    rfl
/-- In which list one stands, the first one. -/
theorem listF_eq (r : butteryref09_Lists) (n : Int) (h : r.L.length ≤ 64) (h2 : ∀ l ∈ r.L, l.length ≤ 70000) : ∃ k, butteryref09_List r n = some k ∧ ((k = -1 ∧ ∀ l ∈ r.L, n ∉ l) ∨ ∃ l, At r.L k l ∧ n ∈ l) := by
  unfold butteryref09_List butteryref09_List_l0
  have key := loopO_inv (body := fun s => butteryref09_List_b0 r n s) (fun s => ∃ i : Nat, s = (i : Int) ∧ i ≤ r.L.length ∧ ∀ l ∈ r.L.take i, n ∉ l) (fun s => (r.L.length - s).toNat) (fun x => (x = .inl () ∧ ∀ l ∈ r.L, n ∉ l) ∨ ∃ k l, x = .inr k ∧ At r.L k l ∧ n ∈ l) ?_ (s := 0) ⟨0, rfl, Nat.zero_le _, by simp⟩
  · obtain ⟨x, h1, h3⟩ := key
    rw [h1]
    rcases h3 with ⟨rfl, h3⟩ | ⟨k, l, rfl, h4, h5⟩
    · exact ⟨-1, rfl, .inl ⟨rfl, h3⟩⟩
    · exact ⟨k, rfl, .inr ⟨l, h4, h5⟩⟩
  · rintro s ⟨i, rfl, hi, hn⟩
    unfold butteryref09_List_b0
    simp only [lt_eq]
    by_cases hil : i < r.L.length
    · rw [if_pos (decide_eq_true (by omega)), ix_nat hil]
      simp only [Option.bind_some, lt_eq]
      rw [hasF_eq _ _ (h2 _ (List.getElem_mem hil))]
      simp only [Option.bind_some, lt_eq]
      by_cases he : n ∈ r.L[i]
      · right
        rw [if_pos (decide_eq_true he)]
        exact ⟨_, rfl, .inr ⟨_, _, rfl, at_nat (List.getElem?_eq_getElem hil), he⟩⟩
      · left
        rw [if_neg (by simpa using he), w64_nat (by omega)]
        refine ⟨_, rfl, ⟨i + 1, rfl, hil, ?_⟩, by omega⟩
        intro l hl
        rw [List.take_succ_eq_append_getElem hil, List.mem_append, List.mem_singleton] at hl
        rcases hl with h1 | rfl
        · exact hn l h1
        · exact he
    · right
      have : i = r.L.length := by omega
      subst this
      rw [List.take_length] at hn
      rw [if_neg (by simp)]
      exact ⟨_, rfl, .inl ⟨rfl, hn⟩⟩
theorem ints_eq (a : List Int) (h : a.length ≤ 70000) : butteryref02_Ints a a = some true := by
  unfold butteryref02_Ints butteryref02_Ints_l0
  simp only [lt_eq]
  rw [if_neg (by simp)]
  have key := loopO_up (body := fun s => butteryref02_Ints_b0 a a s) (fun i => (i : Int)) a.length (x := .inl ()) (fun i hi => ?_) ?_
  · rw [show (0 : Int) = ((0 : Nat) : Int) from rfl, key]
    rfl
  · unfold butteryref02_Ints_b0
    simp only [lt_eq]
    rw [if_pos (decide_eq_true (by omega)), ix_nat hi]
    simp only [Option.bind_some, lt_eq]
    rw [if_neg (by simp), w64_nat (by omega)]
  · unfold butteryref02_Ints_b0
    simp only [lt_eq]
    rw [if_neg (by simp)]
end Go.Proofs.YtobbifgmjkgkfaaDoor
namespace Go.Proofs.YtobbifgmjkgkfaaDoor
open Go Go.Va
set_option linter.unusedVariables false
set_option linter.unusedSimpArgs false
theorem At.of_set {α : Type} {l : List α} {i j : Int} {y z w : α} (hw : At l i w) (h : At (l.set i.toNat z) j y) : (j = i ∧ y = z) ∨ (j ≠ i ∧ At l j y) := by
  by_cases hj : j = i
  · subst hj
    exact .inl ⟨rfl, h.uniq (hw.same z)⟩
  · refine .inr ⟨hj, h.1, ?_⟩
    have h2 := h.2
    rwa [List.getElem?_set_ne (by have := h.1; have := hw.1; omega)] at h2
/-- The tables say what the lists are. -/
structure Gd (g : Int → lists_link) (fs ls cs : List Int) (L : List (List Int)) : Prop where
  f : fs.length = L.length
  l : ls.length = L.length
  c : cs.length = L.length
  dll : ∀ (i : Int) l, At L i l → dl g i (-1) l (-1) ∧ At fs i (hdp l (-1)) ∧ At ls i (lsp (-1) l) ∧ At cs i (l.length : Int)
def ulEq (g g' : Int → lists_link) : Prop := ∀ m, (g' m).used = (g m).used ∧ (g' m).list = (g m).list
theorem ulEq.fup {g : Int → lists_link} {n : Int} {v : lists_link} (h1 : v.used = (g n).used) (h2 : v.list = (g n).list) : ulEq g (fup g n v) := fun m => by
  unfold Go.Proofs.YtobbifgmjkgkfaaDoor.fup
  split
  · rename_i e; subst e; exact ⟨h1, h2⟩
  · exact ⟨rfl, rfl⟩
theorem pull_eq {x : lists_Lists} {g : Int → lists_link} {L : List (List Int)} {i n : Int} {a b : List Int} (hr : Rep x.nodes g) (hg : Gd g x.first_ x.last_ x.count L) (hl : At L i (a ++ n :: b)) (hnd : (a ++ n :: b).Nodup) (hrg : ∀ m ∈ a ++ n :: b, 0 ≤ m ∧ m < x.nodes.length)
    (hdis : ∀ j l, At L j l → j ≠ i → ∀ m ∈ a ++ n :: b, m ∉ l) (hlen : (a ++ n :: b).length ≤ 70000) :
    ∃ x' g', lists_Lists_pull x n = some x' ∧ Rep x'.nodes g' ∧ x'.nodes.length = x.nodes.length ∧ Gd g' x'.first_ x'.last_ x'.count (L.set i.toNat (a ++ b)) ∧ x'.free = x.free ∧ x'.clock = x.clock ∧ ulEq g g' ∧ ∀ m, m ∉ a → m ∉ b → g' m = g m := by
  obtain ⟨n0, n1⟩ := hrg n (by simp)
  have hn := hr n n0 n1
  obtain ⟨hd, hf, hla, hc⟩ := hg.dll i _ hl
  obtain ⟨da, e1, e2, e3, db⟩ := dl_app.1 hd
  rw [List.nodup_append] at hnd
  obtain ⟨hna, hnb, hab⟩ := hnd
  obtain ⟨hnnb, hnb⟩ := List.nodup_cons.1 hnb
  have ra : ∀ m ∈ a, 0 ≤ m ∧ m < x.nodes.length := fun m hm => hrg m (by simp [hm])
  have rb : ∀ m ∈ b, 0 ≤ m ∧ m < x.nodes.length := fun m hm => hrg m (by simp [hm])
  have hab' : ∀ m ∈ a, m ∉ b := fun m hm hb => hab m hm m (List.mem_cons_of_mem _ hb) rfl
  obtain ⟨N1, f1, g1, r1, l1, lf, af, of, d1, s1, u1, k1⟩ : ∃ N1 f1 g1, Rep N1 g1 ∧ N1.length = x.nodes.length ∧ f1.length = x.first_.length ∧ At f1 i (hdp (a ++ b) (-1)) ∧ (∀ j y, j ≠ i → At x.first_ j y → At f1 j y) ∧ dl g1 i (-1) a (hdp b (-1)) ∧ (∀ m, m ∉ a → g1 m = g m) ∧ ulEq g g1 ∧
      ∀ (k : List lists_link × List Int → Option lists_Lists), ((if ((g n).ahead == (-1 : Int)) = true then (chk x.first_.length (g n).list).bind fun _ => (updA x.first_.length x.first_ (g n).list (fun _ => (g n).behind)).bind fun c => some (x.nodes, c) else (chk x.nodes.length (g n).ahead).bind fun _ => (updA x.nodes.length x.nodes (g n).ahead (fun y => ({ y with behind := (g n).behind } : lists_link))).bind fun c => some (c, x.first_)).bind k) = k (N1, f1) := by
    rw [e1, e2, e3]
    by_cases ha : a = []
    · subst ha
      refine ⟨x.nodes, x.first_.set i.toNat (hdp b (-1)), g, hr, rfl, by simp, hf.same _, fun j y hj hy => hy.ne hf.1 hj _, trivial, fun _ _ => rfl, fun m => ⟨rfl, rfl⟩, fun k => ?_⟩
      rw [if_pos (by simp [lsp]), hf.chk, Option.bind_some, hf.updA]
      rfl
    · have hm := lsp_mem (p := -1) ha
      obtain ⟨m0, m1⟩ := ra _ hm
      have hat := hr _ m0 m1
      refine ⟨x.nodes.set (lsp (-1) a).toNat _, x.first_, fup g (lsp (-1) a) { g (lsp (-1) a) with behind := hdp b (-1) }, hr.set m0 m1 _, by simp, rfl, ?_, fun j y _ hy => hy, dl_q ha hna da, fun m hma => fup_ne (fun e => hma (e ▸ hm)), .fup rfl rfl, fun k => ?_⟩
      · rw [hdp_app] at hf ⊢
        cases a with
        | nil => exact absurd rfl ha
        | cons c a => exact hf
      · rw [if_neg (by simp; omega), hat.chk, Option.bind_some, hat.updA]
        rfl
  have db1 : dl g1 i n b (-1) := dl_congr (fun m hm => by rw [s1 m (fun h => hab' m h hm)]; exact ⟨rfl, rfl, rfl⟩) db
  obtain ⟨N2, f2, g2, r2, l2, lf2, af2, of2, d2, s2, u2, k2⟩ : ∃ N2 f2 g2, Rep N2 g2 ∧ N2.length = N1.length ∧ f2.length = x.last_.length ∧ At f2 i (lsp (-1) (a ++ b)) ∧ (∀ j y, j ≠ i → At x.last_ j y → At f2 j y) ∧ dl g2 i (lsp (-1) a) b (-1) ∧ (∀ m, m ∉ b → g2 m = g1 m) ∧ ulEq g1 g2 ∧
      ∀ (k : List lists_link × List Int → Option lists_Lists), ((if ((g n).behind == (-1 : Int)) = true then (chk x.last_.length (g n).list).bind fun _ => (updA x.last_.length x.last_ (g n).list (fun _ => (g n).ahead)).bind fun c => some (N1, c) else (chk N1.length (g n).behind).bind fun _ => (updA N1.length N1 (g n).behind (fun y => ({ y with ahead := (g n).ahead } : lists_link))).bind fun c => some (c, x.last_)).bind k) = k (N2, f2) := by
    rw [e1, e2, e3]
    cases b with
    | nil =>
      refine ⟨N1, x.last_.set i.toNat (lsp (-1) a), g1, r1, rfl, by simp, by rw [List.append_nil]; exact hla.same _, fun j y hj hy => hy.ne hla.1 hj _, trivial, fun _ _ => rfl, fun m => ⟨rfl, rfl⟩, fun k => ?_⟩
      rw [if_pos (by simp [hdp]), hla.chk, Option.bind_some, hla.updA]
      rfl
    | cons c b =>
      obtain ⟨m0, m1⟩ := rb c (by simp)
      have hat := r1 c m0 (by omega)
      refine ⟨N1.set c.toNat _, x.last_, fup g1 c { g1 c with ahead := lsp (-1) a }, r1.set m0 (by omega) _, by simp, rfl, ?_, fun j y _ hy => hy, dl_p hnb db1, fun m hmb => fup_ne (fun e => hmb (by rw [e]; exact List.mem_cons_self)), .fup rfl rfl, fun k => ?_⟩
      · rw [lsp_app] at hla ⊢
        exact hla
      · rw [if_neg (by simp [hdp]; omega)]
        show ((chk N1.length c).bind _).bind k = _
        rw [hat.chk, Option.bind_some]
        show ((updA N1.length N1 c _).bind _).bind k = _
        rw [hat.updA]
        rfl
  refine ⟨{ x with nodes := N2, first_ := f1, last_ := f2, count := x.count.set i.toNat ((a ++ n :: b).length - 1 : Int) }, g2, ?_, r2, l2.trans l1, ⟨by simp [lf, hg.f], by simp [lf2, hg.l], by simp [hg.c], fun j l hj => ?_⟩, rfl, rfl, fun m => ⟨(u2 m).1.trans (u1 m).1, (u2 m).2.trans (u1 m).2⟩, fun m hma hmb => (s2 m hmb).trans (s1 m hma)⟩
  · unfold lists_Lists_pull
    rw [hn.chk, Option.bind_some, hn.ixA, Option.bind_some]
    simp only [lt_eq]
    refine (k1 _).trans ((k2 _).trans ?_)
    rw [e3, hc.chk, Option.bind_some, hc.ixA, Option.bind_some, Option.bind_some, w64_eq (by omega) (by omega), hc.updA]
    rfl
  · rcases hl.of_set hj with ⟨rfl, rfl⟩ | ⟨hji, hjl⟩
    · refine ⟨dl_app.2 ⟨dl_congr (fun m hm => by rw [s2 m (hab' m hm)]; exact ⟨rfl, rfl, rfl⟩) d1, d2⟩, af, af2, ?_⟩
      have := hc.same ((a ++ n :: b).length - 1 : Int)
      rw [show ((a ++ n :: b).length - 1 : Int) = ((a ++ b).length : Int) by simp only [List.length_append, List.length_cons]; omega] at this ⊢
      exact this
    · obtain ⟨q1, q2, q3, q4⟩ := hg.dll j l hjl
      have hd := hdis j l hjl hji
      exact ⟨dl_congr (fun m hm => by rw [s2 m (fun h => hd m (by simp [h]) hm), s1 m (fun h => hd m (by simp [h]) hm)]; exact ⟨rfl, rfl, rfl⟩) q1, of j _ hji q2, of2 j _ hji q3, q4.ne hc.1 hji _⟩
theorem push_eq {x : lists_Lists} {g : Int → lists_link} {L : List (List Int)} {i n : Int} {l : List Int} (hr : Rep x.nodes g) (hg : Gd g x.first_ x.last_ x.count L) (hl : At L i l) (hnd : (n :: l).Nodup) (hrg : ∀ m ∈ n :: l, 0 ≤ m ∧ m < x.nodes.length)
    (hdis : ∀ j l', At L j l' → j ≠ i → ∀ m ∈ n :: l, m ∉ l') (hlen : l.length ≤ 70000) (hck : 0 ≤ x.clock ∧ x.clock ≤ 1000000) :
    ∃ x' g', lists_Lists_push x n i = some x' ∧ Rep x'.nodes g' ∧ x'.nodes.length = x.nodes.length ∧ Gd g' x'.first_ x'.last_ x'.count (L.set i.toNat (n :: l)) ∧ x'.free = x.free ∧ x'.clock = x.clock + 1 ∧ (∀ m, m ≠ n → (g' m).used = (g m).used ∧ (g' m).list = (g m).list) ∧ (g' n).used = x.clock + 1 ∧ ∀ m, m ∉ n :: l → g' m = g m := by
  obtain ⟨n0, n1⟩ := hrg n (by simp)
  have hn := hr n n0 n1
  obtain ⟨hd, hf, hla, hc⟩ := hg.dll i _ hl
  obtain ⟨hnl, hndl⟩ := List.nodup_cons.1 hnd
  have w1 : w64 (x.clock + 1) = x.clock + 1 := w64_eq (by omega) (by omega)
  let v : lists_link := ⟨-1, hdp l (-1), i, x.clock + 1⟩
  have r1 := hr.set n0 n1 v
  have hd1 : dl (fup g n v) i (-1) l (-1) := dl_congr (fun m hm => by rw [fup_ne (show m ≠ n from fun e => hnl (e ▸ hm))]; exact ⟨rfl, rfl, rfl⟩) hd
  obtain ⟨N2, f2, g2, r2, l2, lf2, af2, of2, d2, g2n, s2, u2, k2⟩ : ∃ N2 f2 g2, Rep N2 g2 ∧ N2.length = x.nodes.length ∧ f2.length = x.last_.length ∧ At f2 i (lsp (-1) (n :: l)) ∧ (∀ j y, j ≠ i → At x.last_ j y → At f2 j y) ∧ dl g2 i n l (-1) ∧ g2 n = v ∧ (∀ m, m ∉ n :: l → g2 m = g m) ∧ (∀ m, m ≠ n → (g2 m).used = (g m).used ∧ (g2 m).list = (g m).list) ∧
      ∀ (k : List lists_link × List Int → Option lists_Lists), ((if (hdp l (-1) == (-1 : Int)) = true then (chk x.last_.length i).bind fun _ => (updA x.last_.length x.last_ i (fun _ => n)).bind fun c => some (x.nodes.set n.toNat v, c) else (some ()).bind fun _ => (some (hdp l (-1))).bind fun v34 => (chk (x.nodes.set n.toNat v).length v34).bind fun _ => (updA (x.nodes.set n.toNat v).length (x.nodes.set n.toNat v) v34 (fun y => ({ y with ahead := n } : lists_link))).bind fun c => some (c, x.last_)).bind k) = k (N2, f2) := by
    have un : ∀ m, m ≠ n → (fup g n v m).used = (g m).used ∧ (fup g n v m).list = (g m).list := fun m hm => by rw [fup_ne hm]; exact ⟨rfl, rfl⟩
    cases l with
    | nil =>
      refine ⟨_, x.last_.set i.toNat n, _, r1, by simp, by simp, hla.same _, fun j y hj hy => hy.ne hla.1 hj _, trivial, fup_same, fun m hm => fup_ne (fun e => hm (by simp [e])), un, fun k => ?_⟩
      rw [if_pos (by simp [hdp]), hla.chk, Option.bind_some, hla.updA]
      rfl
    | cons c b =>
      obtain ⟨m0, m1⟩ := hrg c (by simp)
      have hcn : c ≠ n := fun e => hnl (by simp [e])
      have hat := r1 c m0 (by simpa using m1)
      refine ⟨_, x.last_, _, r1.set m0 (by simpa using m1) { fup g n v c with ahead := n }, by simp, rfl, hla, fun j y _ hy => hy, dl_p hndl hd1, (fup_ne (Ne.symm hcn)).trans fup_same, fun m hm => ?_, fun m hm => ?_, fun k => ?_⟩
      · have h1 : m ≠ c := fun e => hm (by simp [e])
        have h2 : m ≠ n := fun e => hm (by simp [e])
        rw [fup_ne h1, fup_ne h2]
      · by_cases h1 : m = c
        · subst h1
          rw [fup_same]
          exact un m hm
        · rw [fup_ne h1]
          exact un m hm
      · rw [if_neg (by simp [hdp]; omega), Option.bind_some, Option.bind_some]
        show ((chk _ c).bind _).bind k = _
        rw [hat.chk, Option.bind_some]
        show ((updA _ _ c _).bind _).bind k = _
        rw [hat.updA]
        rfl
  refine ⟨{ x with clock := x.clock + 1, nodes := N2, first_ := x.first_.set i.toNat n, last_ := f2, count := x.count.set i.toNat (l.length + 1 : Int) }, g2, ?_, r2, l2, ⟨by simp [hg.f], by simp [lf2, hg.l], by simp [hg.c], fun j l' hj => ?_⟩, rfl, rfl, u2, by rw [g2n], s2⟩
  · unfold lists_Lists_push
    simp only [lt_eq, w1]
    rw [hf.chk, Option.bind_some, hf.ixA, Option.bind_some, hn.chk, Option.bind_some, hn.updA, Option.bind_some, Option.bind_some, Option.bind_some]
    refine (k2 _).trans ?_
    rw [Option.bind_some, hf.updA, Option.bind_some, hc.chk, Option.bind_some, hc.ixA, Option.bind_some, Option.bind_some, w64_eq (by omega) (by omega), hc.updA]
    rfl
  · rcases hl.of_set hj with ⟨rfl, rfl⟩ | ⟨hji, hjl⟩
    · exact ⟨⟨by rw [g2n], by rw [g2n], by rw [g2n], d2⟩, hf.same _, af2, by simpa using hc.same (l.length + 1 : Int)⟩
    · obtain ⟨q1, q2, q3, q4⟩ := hg.dll j l' hjl
      have hd := hdis j l' hjl hji
      exact ⟨dl_congr (fun m hm => by rw [s2 m (fun h => hd m h hm)]; exact ⟨rfl, rfl, rfl⟩) q1, q2.ne hf.1 hji _, of2 j _ hji q3, q4.ne hc.1 hji _⟩
end Go.Proofs.YtobbifgmjkgkfaaDoor
namespace Go.Proofs.YtobbifgmjkgkfaaDoor
open Go Go.Va
set_option linter.unusedVariables false
set_option linter.unusedSimpArgs false
theorem flt_eq (op : List (BitVec 8)) (n c : Int) (hc : c ≠ 0) : trouble_New op n c = some (.fault op n c .nil) := by
  simp [trouble_New, lt_eq, hc]
theorem flt_code (op : List (BitVec 8)) (n c : Int) (hc : c ≠ 0) : codeOf (.fault op n c .nil) = c := by simp [codeOf, hc]
theorem outc (a m : Int) : (if a < 0 then some true else some (decide (a ≥ m))) = some (decide (a < 0 ∨ m ≤ a)) := by
  by_cases h : a < 0
  · rw [if_pos h, decide_eq_true (Or.inl h)]
  · rw [if_neg h]
    congr 1
    rw [decide_eq_decide]
    omega
structure Good (x : lists_Lists) (r : butteryref09_Lists) (g : Int → lists_link) (k : Int) : Prop where
  rep : Rep x.nodes g
  NN : r.Nodes = (x.nodes.length : Int)
  nN : x.nodes.length ≤ 65536
  gd : Gd g x.first_ x.last_ x.count r.L
  M : r.L.length ≤ 64
  rng : ∀ n ∈ r.Free ++ r.Used, 0 ≤ n ∧ n < x.nodes.length
  nod : (r.Free ++ r.Used).Nodup
  len : r.Free.length + r.Used.length = x.nodes.length
  cov : ∀ n, 0 ≤ n → n < (x.nodes.length : Int) → n ∈ r.Free ++ r.Used
  sub : ∀ i l, At r.L i l → l.Sublist r.Used
  mem : ∀ n ∈ r.Used, ∃ i l, At r.L i l ∧ n ∈ l
  fr : fl g r.Free
  free : x.free = hdp r.Free (-1)
  tm : r.Used.Pairwise fun a b => (g b).used < (g a).used
  ck : ∀ n ∈ r.Used, (g n).used ≤ x.clock
  ck2 : 0 ≤ x.clock ∧ x.clock ≤ k
section
variable {x : lists_Lists} {r : butteryref09_Lists} {g : Int → lists_link} {k : Int}
theorem Good.dis (G : Good x r g k) {i j m : Int} {l l' : List Int} (h : At r.L i l) (h' : At r.L j l') (hm : m ∈ l) (hm' : m ∈ l') : i = j :=
  (dl_list (G.gd.dll i l h).1 m hm).symm.trans (dl_list (G.gd.dll j l' h').1 m hm')
theorem Good.nfu (G : Good x r g k) {m : Int} (h : m ∈ r.Free) : m ∉ r.Used := fun h' => (List.nodup_append.1 G.nod).2.2 m h m h' rfl
theorem Good.nu (G : Good x r g k) : r.Used.Nodup := (List.nodup_append.1 G.nod).2.1
theorem Good.nf (G : Good x r g k) : r.Free.Nodup := (List.nodup_append.1 G.nod).1
theorem Good.ul (G : Good x r g k) : r.Used.length ≤ 65536 := by have := G.len; have := G.nN; omega
theorem Good.fll (G : Good x r g k) : r.Free.length ≤ 65536 := by have := G.len; have := G.nN; omega
theorem Good.ll (G : Good x r g k) {i : Int} {l : List Int} (h : At r.L i l) : l.length ≤ 65536 := Nat.le_trans (G.sub i l h).length_le G.ul
theorem Good.le (G : Good x r g k) : ∀ l ∈ r.L, l.length ≤ 70000 := fun l hl => by
  obtain ⟨i, hi⟩ := List.mem_iff_getElem?.1 hl
  have := G.ll (at_nat hi)
  omega
theorem Good.more (G : Good x r g k) {k' : Int} (h : k ≤ k') : Good x r g k' := { G with ck2 := ⟨G.ck2.1, Int.le_trans G.ck2.2 h⟩ }
theorem add_step (G : Good x r g k) (hk : k ≤ 1000) (i : Int) : ∃ x' r' n e c, lists_Lists_Add x i = some (n, e, x') ∧ butteryref09_Add r i = some (r', n, c) ∧ codeOf e = c ∧ x'.nodes.length = x.nodes.length ∧ r'.L.length = r.L.length ∧ (∃ g', Good x' r' g' (k + 1)) ∧ (∀ m F l, r.Free = m :: F → At r.L i l → e = .nil ∧ n = m ∧ r' = { r with L := r.L.set i.toNat (m :: l), Free := F, Used := m :: r.Used }) := by
  have hM := G.gd.f
  have hM2 := G.M
  have eX : lists_Lists_Add x i = if i < 0 ∨ (r.L.length : Int) ≤ i then some (-1, .fault [97#8, 100#8, 100#8] i 2 .nil, x) else if (x.free == (-1 : Int)) = true then some (-1, .fault [97#8, 100#8, 100#8] i 4 .nil, x) else (chk (x.nodes).length x.free).bind fun v22 =>
        (ixA (x.nodes).length x.nodes x.free).bind fun v24 =>
        (lists_Lists_push ({ ({ x with free := v24.behind } : lists_Lists) with nodes := x.nodes, first_ := x.first_, last_ := x.last_, count := x.count } : lists_Lists) x.free i).bind fun v27 =>
        some (x.free, Err.nil, v27) := by
    unfold lists_Lists_Add
    simp only [lt_eq, outc, Option.bind_some, decide_eq_true_eq, hM, flt_eq _ _ 2 (by decide), flt_eq _ _ 4 (by decide)]
  have eR : butteryref09_Add r i = if i < 0 ∨ (r.L.length : Int) ≤ i then some (r, -1, 2) else if ((r.Free.length : Int) == (0 : Int)) = true then some (r, -1, 4) else (ix r.Free (0 : Int)).bind fun v24 =>
        (ix r.L i).bind fun v26 =>
        (butteryref09_ahead v26 v24).bind fun v28 =>
        (butteryref09_with r i v28).bind fun v30 =>
        (cutFrom r.Free (1 : Int)).bind fun v35 =>
        (butteryref09_ahead r.Used v24).bind fun v40 =>
        some (({ ({ (v30 : butteryref09_Lists) with Free := v35 } : butteryref09_Lists) with Used := v40 } : butteryref09_Lists), v24, (0 : Int)) := by
    unfold butteryref09_Add
    simp only [lt_eq, outc, Option.bind_some, decide_eq_true_eq]
  by_cases h2 : i < 0 ∨ (r.L.length : Int) ≤ i
  · rw [eX, eR, if_pos h2, if_pos h2]
    exact ⟨x, r, _, _, _, rfl, rfl, flt_code _ _ _ (by decide), rfl, rfl, ⟨g, G.more (by omega)⟩, fun m F l _ hl => by have := hl.lt; have := hl.1; omega⟩
  rw [if_neg h2] at eX eR
  cases hF : r.Free with
  | nil =>
    have hfr := G.free
    rw [hF] at hfr
    rw [eX, eR, hF, if_pos (by rw [hfr]; rfl), if_pos (by simp)]
    exact ⟨x, r, _, _, _, rfl, rfl, flt_code _ _ _ (by decide), rfl, rfl, ⟨g, G.more (by omega)⟩, fun m F l h _ => by cases h⟩
  | cons n F =>
    have hfr := G.free
    have hfl := G.fr
    rw [hF] at hfr hfl
    have hnF : n ∈ r.Free := by rw [hF]; exact List.mem_cons_self
    obtain ⟨n0, n1⟩ := G.rng n (List.mem_append_left _ hnF)
    have hn := G.rep n n0 n1
    obtain ⟨l, hl⟩ := at_ex (show 0 ≤ i by omega) (show i < r.L.length by omega)
    have hsub := G.sub i l hl
    have hnl : n ∉ l := fun h => G.nfu hnF (hsub.subset h)
    have hfre : x.free = n := hfr
    rw [hfre, if_neg (by simp; omega), hn.chk, Option.bind_some, hn.ixA, Option.bind_some] at eX
    rw [hF, if_neg (by simp; omega)] at eR
    obtain ⟨x', g', q1, q2, q3, q4, q5, q6, q7, q8, q9⟩ := push_eq (x := { ({ x with free := (g n).behind } : lists_Lists) with nodes := x.nodes, first_ := x.first_, last_ := x.last_, count := x.count }) (n := n) G.rep G.gd hl (List.nodup_cons.2 ⟨hnl, hsub.nodup G.nu⟩)
      (fun m hm => by
        rcases List.mem_cons.1 hm with rfl | hm
        · exact ⟨n0, n1⟩
        · exact G.rng m (List.mem_append_right _ (hsub.subset hm)))
      (fun j l' hj hji m hm hm' => by
        rcases List.mem_cons.1 hm with rfl | hm
        · exact G.nfu hnF ((G.sub j l' hj).subset hm')
        · exact hji (G.dis hj hl hm' hm)) (by have := G.ll hl; omega) ⟨G.ck2.1, by have := G.ck2.2; show x.clock ≤ 1000000; omega⟩
    rw [q1, Option.bind_some] at eX
    have hul := G.ul
    have hll := G.ll hl
    rw [eX, eR, show ix (n :: F) (0 : Int) = some n from rfl, Option.bind_some, hl.ix, Option.bind_some, aheadF_eq _ _ (by omega), Option.bind_some, withF_eq r i _ hl (by omega), Option.bind_some, show cutFrom (n :: F) (1 : Int) = some F from by
      have := cutFrom_eq (l := n :: F) (n := 1) (by simp)
      exact this, Option.bind_some, aheadF_eq _ _ (by omega), Option.bind_some]
    refine ⟨x', { r with L := r.L.set i.toNat (n :: l), Free := F, Used := n :: r.Used }, n, .nil, 0, rfl, rfl, rfl, q3, by simp, ⟨g', ?_⟩, fun m F' l' h hl' => by cases h; rw [hl.uniq hl']; exact ⟨rfl, rfl, rfl⟩⟩
    have hnd : (F ++ n :: r.Used).Nodup := by
      have h := G.nod
      rw [hF] at h
      exact List.perm_middle.nodup_iff.2 h
    have q3' : x'.nodes.length = x.nodes.length := q3
    refine ⟨q2, by rw [q3']; exact G.NN, by rw [q3']; exact G.nN, q4, by simpa using G.M, fun m hm => ?_, hnd, ?_, fun m h0 h1 => ?_, fun j l' hj => ?_, fun m hm => ?_, ?_, ?_, ?_, fun m hm => ?_, ?_⟩
    · rw [q3']
      refine G.rng m ?_
      rw [hF]
      exact List.perm_middle.mem_iff.1 hm
    · have := G.len
      rw [hF] at this
      rw [q3']
      simp only [List.length_cons] at this ⊢
      omega
    · rw [q3'] at h1
      have := G.cov m h0 h1
      rw [hF] at this
      exact List.perm_middle.mem_iff.2 this
    · rcases hl.of_set hj with ⟨rfl, rfl⟩ | ⟨hji, hjl⟩
      · exact hsub.cons_cons n
      · exact (G.sub j l' hjl).cons n
    · rcases List.mem_cons.1 hm with rfl | hm
      · exact ⟨i, _, hl.same _, List.mem_cons_self⟩
      · obtain ⟨j, l', hj, hml⟩ := G.mem m hm
        by_cases hji : j = i
        · subst hji
          rw [hl.uniq hj]
          exact ⟨j, _, hj.same _, List.mem_cons_of_mem _ hml⟩
        · exact ⟨j, l', hj.ne hl.1 hji _, hml⟩
    · refine fl_congr (fun m hm => ?_) hfl.2.2
      have hmF : m ∈ r.Free := by rw [hF]; exact List.mem_cons_of_mem _ hm
      refine (q9 m fun h => ?_).symm
      rcases List.mem_cons.1 h with rfl | h
      · have h := G.nf
        rw [hF] at h
        exact (List.nodup_cons.1 h).1 hm
      · exact G.nfu hmF (hsub.subset h)
    · rw [q5]; exact hfl.1
    · refine List.pairwise_cons.2 ⟨fun b hb => ?_, ?_⟩
      · have hbn : b ≠ n := fun e => G.nfu hnF (e ▸ hb)
        rw [q8, (q7 b hbn).1]
        have := G.ck b hb
        show (g b).used < x.clock + 1
        omega
      · refine G.tm.imp_of_mem fun {a b} ha hb h => ?_
        rw [(q7 b (fun e => G.nfu hnF (e ▸ hb))).1, (q7 a (fun e => G.nfu hnF (e ▸ ha))).1]
        exact h
    · rw [q6]
      rcases List.mem_cons.1 hm with rfl | hm
      · rw [q8]; exact Int.le_refl _
      · rw [(q7 m (fun e => G.nfu hnF (e ▸ hm))).1]
        have := G.ck m hm
        show _ ≤ x.clock + 1
        omega
    · rw [q6]
      have := G.ck2
      constructor
      · show 0 ≤ x.clock + 1; omega
      · show x.clock + 1 ≤ k + 1; omega
/-- Where a node stands. -/
theorem at_spec (G : Good x r g k) (op : List (BitVec 8)) (n : Int) : ((n < 0 ∨ (x.nodes.length : Int) ≤ n) ∧ lists_Lists_at x op n = some (.fault op n 2 .nil) ∧ butteryref09_at r n = some 2) ∨
    (n ∈ r.Free ∧ lists_Lists_at x op n = some (.fault op n 9 .nil) ∧ butteryref09_at r n = some 9 ∧ (g n).list = -1 ∧ butteryref09_List r n = some (-1)) ∨
    (n ∈ r.Used ∧ lists_Lists_at x op n = some .nil ∧ butteryref09_at r n = some 0 ∧ ∃ i l, At r.L i l ∧ n ∈ l ∧ (g n).list = i ∧ butteryref09_List r n = some i) := by
  have hNN := G.NN
  have eX : lists_Lists_at x op n = if n < 0 ∨ (x.nodes.length : Int) ≤ n then some (.fault op n 2 .nil) else (chk (x.nodes).length n).bind fun v17 =>
      (ixA (x.nodes).length x.nodes n).bind fun v19 => if (v19.list == (-1 : Int)) = true then some (.fault op n 9 .nil) else some Err.nil := by
    unfold lists_Lists_at
    simp only [lt_eq, outc, Option.bind_some, decide_eq_true_eq, flt_eq _ _ 2 (by decide), flt_eq _ _ 9 (by decide)]
  have eR : butteryref09_at r n = if n < 0 ∨ r.Nodes ≤ n then some 2 else (butteryref09_List r n).bind fun v13 => if v13 < 0 then some 9 else some 0 := by
    unfold butteryref09_at
    simp only [lt_eq, outc, Option.bind_some, decide_eq_true_eq]
  rw [hNN] at eR
  by_cases h1 : n < 0 ∨ (x.nodes.length : Int) ≤ n
  · left
    rw [eX, eR, if_pos h1, if_pos h1]
    exact ⟨h1, rfl, rfl⟩
  rw [if_neg h1] at eX eR
  right
  have hn := G.rep n (by omega) (by omega)
  obtain ⟨kk, hk1, hk2⟩ := listF_eq r n G.M G.le
  have hA : lists_Lists_at x op n = if ((g n).list == (-1 : Int)) = true then some (.fault op n 9 .nil) else some .nil := by
    rw [eX, hn.chk, Option.bind_some, hn.ixA, Option.bind_some]
  have hB : butteryref09_at r n = if kk < 0 then some 9 else some 0 := by
    rw [eR, hk1, Option.bind_some]
  rcases List.mem_append.1 (G.cov n (by omega) (by omega)) with hf | hu
  · left
    have hl := fl_list G.fr n hf
    have hkk : kk = -1 := by
      rcases hk2 with ⟨h, _⟩ | ⟨l, h3, h4⟩
      · exact h
      · exact absurd ((G.sub _ _ h3).subset h4) (G.nfu hf)
    subst hkk
    refine ⟨hf, by rw [hA, hl]; rfl, by rw [hB]; rfl, hl, hk1⟩
  · right
    obtain ⟨i, l, h3, h4⟩ := G.mem n hu
    have hl := dl_list (G.gd.dll i l h3).1 n h4
    have hkk : kk = i := by
      rcases hk2 with ⟨_, h⟩ | ⟨l', h5, h6⟩
      · exact absurd h4 (h l (List.mem_of_getElem? h3.2))
      · exact G.dis h5 h3 h6 h4
    subst hkk
    have := h3.1
    refine ⟨hu, by rw [hA, hl, if_neg (by simp; omega)], by rw [hB, if_neg (by omega)], kk, l, h3, h4, hl, hk1⟩
theorem Gd.congr {g g' : Int → lists_link} {fs ls cs : List Int} {L : List (List Int)} (h : Gd g fs ls cs L) (he : ∀ i l, At L i l → ∀ m ∈ l, g' m = g m) : Gd g' fs ls cs L :=
  ⟨h.f, h.l, h.c, fun i l hl => ⟨dl_congr (fun m hm => by rw [he i l hl m hm]; exact ⟨rfl, rfl, rfl⟩) (h.dll i l hl).1, (h.dll i l hl).2⟩⟩
end
end Go.Proofs.YtobbifgmjkgkfaaDoor
namespace Go.Proofs.YtobbifgmjkgkfaaDoor
open Go Go.Va
set_option linter.unusedVariables false
set_option linter.unusedSimpArgs false
section
variable {x : lists_Lists} {r : butteryref09_Lists} {g : Int → lists_link} {k : Int}
/-- A node of a list, pulled. -/
theorem Good.pulled (G : Good x r g k) {i n : Int} {l : List Int} (hl : At r.L i l) (hn : n ∈ l) : l.Nodup ∧ ∃ x' g', lists_Lists_pull x n = some x' ∧ Rep x'.nodes g' ∧ x'.nodes.length = x.nodes.length ∧ Gd g' x'.first_ x'.last_ x'.count (r.L.set i.toNat (but l n)) ∧ x'.free = x.free ∧ x'.clock = x.clock ∧ ulEq g g' ∧ ∀ m, m ∉ l → g' m = g m := by
  obtain ⟨a, b, rfl⟩ := List.append_of_mem hn
  have hsub := G.sub i _ hl
  have hnd := hsub.nodup G.nu
  refine ⟨hnd, ?_⟩
  have hll := G.ll hl
  obtain ⟨x', g', q1, q2, q3, q4, q5, q6, q7, q8⟩ := pull_eq G.rep G.gd hl hnd (fun m hm => G.rng m (List.mem_append_right _ (hsub.subset hm))) (fun j l' hj hji m hm hm' => hji (G.dis hj hl hm' hm)) (by omega)
  rw [← but_split hnd] at q4
  exact ⟨x', g', q1, q2, q3, q4, q5, q6, q7, fun m hm => q8 m (fun h => hm (by simp [h])) (fun h => hm (by simp [h]))⟩
theorem but_len {l : List Int} {n : Int} (hn : l.Nodup) (h : n ∈ l) : (but l n).length + 1 = l.length := by
  obtain ⟨a, b, rfl⟩ := List.append_of_mem h
  rw [but_split hn]
  simp only [List.length_append, List.length_cons]
  omega
theorem but_le (l : List Int) (n : Int) : (but l n).length ≤ l.length := List.length_filter_le _ _
theorem but_perm {l : List Int} {n : Int} (hn : l.Nodup) (h : n ∈ l) : (n :: but l n).Perm l := by
  obtain ⟨a, b, rfl⟩ := List.append_of_mem h
  rw [but_split hn]
  exact List.perm_middle.symm
theorem but_sub {l u : List Int} (h : l.Sublist u) (n : Int) : (but l n).Sublist (but u n) := h.filter _
theorem drop_step (G : Good x r g k) (hk : k ≤ 1000) (n : Int) : ∃ x' r' e c, lists_Lists_Drop x n = some (e, x') ∧ butteryref09_Drop r n = some (r', c) ∧ codeOf e = c ∧ x'.nodes.length = x.nodes.length ∧ r'.L.length = r.L.length ∧ (∃ g', Good x' r' g' (k + 1)) ∧ ((n < 0 ∨ (x.nodes.length : Int) ≤ n) → r' = r ∧ c = 2) := by
  unfold lists_Lists_Drop butteryref09_Drop
  simp only [lt_eq]
  rcases at_spec G [100#8, 114#8, 111#8, 112#8] n with ⟨_, h1, h2⟩ | ⟨hf, h1, h2, _⟩ | ⟨hu, h1, h2, i, l, hl, hnl, hgl, hL⟩
  · rw [h1, h2, Option.bind_some, Option.bind_some]
    exact ⟨x, r, _, _, rfl, rfl, flt_code _ _ _ (by decide), rfl, rfl, ⟨g, G.more (by omega)⟩, fun _ => ⟨rfl, rfl⟩⟩
  · rw [h1, h2, Option.bind_some, Option.bind_some]
    exact ⟨x, r, _, _, rfl, rfl, flt_code _ _ _ (by decide), rfl, rfl, ⟨g, G.more (by omega)⟩, fun h => by have := G.rng n (List.mem_append_left _ hf); omega⟩
  obtain ⟨hnd, x', g', q1, q2, q3, q4, q5, q6, q7, q8⟩ := G.pulled hl hnl
  obtain ⟨n0, n1⟩ := G.rng n (List.mem_append_right _ hu)
  have hn := q2 n n0 (by omega)
  have hM := G.M
  have hll := G.ll hl
  have hul := G.ul
  have hfl := G.fll
  have hbl := but_le l n
  rw [h1, h2, Option.bind_some, Option.bind_some, q1]
  simp only [Err.isNil, Bool.not_true, Bool.false_eq_true, if_false, Option.bind_some]
  rw [hn.chk, Option.bind_some, hn.updA, Option.bind_some, if_neg (by simp), hL, Option.bind_some, hl.ix, Option.bind_some, butF_eq _ _ (by omega), Option.bind_some, withF_eq r i _ hl (by omega), Option.bind_some, aheadF_eq _ _ (by omega), Option.bind_some, butF_eq _ _ (by omega), Option.bind_some]
  refine ⟨_, { r with L := r.L.set i.toNat (but l n), Free := n :: r.Free, Used := but r.Used n }, .nil, 0, rfl, rfl, rfl, by simp [q3], by simp, ⟨fup g' n ⟨-1, x'.free, -1, 0⟩, ?_⟩, fun h => by omega⟩
  have hnf : n ∉ r.Free := fun h => G.nfu h hu
  have hpm : (n :: r.Free ++ but r.Used n).Perm (r.Free ++ r.Used) := (List.perm_middle.symm).trans (List.Perm.append_left _ (but_perm G.nu hu))
  have hgm : ∀ m, m ≠ n → (fup g' n ⟨-1, x'.free, -1, 0⟩ m).used = (g m).used := fun m hm => by rw [fup_ne hm]; exact (q7 m).1
  have hnodes : (x'.nodes.set n.toNat ⟨-1, x'.free, -1, 0⟩).length = x.nodes.length := by simp [q3]
  refine ⟨q2.set n0 (by omega) _, by show r.Nodes = _; rw [hnodes]; exact G.NN, by show (x'.nodes.set _ _).length ≤ _; rw [hnodes]; exact G.nN, ?_, by simpa using G.M, fun m hm => ?_, hpm.nodup_iff.2 G.nod, ?_, fun m h0 h1 => ?_, fun j l' hj => ?_, fun m hm => ?_, ?_, rfl, ?_, fun m hm => ?_, ?_⟩
  · refine Gd.congr q4 fun j l' hj m hm => fup_ne fun e => ?_
    subst e
    rcases hl.of_set hj with ⟨rfl, rfl⟩ | ⟨hji, hjl⟩
    · exact (mem_but.1 hm).2 rfl
    · exact hji (G.dis hjl hl hm hnl)
  · show 0 ≤ m ∧ m < ((x'.nodes.set n.toNat ⟨-1, x'.free, -1, 0⟩).length : Int)
    rw [hnodes]
    exact G.rng m (hpm.mem_iff.1 hm)
  · show (n :: r.Free).length + (but r.Used n).length = (x'.nodes.set n.toNat ⟨-1, x'.free, -1, 0⟩).length
    rw [hnodes]
    have := but_len G.nu hu
    have := G.len
    simp only [List.length_cons]
    omega
  · have h1' : m < ((x'.nodes.set n.toNat ⟨-1, x'.free, -1, 0⟩).length : Int) := h1
    rw [hnodes] at h1'
    exact hpm.mem_iff.2 (G.cov m h0 h1')
  · rcases hl.of_set hj with ⟨rfl, rfl⟩ | ⟨hji, hjl⟩
    · exact but_sub (G.sub _ _ hl) n
    · have h3 := but_sub (G.sub j l' hjl) n
      rwa [but_not (fun h => hji (G.dis hjl hl h hnl))] at h3
  · obtain ⟨hmu, hmn⟩ := mem_but.1 hm
    obtain ⟨j, l', hj, hml⟩ := G.mem m hmu
    by_cases hji : j = i
    · subst hji
      rw [← hl.uniq hj] at hml
      exact ⟨j, _, hj.same _, mem_but.2 ⟨hml, hmn⟩⟩
    · exact ⟨j, l', hj.ne hl.1 hji _, hml⟩
  · refine ⟨?_, ?_, fl_congr (fun m hm => ?_) G.fr⟩
    · rw [fup_same]
      show x'.free = _
      rw [q5]; exact G.free
    · rw [fup_same]
    · rw [fup_ne (show m ≠ n from fun e => hnf (e ▸ hm))]
      exact (q8 m fun h => G.nfu hm ((G.sub _ _ hl).subset h)).symm
  · have h3 : (but r.Used n).Pairwise fun a b => (g b).used < (g a).used := G.tm.sublist List.filter_sublist
    refine h3.imp_of_mem fun {a b} ha hb h => ?_
    rw [hgm a (mem_but.1 ha).2, hgm b (mem_but.1 hb).2]
    exact h
  · obtain ⟨hmu, hmn⟩ := mem_but.1 hm
    rw [hgm m hmn]
    show _ ≤ x'.clock
    rw [q6]
    exact G.ck m hmu
  · show 0 ≤ x'.clock ∧ x'.clock ≤ k + 1
    rw [q6]
    have := G.ck2
    omega
theorem touch_step (G : Good x r g k) (hk : k ≤ 1000) (n : Int) : ∃ x' r' e c, lists_Lists_Touch x n = some (e, x') ∧ butteryref09_Touch r n = some (r', c) ∧ codeOf e = c ∧ x'.nodes.length = x.nodes.length ∧ r'.L.length = r.L.length ∧ (∃ g', Good x' r' g' (k + 1)) ∧
    (n ∈ r.Used → e = .nil ∧ ∃ i l, At r.L i l ∧ n ∈ l ∧ (g n).list = i ∧ r'.L = r.L.set i.toNat (n :: but l n) ∧ r'.Used = n :: but r.Used n) := by
  unfold lists_Lists_Touch butteryref09_Touch
  simp only [lt_eq]
  rcases at_spec G [116#8, 111#8, 117#8, 99#8, 104#8] n with ⟨h0, h1, h2⟩ | ⟨h0, h1, h2, _⟩ | ⟨hu, h1, h2, i, l, hl, hnl, hgl, hL⟩
  · rw [h1, h2, Option.bind_some, Option.bind_some]
    exact ⟨x, r, _, _, rfl, rfl, flt_code _ _ _ (by decide), rfl, rfl, ⟨g, G.more (by omega)⟩, fun h => by have := G.rng n (List.mem_append_right _ h); omega⟩
  · rw [h1, h2, Option.bind_some, Option.bind_some]
    exact ⟨x, r, _, _, rfl, rfl, flt_code _ _ _ (by decide), rfl, rfl, ⟨g, G.more (by omega)⟩, fun h => absurd h (G.nfu h0)⟩
  obtain ⟨hnd, x', g', q1, q2, q3, q4, q5, q6, q7, q8⟩ := G.pulled hl hnl
  obtain ⟨n0, n1⟩ := G.rng n (List.mem_append_right _ hu)
  have hn := G.rep n n0 (by omega)
  have hM := G.M
  have hll := G.ll hl
  have hul := G.ul
  have hbl := but_le l n
  have hbu := but_le r.Used n
  have hck := G.ck2
  have hl' : At (r.L.set i.toNat (but l n)) i (but l n) := hl.same _
  have hsub := G.sub i l hl
  obtain ⟨y, g2, p1, p2, p3, p4, p5, p6, p7, p8, p9⟩ := push_eq (n := n) q2 q4 hl' (List.nodup_cons.2 ⟨fun h => (mem_but.1 h).2 rfl, hnd.sublist List.filter_sublist⟩)
    (fun m hm => by
      rw [q3]
      rcases List.mem_cons.1 hm with rfl | hm
      · exact ⟨n0, n1⟩
      · exact G.rng m (List.mem_append_right _ (hsub.subset (mem_but.1 hm).1)))
    (fun j l'' hj hji m hm hm' => by
      rcases hl.of_set hj with ⟨e, _⟩ | ⟨_, hjl⟩
      · exact hji e
      · rcases List.mem_cons.1 hm with rfl | hm
        · exact hji (G.dis hjl hl hm' hnl)
        · exact hji (G.dis hjl hl hm' (mem_but.1 hm).1)) (by omega) (by omega)
  rw [List.set_set] at p4
  rw [h1, h2, Option.bind_some, Option.bind_some]
  simp only [Err.isNil, Bool.not_true, Bool.false_eq_true, if_false, Option.bind_some]
  rw [hn.chk, Option.bind_some, hn.ixA, Option.bind_some, q1, Option.bind_some, hgl, p1, Option.bind_some, if_neg (by simp), hL, Option.bind_some, hl.ix, Option.bind_some, butF_eq _ _ (by omega), Option.bind_some, aheadF_eq _ _ (by omega), Option.bind_some, withF_eq r i _ hl (by omega), Option.bind_some, butF_eq _ _ (by omega), Option.bind_some, aheadF_eq _ _ (by omega), Option.bind_some]
  refine ⟨y, { r with L := r.L.set i.toNat (n :: but l n), Used := n :: but r.Used n }, .nil, 0, rfl, rfl, rfl, by rw [p3, q3], by simp, ⟨g2, ?_⟩, fun _ => ⟨rfl, i, l, hl, hnl, rfl, rfl, rfl⟩⟩
  have hpu := but_perm G.nu hu
  have hpm : (r.Free ++ n :: but r.Used n).Perm (r.Free ++ r.Used) := List.Perm.append_left _ hpu
  have hgm : ∀ m, m ≠ n → (g2 m).used = (g m).used := fun m hm => (p7 m hm).1.trans (q7 m).1
  have hnodes : y.nodes.length = x.nodes.length := p3.trans q3
  refine ⟨p2, by rw [hnodes]; exact G.NN, by rw [hnodes]; exact G.nN, p4, by simpa using G.M, fun m hm => ?_, hpm.nodup_iff.2 G.nod, ?_, fun m h0 h1 => ?_, fun j l' hj => ?_, fun m hm => ?_, ?_, ?_, ?_, fun m hm => ?_, ?_⟩
  · rw [hnodes]
    exact G.rng m (hpm.mem_iff.1 hm)
  · rw [hnodes]
    have := hpu.length_eq
    have := G.len
    show r.Free.length + (n :: but r.Used n).length = _
    omega
  · rw [hnodes] at h1
    exact hpm.mem_iff.2 (G.cov m h0 h1)
  · rcases hl.of_set hj with ⟨rfl, rfl⟩ | ⟨hji, hjl⟩
    · exact (but_sub (G.sub _ _ hl) n).cons_cons n
    · have h3 := but_sub (G.sub j l' hjl) n
      rw [but_not (fun h => hji (G.dis hjl hl h hnl))] at h3
      exact h3.cons n
  · rcases List.mem_cons.1 hm with rfl | hm
    · exact ⟨i, _, hl.same _, List.mem_cons_self⟩
    · obtain ⟨hmu, hmn⟩ := mem_but.1 hm
      obtain ⟨j, l', hj, hml⟩ := G.mem m hmu
      by_cases hji : j = i
      · subst hji
        rw [← hl.uniq hj] at hml
        exact ⟨j, _, hj.same _, List.mem_cons_of_mem _ (mem_but.2 ⟨hml, hmn⟩)⟩
      · exact ⟨j, l', hj.ne hl.1 hji _, hml⟩
  · refine fl_congr (fun m hm => ?_) G.fr
    have hml : m ∉ l := fun h => G.nfu hm (hsub.subset h)
    rw [p9 m, q8 m hml]
    intro h
    rcases List.mem_cons.1 h with rfl | h
    · exact hml hnl
    · exact hml (mem_but.1 h).1
  · rw [p5, q5]; exact G.free
  · refine List.pairwise_cons.2 ⟨fun b hb => ?_, ?_⟩
    · rw [p8, hgm b (mem_but.1 hb).2, q6]
      have := G.ck b (mem_but.1 hb).1
      omega
    · have h3 : (but r.Used n).Pairwise fun a b => (g b).used < (g a).used := G.tm.sublist List.filter_sublist
      refine h3.imp_of_mem fun {a b} ha hb h => ?_
      rw [hgm a (mem_but.1 ha).2, hgm b (mem_but.1 hb).2]
      exact h
  · rw [p6, q6]
    rcases List.mem_cons.1 hm with rfl | hm
    · rw [p8, q6]; exact Int.le_refl _
    · obtain ⟨hmu, hmn⟩ := mem_but.1 hm
      rw [hgm m hmn]
      have := G.ck m hmu
      omega
  · rw [p6, q6]
    omega
end
end Go.Proofs.YtobbifgmjkgkfaaDoor
namespace Go.Proofs.YtobbifgmjkgkfaaDoor
open Go Go.Va
set_option linter.unusedVariables false
set_option linter.unusedSimpArgs false
set_option maxRecDepth 20000
noncomputable def butterylaw09_same_b0 (x0 : lists_Lists) (x1 : butteryref09_Lists) (x2 : Int) (c1 : Int) : Option ((Int) ⊕ (Unit ⊕ (Bool))) :=
  lt (((x1.L).length : Int)) fun v12 =>
  lt (decide (c1 < v12)) fun v14 =>
  if v14 = true then
    (
      (lists_Lists_Order x0 c1).bind fun v21 =>
      (ix x1.L c1).bind fun v23 =>
      (butteryref02_Ints v21 v23).bind fun v25 =>
      lt (!v25) fun v27 =>
      if v27 = true then
        some true
      else
        (lists_Lists_Last x0 c1).bind fun v30 =>
        (ix x1.L c1).bind fun v32 =>
        (butteryref09_Last v32).bind fun v34 =>
        lt (v30 != v34) fun v36 =>
        if v36 = true then
          some true
        else
          (lists_Lists_Len x0 c1).bind fun v39 =>
          (ix x1.L c1).bind fun v41 =>
          lt (((v41).length : Int)) fun v43 =>
          lt (v39 != v43) fun v45 =>
          some v45
     : Option (Bool)).bind fun s16 =>
      if s16 = true then
        some (.inr (.inr false))
      else
        lt (w64 (c1 + (1 : Int))) fun v50 =>
        some (.inl v50)
  else
    some (.inr (.inl ()))
noncomputable def butterylaw09_same_l0 (x0 : lists_Lists) (x1 : butteryref09_Lists) (x2 : Int) (s : Int) : Option (Unit ⊕ (Bool)) := loopO (fun s => butterylaw09_same_b0 x0 x1 x2 s) s
noncomputable def butterylaw09_same_b1 (x0 : lists_Lists) (x1 : butteryref09_Lists) (x2 : Int) (c52 : Int) : Option ((Int) ⊕ (Unit ⊕ (Bool))) :=
  (
    lt (decide (c52 < x1.Nodes)) fun v67 =>
    if v67 = true then
      lt (decide (c52 < (40 : Int))) fun v70 =>
      some v70
    else
      some false
   : Option (Bool)).bind fun s62 =>
    if s62 = true then
      (lists_Lists_List x0 c52).bind fun v74 =>
      (butteryref09_List x1 c52).bind fun v76 =>
      lt (v74 != v76) fun v78 =>
      if v78 = true then
        some (.inr (.inr false))
      else
        lt (w64 (c52 + (1 : Int))) fun v82 =>
        some (.inl v82)
    else
      some (.inr (.inl ()))
noncomputable def butterylaw09_same_l1 (x0 : lists_Lists) (x1 : butteryref09_Lists) (x2 : Int) (s : Int) : Option (Unit ⊕ (Bool)) := loopO (fun s => butterylaw09_same_b1 x0 x1 x2 s) s
noncomputable def butterylaw09_same (x0 : lists_Lists) (x1 : butteryref09_Lists) (x2 : Int) : Option (Bool) :=
  (butterylaw09_same_l0 x0 x1 x2 (0 : Int)).bind fun o2 =>
    Sum.elim (fun s9 : Unit =>
      (butterylaw09_same_l1 x0 x1 x2 (0 : Int)).bind fun o53 =>
        Sum.elim (fun s60 : Unit =>
          (
            lt (decide (x2 < (0 : Int))) fun v89 =>
            if v89 = true then
              some true
            else
              lt (((x1.L).length : Int)) fun v92 =>
              lt (decide (x2 ≥ v92)) fun v94 =>
              some v94
           : Option (Bool)).bind fun s84 =>
            (lists_Lists_Oldest x0).bind fun v97 =>
            (butteryref09_Last x1.Used).bind fun v99 =>
            lt (v97 == v99) fun v101 =>
            if v101 = true then
              lt (!s84) fun v104 =>
              if v104 = true then
                lt (decide (x2 ≥ (0 : Int))) fun v107 =>
                if v107 = true then
                  lt (decide (x2 < x1.Nodes)) fun v110 =>
                  if v110 = true then
                    some true
                  else
                    (lists_Lists_List x0 x2).bind fun v113 =>
                    lt (v113 == (-1 : Int)) fun v115 =>
                    some v115
                else
                  (lists_Lists_List x0 x2).bind fun v117 =>
                  lt (v117 == (-1 : Int)) fun v119 =>
                  some v119
              else
                (lists_Lists_Order x0 x2).bind fun v121 =>
                lt (((v121).length : Int)) fun v123 =>
                lt (v123 == (0 : Int)) fun v125 =>
                if v125 = true then
                  (lists_Lists_Last x0 x2).bind fun v128 =>
                  lt (v128 == (-1 : Int)) fun v130 =>
                  if v130 = true then
                    (lists_Lists_Len x0 x2).bind fun v133 =>
                    lt (v133 == (0 : Int)) fun v135 =>
                    if v135 = true then
                      lt (decide (x2 ≥ (0 : Int))) fun v138 =>
                      if v138 = true then
                        lt (decide (x2 < x1.Nodes)) fun v141 =>
                        if v141 = true then
                          some true
                        else
                          (lists_Lists_List x0 x2).bind fun v144 =>
                          lt (v144 == (-1 : Int)) fun v146 =>
                          some v146
                      else
                        (lists_Lists_List x0 x2).bind fun v148 =>
                        lt (v148 == (-1 : Int)) fun v150 =>
                        some v150
                    else
                      some false
                  else
                    some false
                else
                  some false
            else
              some false
          ) (fun y => some y) o53
      ) (fun y => some y) o2
end Go.Proofs.YtobbifgmjkgkfaaDoor
namespace Go.Proofs.YtobbifgmjkgkfaaDoor
open Go Go.Va
set_option linter.unusedVariables false
set_option linter.unusedSimpArgs false
section
variable {x : lists_Lists} {r : butteryref09_Lists} {g : Int → lists_link} {k : Int}
theorem order_loop (G : Good x r g k) {i : Int} : ∀ (l acc : List Int) (p : Int), dl g i p l (-1) → (∀ m ∈ l, 0 ≤ m ∧ m < (x.nodes.length : Int)) → acc.length + l.length ≤ 70000 → loopO (fun s => lists_Lists_Order_b0 x s.1 s.2) (acc, hdp l (-1)) = some (acc ++ l)
  | [], acc, p, _, _, _ => by
    refine loopO_out ?_
    unfold lists_Lists_Order_b0
    simp [lt_eq, hdp]
  | m :: l, acc, p, hd, hr, hle => by
    obtain ⟨h1, h2, h3, h4⟩ := hd
    obtain ⟨m0, m1⟩ := hr m List.mem_cons_self
    have hm := G.rep m m0 m1
    simp only [List.length_cons] at hle
    rw [loopO_in (s' := (acc ++ [m], hdp l (-1)))]
    · rw [order_loop G l (acc ++ [m]) m h4 (fun q hq => hr q (List.mem_cons_of_mem _ hq)) (by simp; omega)]
      simp
    · show lists_Lists_Order_b0 x acc m = _
      unfold lists_Lists_Order_b0
      simp only [lt_eq]
      rw [if_pos (by simp; omega), app_eq (by simp; omega), Option.bind_some, hm.chk, Option.bind_some, hm.ixA, Option.bind_some, h2]
theorem Good.rl (G : Good x r g k) {i : Int} {l : List Int} (hl : At r.L i l) : ∀ m ∈ l, 0 ≤ m ∧ m < (x.nodes.length : Int) := fun m hm => G.rng m (List.mem_append_right _ ((G.sub i l hl).subset hm))
theorem order_eq (G : Good x r g k) {i : Int} {l : List Int} (hl : At r.L i l) : lists_Lists_Order x i = some l := by
  obtain ⟨q1, q2, q3, q4⟩ := G.gd.dll i l hl
  have h0 := hl.1
  have h1 := q2.lt
  have hll := G.ll hl
  unfold lists_Lists_Order lists_Lists_Order_l0
  simp only [lt_eq, decide_eq_true_eq, outc, Option.bind_some]
  rw [if_neg (by omega), q2.chk, Option.bind_some, q2.ixA, Option.bind_some, order_loop G l [] (-1) q1 (G.rl hl) (by simp; omega)]
  rfl
theorem order_out (G : Good x r g k) {i : Int} (h : i < 0 ∨ (r.L.length : Int) ≤ i) : lists_Lists_Order x i = some [] := by
  have := G.gd.f
  unfold lists_Lists_Order
  simp only [lt_eq, decide_eq_true_eq, outc, Option.bind_some]
  rw [if_pos (by omega)]
theorem last_eq (G : Good x r g k) {i : Int} {l : List Int} (hl : At r.L i l) : lists_Lists_Last x i = some (lsp (-1) l) := by
  obtain ⟨q1, q2, q3, q4⟩ := G.gd.dll i l hl
  have h0 := hl.1
  have h1 := q3.lt
  unfold lists_Lists_Last
  simp only [lt_eq, decide_eq_true_eq, outc, Option.bind_some]
  rw [if_neg (by omega), q3.chk, Option.bind_some, q3.ixA, Option.bind_some]
theorem last_out (G : Good x r g k) {i : Int} (h : i < 0 ∨ (r.L.length : Int) ≤ i) : lists_Lists_Last x i = some (-1) := by
  have := G.gd.l
  unfold lists_Lists_Last
  simp only [lt_eq, decide_eq_true_eq, outc, Option.bind_some]
  rw [if_pos (by omega)]
theorem len_eq (G : Good x r g k) {i : Int} {l : List Int} (hl : At r.L i l) : lists_Lists_Len x i = some (l.length : Int) := by
  obtain ⟨q1, q2, q3, q4⟩ := G.gd.dll i l hl
  have h0 := hl.1
  have h1 := q4.lt
  unfold lists_Lists_Len
  simp only [lt_eq, decide_eq_true_eq, outc, Option.bind_some]
  rw [if_neg (by omega), q4.chk, Option.bind_some, q4.ixA, Option.bind_some]
theorem len_out (G : Good x r g k) {i : Int} (h : i < 0 ∨ (r.L.length : Int) ≤ i) : lists_Lists_Len x i = some 0 := by
  have := G.gd.c
  unfold lists_Lists_Len
  simp only [lt_eq, decide_eq_true_eq, outc, Option.bind_some]
  rw [if_pos (by omega)]
theorem listX_in (G : Good x r g k) {n : Int} (h0 : 0 ≤ n) (h1 : n < (x.nodes.length : Int)) : lists_Lists_List x n = some (g n).list := by
  have hn := G.rep n h0 h1
  unfold lists_Lists_List
  simp only [lt_eq, decide_eq_true_eq, outc, Option.bind_some]
  rw [if_neg (by omega), hn.chk, Option.bind_some, hn.ixA, Option.bind_some]
theorem listX_out {n : Int} (h : n < 0 ∨ (x.nodes.length : Int) ≤ n) : lists_Lists_List x n = some (-1) := by
  unfold lists_Lists_List
  simp only [lt_eq, decide_eq_true_eq, outc, Option.bind_some]
  rw [if_pos h]
theorem list_same (G : Good x r g k) {n : Int} (h0 : 0 ≤ n) (h1 : n < (x.nodes.length : Int)) : butteryref09_List r n = some (g n).list := by
  rcases at_spec G [] n with ⟨h, _⟩ | ⟨_, _, _, h, h'⟩ | ⟨_, _, _, i, l, _, _, h, h'⟩
  · omega
  · rw [h, h']
  · rw [h, h']
/-! ### the oldest one -/
theorem last_min {f : Int → Int} : ∀ {u : List Int} {p m : Int}, (u.Pairwise fun a b => f b < f a) → m ∈ u → m ≠ lsp p u → f (lsp p u) < f m
  | [], _, _, _, h, _ => absurd h List.not_mem_nil
  | a :: u, p, m, hp, hm, hne => by
    obtain ⟨h1, h2⟩ := List.pairwise_cons.1 hp
    simp only [lsp] at hne ⊢
    cases u with
    | nil =>
      simp only [lsp, List.mem_singleton] at hne hm
      exact absurd hm hne
    | cons b u =>
      rcases List.mem_cons.1 hm with rfl | hm
      · exact h1 _ (lsp_mem (by simp))
      · exact last_min h2 hm hne
theorem Good.lastof (G : Good x r g k) {i : Int} {l : List Int} (hl : At r.L i l) (hu : lsp (-1) r.Used ∈ l) : lsp (-1) l = lsp (-1) r.Used := by
  refine Classical.byContradiction fun hne => ?_
  have hsub := G.sub i l hl
  have hl0 : l ≠ [] := fun e => by rw [e] at hu; cases hu
  have h1 := last_min (p := -1) G.tm (hsub.subset (lsp_mem (p := -1) hl0)) hne
  have h2 := last_min (p := -1) (G.tm.sublist hsub) hu (Ne.symm hne)
  omega
theorem oldest_eq (G : Good x r g k) : lists_Lists_Oldest x = some (lsp (-1) r.Used) := by
  have hM := G.M
  have hl := G.gd.l
  unfold lists_Lists_Oldest lists_Lists_Oldest_l0
  simp only [lt_eq]
  have key := loopO_inv (body := fun s => lists_Lists_Oldest_b0 x (x.last_.length : Int) s.1 s.2) (fun s => ∃ j : Nat, s.2 = (j : Int) ∧ j ≤ r.L.length ∧ ((s.1 = -1 ∧ ∀ l ∈ r.L.take j, l = []) ∨ (s.1 ∈ r.Used ∧ ∀ l ∈ r.L.take j, l ≠ [] → (g s.1).used ≤ (g (lsp (-1) l)).used)))
    (fun s => (r.L.length - s.2).toNat) (fun y => y = lsp (-1) r.Used) (s := ((-1 : Int), (0 : Int))) ?_ ⟨0, rfl, Nat.zero_le _, .inl ⟨rfl, by simp⟩⟩
  · obtain ⟨y, h1, rfl⟩ := key
    rw [h1]
    rfl
  · rintro ⟨c, s2⟩ ⟨j, hj, hjl, hI⟩
    simp only at hj hI
    subst hj
    unfold lists_Lists_Oldest_b0
    simp only [lt_eq]
    by_cases hjn : j < r.L.length
    · left
      have hat : At r.L (j : Int) r.L[j] := at_nat (List.getElem?_eq_getElem hjn)
      obtain ⟨q1, q2, q3, q4⟩ := G.gd.dll _ _ hat
      have hsub := G.sub _ _ hat
      rw [if_pos (decide_eq_true (by omega)), q3.chk, Option.bind_some, q3.ixA, Option.bind_some, w64_nat (by omega)]
      have htk : r.L.take (j + 1) = r.L.take j ++ [r.L[j]] := List.take_succ_eq_append_getElem hjn
      by_cases he : r.L[j] = []
      · have hv : lsp (-1) r.L[j] = -1 := by rw [he]; rfl
        generalize lsp (-1) r.L[j] = v at hv
        subst hv
        rw [if_neg (show ¬ ((-1 : Int) != -1) = true by simp), Option.bind_some, if_neg (by simp)]
        refine ⟨_, rfl, ⟨j + 1, rfl, hjn, ?_⟩, by simp only; omega⟩
        rw [htk, he]
        rcases hI with ⟨e, hI⟩ | ⟨e, hI⟩
        · refine .inl ⟨e, fun l hl => ?_⟩
          rcases List.mem_append.1 hl with h | h
          · exact hI l h
          · exact List.mem_singleton.1 h
        · refine .inr ⟨e, fun l hl hne => ?_⟩
          rcases List.mem_append.1 hl with h | h
          · exact hI l h hne
          · exact absurd (List.mem_singleton.1 h) hne
      · have hm := lsp_mem (p := -1) he
        have hmu := hsub.subset hm
        obtain ⟨m0, m1⟩ := G.rng _ (List.mem_append_right _ hmu)
        have hmr := G.rep _ m0 m1
        rw [if_pos (by simp; omega)]
        rcases hI with ⟨e, hI⟩ | ⟨e, hI⟩
        · subst e
          rw [if_pos (by simp), Option.bind_some, if_pos rfl]
          refine ⟨_, rfl, ⟨j + 1, rfl, hjn, .inr ⟨hmu, fun l hl hne => ?_⟩⟩, by simp only; omega⟩
          rw [htk] at hl
          rcases List.mem_append.1 hl with h | h
          · exact absurd (hI l h) hne
          · rw [List.mem_singleton.1 h]; exact Int.le_refl _
        · obtain ⟨c0, c1⟩ := G.rng _ (List.mem_append_right _ e)
          have hcr := G.rep _ c0 c1
          rw [if_neg (by simp; omega), hmr.chk, Option.bind_some, hmr.ixA, Option.bind_some, hcr.chk, Option.bind_some, hcr.ixA, Option.bind_some, Option.bind_some]
          by_cases hlt : (g (lsp (-1) r.L[j])).used < (g c).used
          · rw [if_pos (decide_eq_true hlt)]
            refine ⟨_, rfl, ⟨j + 1, rfl, hjn, .inr ⟨hmu, fun l hl hne => ?_⟩⟩, by simp only; omega⟩
            rw [htk] at hl
            rcases List.mem_append.1 hl with h | h
            · have := hI l h hne
              show (g (lsp (-1) r.L[j])).used ≤ _
              omega
            · rw [List.mem_singleton.1 h]; exact Int.le_refl _
          · rw [if_neg (by simpa using hlt)]
            refine ⟨_, rfl, ⟨j + 1, rfl, hjn, .inr ⟨e, fun l hl hne => ?_⟩⟩, by simp only; omega⟩
            rw [htk] at hl
            rcases List.mem_append.1 hl with h | h
            · exact hI l h hne
            · rw [List.mem_singleton.1 h]
              show (g c).used ≤ _
              omega
    · right
      have hje : j = r.L.length := by omega
      subst hje
      rw [List.take_length] at hI
      rw [if_neg (by simp; omega)]
      refine ⟨_, rfl, ?_⟩
      rcases hI with ⟨e, hI⟩ | ⟨e, hI⟩
      · cases hu : r.Used with
        | nil => exact e
        | cons n u =>
          obtain ⟨i, l, h1, h2⟩ := G.mem n (by rw [hu]; exact List.mem_cons_self)
          rw [hI l (List.mem_of_getElem? h1.2)] at h2
          cases h2
      · refine Classical.byContradiction fun hne => ?_
        have h1 := last_min (p := -1) G.tm e hne
        have hu0 : r.Used ≠ [] := fun h => by rw [h] at e; cases e
        obtain ⟨i, l, h2, h3⟩ := G.mem _ (lsp_mem (p := -1) hu0)
        have h4 := hI l (List.mem_of_getElem? h2.2) (fun h => by rw [h] at h3; cases h3)
        rw [G.lastof h2 h3] at h4
        omega
/-! ### an act; and all that is asked -/
theorem do_eq (G : Good x r g k) (hk : k ≤ 1000) (o : butterylaw09_Op) : ∃ x' r' g', butterylaw09_do x r o = some (r', true, x') ∧ Good x' r' g' (k + 1) ∧ x'.nodes.length = x.nodes.length ∧ r'.L.length = r.L.length := by
  unfold butterylaw09_do
  simp only [lt_eq, trouble_Of, Option.bind_some]
  by_cases h0 : o.Kind = 0
  · obtain ⟨x', r', n, e, c, h1, h2, h3, h4, h5, ⟨g', h6⟩, _⟩ := add_step G hk o.At
    rw [if_pos (by simp [h0]), h1, h2]
    simp only [Option.bind_some, h3, beq_self_eq_true, if_true]
    exact ⟨x', r', g', rfl, h6, h4, h5⟩
  rw [if_neg (by simp [h0])]
  by_cases h1 : o.Kind = 1
  · obtain ⟨x', r', e, c, h1', h2, h3, h4, h5, ⟨g', h6⟩, _⟩ := drop_step G hk o.At
    rw [if_pos (by simp [h1]), h1', h2]
    simp only [Option.bind_some, h3, beq_self_eq_true]
    exact ⟨x', r', g', rfl, h6, h4, h5⟩
  rw [if_neg (by simp [h1])]
  by_cases h2 : o.Kind = 2
  · obtain ⟨x', r', e, c, h1', h2', h3, h4, h5, ⟨g', h6⟩, _⟩ := touch_step G hk o.At
    rw [if_pos (by simp [h2]), h1', h2']
    simp only [Option.bind_some, h3, beq_self_eq_true]
    exact ⟨x', r', g', rfl, h6, h4, h5⟩
  rw [if_neg (by simp [h2])]
  exact ⟨x, r, g, rfl, G.more (by omega), rfl, rfl⟩
theorem same_eq (G : Good x r g k) (a : Int) : butterylaw09_same x r a = some true := by
  have hM := G.M
  have hf := G.gd.f
  unfold butterylaw09_same butterylaw09_same_l0 butterylaw09_same_l1
  have l0 : loopO (fun s => butterylaw09_same_b0 x r a s) (0 : Int) = some (.inl ()) := by
    have := loopO_up (body := fun s => butterylaw09_same_b0 x r a s) (fun j => (j : Int)) r.L.length (x := .inl ()) (fun j hj => ?_) ?_
    · exact this
    · have hat : At r.L (j : Int) r.L[j] := at_nat (List.getElem?_eq_getElem hj)
      have hll := G.ll hat
      unfold butterylaw09_same_b0
      simp only [lt_eq]
      rw [if_pos (decide_eq_true (by omega)), order_eq G hat, Option.bind_some, hat.ix, Option.bind_some, ints_eq _ (by omega), Option.bind_some, last_eq G hat, Option.bind_some, Option.bind_some, lastF_eq _ (by omega), Option.bind_some, len_eq G hat, Option.bind_some, Option.bind_some]
      simp only [Bool.not_true, Bool.false_eq_true, if_false, bne_self_eq_false, Option.bind_some]
      rw [w64_nat (by omega)]
    · unfold butterylaw09_same_b0
      simp only [lt_eq]
      rw [if_neg (by simp)]
  have hNN := G.NN
  have l1 : loopO (fun s => butterylaw09_same_b1 x r a s) (0 : Int) = some (.inl ()) := by
    have := loopO_up (body := fun s => butterylaw09_same_b1 x r a s) (fun j => (j : Int)) (min x.nodes.length 40) (x := .inl ()) (fun j hj => ?_) ?_
    · exact this
    · unfold butterylaw09_same_b1
      simp only [lt_eq]
      rw [if_pos (decide_eq_true (by omega)), Option.bind_some, if_pos (decide_eq_true (by omega)), listX_in G (by omega) (by omega), Option.bind_some, list_same G (by omega) (by omega), Option.bind_some, if_neg (by simp), w64_nat (by omega)]
    · unfold butterylaw09_same_b1
      simp only [lt_eq]
      by_cases h : ((min x.nodes.length 40 : Nat) : Int) < r.Nodes
      · rw [if_pos (decide_eq_true h), Option.bind_some, if_neg (by simp; omega)]
      · rw [if_neg (by simpa using h)]
        rfl
  have hul := G.ul
  have hout : a < 0 ∨ r.Nodes ≤ a → lists_Lists_List x a = some (-1) := fun h => listX_out (by omega)
  rw [l0, l1]
  simp only [Option.bind_some, Sum.elim_inl, lt_eq, decide_eq_true_eq, outc, oldest_eq G, lastF_eq _ (show r.Used.length ≤ 70000 by omega), beq_self_eq_true, if_true]
  have tail : (if a ≥ 0 then if a < r.Nodes then some true else (lists_Lists_List x a).bind fun v => some (v == -1) else (lists_Lists_List x a).bind fun v => some (v == -1)) = some true := by
    by_cases h1 : a ≥ 0
    · rw [if_pos h1]
      by_cases h2 : a < r.Nodes
      · rw [if_pos h2]
      · rw [if_neg h2, hout (by omega)]; rfl
    · rw [if_neg h1, hout (by omega)]; rfl
  rw [tail]
  by_cases h : a < 0 ∨ (r.L.length : Int) ≤ a
  · rw [if_neg (by simp; omega), order_out G h, last_out G h, len_out G h]
    rfl
  · rw [if_pos (by simp; omega)]
end
end Go.Proofs.YtobbifgmjkgkfaaDoor
namespace Go.Proofs.YtobbifgmjkgkfaaDoor
open Go Go.Va
set_option linter.unusedVariables false
set_option linter.unusedSimpArgs false
def tab {α : Type} (n j : Nat) (f : Nat → α) (d : α) : List α := (List.range n).map fun m => if m < j then f m else d
section
variable {α : Type} {n j : Nat} {f : Nat → α} {d : α}
theorem tab_len : (tab n j f d).length = n := by simp [tab]
theorem tab_zero : tab n 0 f d = List.replicate n d := by
  refine List.ext_getElem? fun m => ?_
  simp only [tab, List.getElem?_map, List.getElem?_replicate]
  by_cases h : m < n
  · rw [List.getElem?_range h, if_pos h]; simp
  · rw [List.getElem?_eq_none (by simp; omega), if_neg h]; rfl
theorem tab_get {m : Nat} (h : m < n) : (tab n j f d)[m]? = some (if m < j then f m else d) := by
  simp only [tab, List.getElem?_map]
  rw [List.getElem?_range h]; rfl
theorem tab_set (h : j < n) : (tab n j f d).set j (f j) = tab n (j + 1) f d := by
  refine List.ext_getElem? fun m => ?_
  by_cases hm : m < n
  · by_cases he : j = m
    · subst he
      rw [List.getElem?_set_self (by rw [tab_len]; exact hm), tab_get hm, if_pos (by omega)]
    · rw [List.getElem?_set_ne he, tab_get hm, tab_get hm]
      by_cases h2 : m < j
      · rw [if_pos h2, if_pos (by omega)]
      · rw [if_neg h2, if_neg (by omega)]
  · rw [List.getElem?_eq_none (by rw [List.length_set, tab_len]; omega), List.getElem?_eq_none (by rw [tab_len]; omega)]
theorem tab_at (h : j < n) : At (tab n j f d) (j : Int) d := at_nat (by rw [tab_get h, if_neg (by omega)])
theorem tab_upd (h : j < n) {g : α → α} (hg : g d = f j) : updA (tab n j f d).length (tab n j f d) (j : Int) g = some (tab n (j + 1) f d) := by
  rw [(tab_at h).updA, hg, Int.toNat_natCast, tab_set h]
end
theorem mkS_nat {α : Type} {b n : Nat} (z : α) (h : b * n ≤ 281474976710656) (h2 : n ≤ 1000000) : mkS b (n : Int) z = some (List.replicate n z) := by
  unfold mkS
  have h' : ((b * n : Nat) : Int) ≤ 281474976710656 := by omega
  rw [Int.natCast_mul] at h'
  rw [if_pos ⟨by omega, h', by omega⟩, Int.toNat_natCast]
def ints (a d : Nat) : List Int := (List.range' a d).map fun (m : Nat) => (m : Int)
theorem ints_succ (a d : Nat) : ints a (d + 1) = (a : Int) :: ints (a + 1) d := rfl
theorem mem_ints {a d : Nat} {m : Int} : m ∈ ints a d ↔ (a : Int) ≤ m ∧ m < ((a + d : Nat) : Int) := by
  unfold ints
  rw [List.mem_map]
  constructor
  · rintro ⟨q, hq, rfl⟩
    have := List.mem_range'_1.1 hq
    omega
  · intro h
    exact ⟨m.toNat, List.mem_range'_1.2 (by omega), by omega⟩
theorem ints_nodup : ∀ (d a : Nat), (ints a d).Nodup
  | 0, _ => List.nodup_nil
  | d + 1, a => by
    rw [ints_succ]
    exact List.nodup_cons.2 ⟨fun h => by have := (mem_ints.1 h).1; omega, ints_nodup d (a + 1)⟩
def g0 (N : Nat) (m : Int) : lists_link := if m = (N : Int) - 1 then ⟨-1, -1, -1, 0⟩ else ⟨-1, m + 1, -1, 0⟩
theorem fl_g0 (N : Nat) : ∀ (d a : Nat), a + d = N → fl (g0 N) (ints a d)
  | 0, _, _ => trivial
  | d + 1, a, h => by
    rw [ints_succ]
    refine ⟨?_, ?_, fl_g0 N d (a + 1) (by omega)⟩
    · cases d with
      | zero =>
        unfold g0
        rw [if_pos (by omega)]
        rfl
      | succ d =>
        unfold g0
        rw [if_neg (by omega), ints_succ]
        show (a : Int) + 1 = ((a + 1 : Nat) : Int)
        omega
    · unfold g0
      split <;> rfl
theorem new_bad {n m : Int} (h : n < 1 ∨ n > 64 ∨ m < 1 ∨ m > 65536) : ∃ e, lists_New n m = some (none, e) ∧ codeOf e = 2 ∧ ∃ r, butteryref09_New n m = some (r, 2) := by
  have hr : butteryref09_New n m = some (⟨[], [], [], 0⟩, 2) := by
    unfold butteryref09_New
    simp only [lt_eq]
    by_cases h1 : n < 1
    · simp [h1]
    by_cases h2 : n > 64
    · simp [h1, h2]
    by_cases h3 : m < 1
    · simp [h1, h2, h3]
    have h4 : m > 65536 := by omega
    simp [h1, h2, h3, h4]
  have hx : ∃ e, lists_New n m = some (none, e) ∧ codeOf e = 2 := by
    unfold lists_New
    simp only [lt_eq]
    by_cases h1 : n < 1
    · rw [if_pos (decide_eq_true h1), Option.bind_some, if_pos rfl, flt_eq _ _ _ (by decide)]
      exact ⟨_, rfl, flt_code _ _ _ (by decide)⟩
    rw [if_neg (by simp [h1]), Option.bind_some]
    by_cases h2 : n > 64
    · rw [if_pos (decide_eq_true h2), flt_eq _ _ _ (by decide)]
      exact ⟨_, rfl, flt_code _ _ _ (by decide)⟩
    rw [if_neg (by simpa using h2)]
    by_cases h3 : m < 1
    · rw [if_pos (decide_eq_true h3), Option.bind_some, if_pos rfl, flt_eq _ _ _ (by decide)]
      exact ⟨_, rfl, flt_code _ _ _ (by decide)⟩
    rw [if_neg (by simp [h3]), Option.bind_some, if_pos (decide_eq_true (by omega)), flt_eq _ _ _ (by decide)]
    exact ⟨_, rfl, flt_code _ _ _ (by decide)⟩
  obtain ⟨e, h1, h2⟩ := hx
  exact ⟨e, h1, h2, _, hr⟩
theorem new_ok {n N : Nat} (h1 : 1 ≤ n) (h2 : n ≤ 64) (h3 : 1 ≤ N) (h4 : N ≤ 65536) : ∃ x r, lists_New (n : Int) (N : Int) = some (some x, .nil) ∧ butteryref09_New (n : Int) (N : Int) = some (r, 0) ∧ Good x r (g0 N) 0 ∧ x.nodes.length = N ∧ r = ⟨List.replicate n [], ints 0 N, [], N⟩ := by
  let x : lists_Lists := ⟨(tab N N (fun m => (⟨-1, (m : Int) + 1, -1, 0⟩ : lists_link)) z_lists_link).set (N - 1) ⟨-1, -1, -1, 0⟩, tab n n (fun _ => -1) 0, tab n n (fun _ => -1) 0, List.replicate n 0, 0, 0⟩
  let r : butteryref09_Lists := ⟨List.replicate n [], ints 0 N, [], N⟩
  refine ⟨x, r, ?_, ?_, ?_, by simp [x, tab_len], rfl⟩
  · unfold lists_New
    simp only [lt_eq]
    rw [if_neg (by simp; omega), Option.bind_some, if_neg (by simp; omega), if_neg (by simp; omega), Option.bind_some, if_neg (by simp; omega), mkS_nat _ (by omega) (by omega), mkS_nat _ (by omega) (by omega), Option.bind_some, Option.bind_some, Option.bind_some, Option.bind_some]
    have k0 := loopO_up (body := fun s => lists_New_b0 (N : Int) (List.replicate N z_lists_link) (List.replicate n (0 : Int)) (List.replicate n (0 : Int)) (List.replicate n (0 : Int)) ((List.replicate n (0 : Int)).length : Int) s.1 s.2.1 s.2.2) (fun j => ((j : Int), tab n j (fun _ => (-1 : Int)) 0, tab n j (fun _ => (-1 : Int)) 0)) n (x := (tab n n (fun _ => (-1 : Int)) 0, tab n n (fun _ => (-1 : Int)) 0)) (fun j hj => by
      unfold lists_New_b0
      simp only [lt_eq]
      rw [if_pos (decide_eq_true (by simp; omega)), (tab_at hj).chk, Option.bind_some, tab_upd hj (f := fun _ => (-1 : Int)) (d := 0) (g := fun _ => (-1 : Int)) rfl, Option.bind_some, Option.bind_some, Option.bind_some, w64_nat (by omega)]) (by
      unfold lists_New_b0
      simp only [lt_eq]
      rw [if_neg (by simp)])
    have k1 := fun s61 => loopO_up (body := fun s => lists_New_b1 (N : Int) (List.replicate N z_lists_link) (List.replicate n (0 : Int)) (List.replicate n (0 : Int)) (List.replicate n (0 : Int)) s61 ((List.replicate N z_lists_link).length : Int) s.1 s.2) (fun j => ((j : Int), tab N j (fun m => (⟨-1, (m : Int) + 1, -1, 0⟩ : lists_link)) z_lists_link)) N (x := (tab N N (fun m => (⟨-1, (m : Int) + 1, -1, 0⟩ : lists_link)) z_lists_link)) (fun j hj => by
      unfold lists_New_b1
      simp only [lt_eq]
      rw [if_pos (decide_eq_true (by simp; omega)), (tab_at hj).chk, Option.bind_some, tab_upd hj (f := fun m => (⟨-1, (m : Int) + 1, -1, 0⟩ : lists_link)) (by rw [w64_nat (by omega)]; simp), Option.bind_some, w64_nat (by omega)]) (by
      unfold lists_New_b1
      simp only [lt_eq]
      rw [if_neg (by simp)])
    simp only [tab_zero] at k0 k1
    unfold lists_New_l0 lists_New_l1
    rw [show ((0 : Int), List.replicate n (0 : Int), List.replicate n (0 : Int)) = (((0 : Nat) : Int), List.replicate n (0 : Int), List.replicate n (0 : Int)) from rfl, k0, Option.bind_some, show ((0 : Int), List.replicate N z_lists_link) = (((0 : Nat) : Int), List.replicate N z_lists_link) from rfl, k1 _, Option.bind_some, w64_eq (by omega) (by omega)]
    have hat : At (tab N N (fun m => (⟨-1, (m : Int) + 1, -1, 0⟩ : lists_link)) z_lists_link) ((N : Int) - 1) ⟨-1, (N : Int), -1, 0⟩ := by
      have h : N - 1 < N := by omega
      have := at_nat (tab_get (f := fun m => (⟨-1, (m : Int) + 1, -1, 0⟩ : lists_link)) (d := z_lists_link) (j := N) h)
      rw [if_pos h] at this
      rw [show ((N : Int) - 1) = ((N - 1 : Nat) : Int) by omega]
      rw [show ((N - 1 : Nat) : Int) + 1 = (N : Int) by omega] at this
      exact this
    rw [hat.chk, Option.bind_some, hat.updA, Option.bind_some]
    have : ((N : Int) - 1).toNat = N - 1 := by omega
    rw [this]
  · unfold butteryref09_New
    simp only [lt_eq]
    rw [if_neg (by simp; omega), if_neg (by simp; omega), if_neg (by simp; omega), Option.bind_some, if_neg (by simp; omega), mkS_nat _ (by omega) (by omega), Option.bind_some]
    have k0 := loopO_up (body := fun s => butteryref09_New_b0 (N : Int) s.1 s.2) (fun j => ((j : Int), (⟨List.replicate n [], ints 0 j, [], (N : Int)⟩ : butteryref09_Lists))) N (x := (⟨List.replicate n [], ints 0 N, [], (N : Int)⟩ : butteryref09_Lists)) (fun j hj => by
      unfold butteryref09_New_b0
      simp only [lt_eq]
      rw [if_pos (decide_eq_true (by omega)), app_eq (by simp [ints]; omega), Option.bind_some, w64_nat (by omega)]
      have : ints 0 (j + 1) = ints 0 j ++ [(j : Int)] := by
        unfold ints
        rw [List.range'_concat, List.map_append]
        simp
      rw [this]) (by
      unfold butteryref09_New_b0
      simp only [lt_eq]
      rw [if_neg (by simp)])
    unfold butteryref09_New_l0
    have e : ((0 : Int), (⟨List.replicate n [], [], [], (N : Int)⟩ : butteryref09_Lists)) = (((0 : Nat) : Int), (⟨List.replicate n [], ints 0 0, [], (N : Int)⟩ : butteryref09_Lists)) := rfl
    rw [e, k0, Option.bind_some]
  · have hL : ∀ {i : Int} {l}, At (List.replicate n ([] : List Int)) i l → l = [] ∧ i < n := fun {i l} h => ⟨(List.mem_replicate.1 (List.mem_of_getElem? h.2)).2, by simpa using h.lt⟩
    have hlen : x.nodes.length = N := by simp [x, tab_len]
    refine ⟨fun m h0 h1 => ⟨h0, ?_⟩, ?_, by rw [hlen]; exact h4, ⟨by simp [x, r, tab_len], by simp [x, r, tab_len], by simp [x, r], fun i l hl => ?_⟩, by simpa [r] using h2, fun m hm => ?_, ?_, ?_, fun m h0 h1 => ?_, fun i l hl => ?_, fun m hm => (by cases hm), fl_g0 N N 0 (by omega), ?_, .nil, fun m hm => (by cases hm), by simp [x]⟩
    · rw [hlen] at h1
      show ((tab N N (fun m => (⟨-1, (m : Int) + 1, -1, 0⟩ : lists_link)) z_lists_link).set (N - 1) ⟨-1, -1, -1, 0⟩)[m.toNat]? = some (g0 N m)
      unfold g0
      by_cases hm : m = (N : Int) - 1
      · rw [if_pos hm, show m.toNat = N - 1 by omega, List.getElem?_set_self (by rw [tab_len]; omega)]
      · rw [if_neg hm, List.getElem?_set_ne (by omega), tab_get (by omega), if_pos (by omega)]
        congr 2
        omega
    · rw [hlen]
    · obtain ⟨rfl, hi⟩ := hL hl
      have h0 := hl.1
      have ht : At (tab n n (fun _ => (-1 : Int)) 0) i (-1) := ⟨h0, by rw [tab_get (by omega), if_pos (by omega)]⟩
      exact ⟨trivial, ht, ht, h0, by show (List.replicate n (0 : Int))[i.toNat]? = some 0; rw [List.getElem?_replicate, if_pos (by omega)]⟩
    · rw [hlen]
      simp only [r, List.append_nil] at hm
      have := mem_ints.1 hm
      omega
    · simp only [r, List.append_nil]
      exact ints_nodup N 0
    · rw [hlen]; simp [r, ints]
    · rw [hlen] at h1
      simp only [r, List.append_nil]
      exact mem_ints.2 (by omega)
    · obtain ⟨rfl, hi⟩ := hL hl
      exact List.nil_sublist _
    · show (0 : Int) = hdp (ints 0 N) (-1)
      obtain ⟨N', rfl⟩ : ∃ N', N = N' + 1 := ⟨N - 1, by omega⟩
      rw [ints_succ]
      rfl
end Go.Proofs.YtobbifgmjkgkfaaDoor
namespace Go.Proofs.YtobbifgmjkgkfaaDoor
open Go Go.Va
set_option linter.unusedVariables false
set_option linter.unusedSimpArgs false
open Classical in
/-- Numbers, as a function: one more where a list has them. -/
noncomputable def inc (c : Int → Int) (l : List Int) : Int → Int := fun m => if m ∈ l then 1 else c m
def RepI (t : List Int) (n : Nat) (c : Int → Int) : Prop := t.length = n ∧ ∀ m : Int, 0 ≤ m → m < n → At t m (c m)
theorem RepI.set {t : List Int} {n : Nat} {c : Int → Int} (h : RepI t n c) {m : Int} (h0 : 0 ≤ m) (h1 : m < n) : RepI (t.set m.toNat 1) n (inc c [m]) :=
  ⟨by rw [List.length_set]; exact h.1, fun k k0 k1 => by
    unfold inc
    by_cases e : k = m
    · subst e
      rw [if_pos (by simp)]
      exact (h.2 k k0 k1).same 1
    · rw [if_neg (by simpa using e)]
      exact (h.2 k k0 k1).ne h0 e 1⟩
theorem inc_cons (c : Int → Int) (m : Int) (l : List Int) : inc (inc c [m]) l = inc c (m :: l) := by
  funext k
  unfold inc
  by_cases h1 : k ∈ l
  · rw [if_pos h1, if_pos (List.mem_cons_of_mem _ h1)]
  · rw [if_neg h1]
    by_cases h2 : k = m
    · rw [if_pos (by simp [h2]), if_pos (by simp [h2])]
    · rw [if_neg (by simpa using h2), if_neg (by simp [h1, h2])]
open Classical in
noncomputable def ccF (L : List (List Int)) (j : Nat) (m : Int) : Int := if ∃ l ∈ L.take j, m ∈ l then 1 else 0
theorem ccF_pos {L : List (List Int)} {j : Nat} {m : Int} (h : ∃ l ∈ L.take j, m ∈ l) : ccF L j m = 1 := if_pos h
theorem ccF_neg {L : List (List Int)} {j : Nat} {m : Int} (h : ¬ ∃ l ∈ L.take j, m ∈ l) : ccF L j m = 0 := if_neg h
section
variable {x : lists_Lists} {r : butteryref09_Lists} {g : Int → lists_link} {k : Int}
theorem sound1 (G : Good x r g k) {v9 i : Int} : ∀ (l : List Int) (t : List Int) (c : Int → Int) (p q : Int), RepI t x.nodes.length c → dl g i p l (-1) → l.Nodup → (∀ m ∈ l, 0 ≤ m ∧ m < (x.nodes.length : Int)) → (∀ m ∈ l, c m = 0) → 0 ≤ q → q + l.length ≤ 70000 →
    ∃ t', loopO (fun s => lists_Lists_Sound_b1 x v9 i s.1 s.2.1 s.2.2.1 s.2.2.2) (t, p, q, hdp l (-1)) = some (.inl (t', lsp p l, q + l.length)) ∧ RepI t' x.nodes.length (inc c l)
  | [], t, c, p, q, ht, _, _, _, _, _, _ => by
    refine ⟨t, ?_, ?_⟩
    · refine loopO_out ?_
      unfold lists_Lists_Sound_b1
      simp [lt_eq, hdp, lsp]
    · have : inc c [] = c := by funext k; unfold inc; simp
      rw [this]; exact ht
  | m :: l, t, c, p, q, ht, hd, hn, hr, hc, hq, hle => by
    obtain ⟨h1, h2, h3, h4⟩ := hd
    obtain ⟨m0, m1⟩ := hr m List.mem_cons_self
    obtain ⟨hml, hn'⟩ := List.nodup_cons.1 hn
    have hm := G.rep m m0 m1
    have htm := ht.2 m m0 m1
    rw [hc m List.mem_cons_self] at htm
    simp only [List.length_cons] at hle ⊢
    obtain ⟨t', k1, k2⟩ := sound1 G (v9 := v9) l (t.set m.toNat 1) (inc c [m]) m (q + 1) (ht.set m0 m1) h4 hn' (fun q hq => hr q (List.mem_cons_of_mem _ hq)) (fun q hq => by
      unfold inc
      rw [if_neg (by simp; exact fun e => hml (e ▸ hq))]
      exact hc q (List.mem_cons_of_mem _ hq)) (by omega) (by omega)
    refine ⟨t', ?_, by rw [← inc_cons]; exact k2⟩
    rw [loopO_in (s' := (t.set m.toNat 1, m, q + 1, hdp l (-1))), k1]
    · rw [show q + 1 + (l.length : Int) = q + ((l.length + 1 : Nat) : Int) by omega]
      rfl
    · show lists_Lists_Sound_b1 x v9 i t p q m = _
      unfold lists_Lists_Sound_b1
      simp only [lt_eq]
      rw [if_pos (by simp; omega), hm.chk, Option.bind_some, hm.ixA, Option.bind_some, htm.chk, Option.bind_some, htm.ixA, Option.bind_some, if_neg (by simp), h1, if_neg (by simp), h3, Option.bind_some, if_neg (by simp), Option.bind_some, Option.bind_some, Option.bind_some, htm.updA, Option.bind_some, Option.bind_some, Option.bind_some, h2, w64_eq (by omega) (by omega), w64_eq (by omega) (by omega)]
      rfl
theorem sound2 (G : Good x r g k) : ∀ (l : List Int) (t : List Int) (c : Int → Int), RepI t x.nodes.length c → fl g l → l.Nodup → (∀ m ∈ l, 0 ≤ m ∧ m < (x.nodes.length : Int)) → (∀ m ∈ l, c m = 0) →
    ∃ t', loopO (fun s => lists_Lists_Sound_b2 x s.1 s.2) (t, hdp l (-1)) = some (.inl t') ∧ RepI t' x.nodes.length (inc c l)
  | [], t, c, ht, _, _, _, _ => by
    refine ⟨t, ?_, ?_⟩
    · refine loopO_out ?_
      unfold lists_Lists_Sound_b2
      simp [lt_eq, hdp]
    · have : inc c [] = c := by funext k; unfold inc; simp
      rw [this]; exact ht
  | m :: l, t, c, ht, hd, hn, hr, hc => by
    obtain ⟨h2, h3, h4⟩ := hd
    obtain ⟨m0, m1⟩ := hr m List.mem_cons_self
    obtain ⟨hml, hn'⟩ := List.nodup_cons.1 hn
    have hm := G.rep m m0 m1
    have htm := ht.2 m m0 m1
    rw [hc m List.mem_cons_self] at htm
    obtain ⟨t', k1, k2⟩ := sound2 G l (t.set m.toNat 1) (inc c [m]) (ht.set m0 m1) h4 hn' (fun q hq => hr q (List.mem_cons_of_mem _ hq)) (fun q hq => by
      unfold inc
      rw [if_neg (by simp; exact fun e => hml (e ▸ hq))]
      exact hc q (List.mem_cons_of_mem _ hq))
    refine ⟨t', ?_, by rw [← inc_cons]; exact k2⟩
    rw [loopO_in (s' := (t.set m.toNat 1, hdp l (-1))), k1]
    show lists_Lists_Sound_b2 x t m = _
    unfold lists_Lists_Sound_b2
    simp only [lt_eq]
    rw [if_pos (by simp; omega), htm.chk, Option.bind_some, htm.ixA, Option.bind_some, if_neg (by simp), hm.chk, Option.bind_some, hm.ixA, Option.bind_some, h3, Option.bind_some, if_neg (by simp), Option.bind_some, Option.bind_some, htm.updA, Option.bind_some, Option.bind_some, Option.bind_some, w64_eq (by omega) (by omega)]
    rw [← h2]
    rfl
theorem sound_eq (G : Good x r g k) : lists_Lists_Sound x = some true := by
  have hM := G.M
  have hf := G.gd.f
  have hnN := G.nN
  unfold lists_Lists_Sound lists_Lists_Sound_l0 lists_Lists_Sound_l2 lists_Lists_Sound_l3
  simp only [lt_eq]
  rw [mkS_nat _ (by omega) (by omega), Option.bind_some]
  have key := loopO_inv (body := fun s => lists_Lists_Sound_b0 x (x.first_.length : Int) s.1 s.2) (fun s => ∃ j : Nat, s.2 = (j : Int) ∧ j ≤ r.L.length ∧ RepI s.1 x.nodes.length (ccF r.L j)) (fun s => (r.L.length - s.2).toNat) (fun y => ∃ t, y = .inl t ∧ RepI t x.nodes.length (ccF r.L r.L.length)) (s := (List.replicate x.nodes.length (0 : Int), (0 : Int))) ?_ ⟨0, rfl, Nat.zero_le _, by simp, fun m h0 h1 => ?_⟩
  · obtain ⟨y, h1, t, rfl, ht⟩ := key
    rw [h1]
    simp only [Option.bind_some, Sum.elim_inl]
    have hcf : ∀ m ∈ r.Free, ccF r.L r.L.length m = 0 := fun m hm => by
      refine ccF_neg ?_
      rintro ⟨l, hl, hml⟩
      rw [List.take_length] at hl
      obtain ⟨i, hi⟩ := List.mem_iff_getElem?.1 hl
      exact G.nfu hm ((G.sub i l (at_nat hi)).subset hml)
    obtain ⟨t2, h2, ht2⟩ := sound2 G r.Free t _ ht G.fr G.nf (fun m hm => G.rng m (List.mem_append_left _ hm)) hcf
    rw [G.free, h2]
    simp only [Option.bind_some, Sum.elim_inl]
    have h3 := loopO_up (body := fun s => lists_Lists_Sound_b3 x t2 (t2.length : Int) s) (fun j => (j : Int)) t2.length (x := .inl ()) (fun j hj => by
      have hj' : (j : Int) < x.nodes.length := by have := ht2.1; omega
      have hat := ht2.2 (j : Int) (by omega) hj'
      have e1 : inc (ccF r.L r.L.length) r.Free (j : Int) = 1 := by
        unfold inc
        by_cases hF : (j : Int) ∈ r.Free
        · rw [if_pos hF]
        · rw [if_neg hF]
          refine ccF_pos ?_
          rw [List.take_length]
          have hu := (List.mem_append.1 (G.cov (j : Int) (by omega) hj')).resolve_left hF
          obtain ⟨i, l, hi, hl⟩ := G.mem _ hu
          exact ⟨l, List.mem_of_getElem? hi.2, hl⟩
      rw [e1] at hat
      unfold lists_Lists_Sound_b3
      simp only [lt_eq]
      rw [if_pos (decide_eq_true (by omega)), hat.ix, Option.bind_some, if_neg (by simp), w64_nat (by omega)]) (by
      unfold lists_Lists_Sound_b3
      simp only [lt_eq]
      rw [if_neg (by simp)])
    rw [show (0 : Int) = ((0 : Nat) : Int) from rfl, h3]
    rfl
  · rintro ⟨t, s2⟩ ⟨j, hj, hjl, ht⟩
    simp only at hj ht
    subst hj
    unfold lists_Lists_Sound_b0 lists_Lists_Sound_l1
    simp only [lt_eq]
    by_cases hjn : j < r.L.length
    · left
      have hat : At r.L (j : Int) r.L[j] := at_nat (List.getElem?_eq_getElem hjn)
      obtain ⟨q1, q2, q3, q4⟩ := G.gd.dll _ _ hat
      have hll := G.ll hat
      have hc0 : ∀ m ∈ r.L[j], ccF r.L j m = 0 := fun m hm => by
        refine ccF_neg ?_
        rintro ⟨l, hl, hml⟩
        obtain ⟨i, hi⟩ := List.mem_iff_getElem?.1 hl
        have hij : i < j := by
          have := (List.getElem?_eq_some_iff.1 hi).1
          rw [List.length_take] at this
          omega
        rw [List.getElem?_take_of_lt hij] at hi
        have := G.dis (at_nat hi) hat hml hm
        omega
      obtain ⟨t', k1, k2⟩ := sound1 G (v9 := (x.first_.length : Int)) r.L[j] t (ccF r.L j) (-1) 0 ht q1 ((G.sub _ _ hat).nodup G.nu) (G.rl hat) hc0 (by omega) (by omega)
      rw [if_pos (decide_eq_true (by omega)), q2.chk, Option.bind_some, q2.ixA, Option.bind_some, k1, Option.bind_some, Sum.elim_inl, q3.chk, Option.bind_some, q3.ixA, Option.bind_some, if_pos (by simp), q4.chk, Option.bind_some, q4.ixA, Option.bind_some, Option.bind_some, if_pos (by simp), w64_nat (by omega)]
      refine ⟨_, rfl, ⟨j + 1, rfl, hjn, ?_⟩, by simp only; omega⟩
      have : ccF r.L (j + 1) = inc (ccF r.L j) r.L[j] := by
        funext m
        have htk : r.L.take (j + 1) = r.L.take j ++ [r.L[j]] := List.take_succ_eq_append_getElem hjn
        unfold inc
        by_cases h1 : m ∈ r.L[j]
        · rw [if_pos h1]
          refine ccF_pos ?_
          rw [htk]
          exact ⟨_, List.mem_append_right _ (List.mem_singleton.2 rfl), h1⟩
        · rw [if_neg h1]
          by_cases h2 : ∃ l ∈ r.L.take j, m ∈ l
          · rw [ccF_pos h2]
            refine ccF_pos ?_
            rw [htk]
            obtain ⟨l, hl, hml⟩ := h2
            exact ⟨l, List.mem_append_left _ hl, hml⟩
          · rw [ccF_neg h2]
            refine ccF_neg ?_
            rw [htk]
            rintro ⟨l, hl, hml⟩
            rcases List.mem_append.1 hl with h | h
            · exact h2 ⟨l, h, hml⟩
            · rw [List.mem_singleton.1 h] at hml; exact h1 hml
      rw [this]
      exact k2
    · right
      have hje : j = r.L.length := by omega
      subst hje
      rw [if_neg (by simp; omega)]
      exact ⟨_, rfl, t, rfl, ht⟩
  · rw [ccF_neg (by simp)]
    exact ⟨h0, by rw [List.getElem?_replicate, if_pos (by omega)]⟩
end
end Go.Proofs.YtobbifgmjkgkfaaDoor
namespace Go.Proofs.YtobbifgmjkgkfaaDoor
open Go Go.Va
set_option linter.unusedVariables false
set_option linter.unusedSimpArgs false
theorem lt_at (l : List (List Int)) (i : Nat) (y : List Int) (h : l[i]? = some y) : At l (i : Int) y := at_nat h
theorem works09 : butterylaw09_works = some true := by
  obtain ⟨x, r, h1, h2, G, h3, hr⟩ := new_ok (n := 2) (N := 3) (by decide) (by decide) (by decide) (by decide)
  have h1' : lists_New 2 3 = some (some x, .nil) := h1
  obtain ⟨e0, b1, b2, _⟩ := new_bad (n := 0) (m := 3) (.inl (by decide))
  have hr' : r = ⟨[[], []], [0, 1, 2], [], 3⟩ := hr
  subst hr'
  obtain ⟨xa, ra, na, ea, ca, a1, _, _, la, _, ⟨ga, Ga⟩, a2⟩ := add_step G (by decide) 1
  obtain ⟨rfl, rfl, rfl⟩ := a2 0 [1, 2] [] rfl (at_nat (k := 1) rfl)
  obtain ⟨xb, rb, nb, eb, cb, b1', _, _, lb, _, ⟨gb, Gb⟩, b2'⟩ := add_step Ga (by decide) 1
  obtain ⟨rfl, rfl, rfl⟩ := b2' 1 [2] [0] rfl (at_nat (k := 1) rfl)
  obtain ⟨xt, rt, et, ct, t1, _, _, lt', _, ⟨gt, Gt⟩, t2⟩ := touch_step Gb (by decide) 0
  obtain ⟨rfl, i, l, hi, h0l, _, eL, eU⟩ := t2 (by decide)
  obtain ⟨xd, rd, ed, cd, d1, _, d3, ld, _, ⟨gd, Gd'⟩, d2⟩ := drop_step Gt (by decide) 9
  obtain ⟨rfl, rfl⟩ := d2 (.inr (by omega))
  have hil : i = 1 ∧ l = [1, 0] := by
    have e1 : At ([[], [1, 0]] : List (List Int)) i l := hi
    have h1 := e1.lt
    have h0 := e1.1
    have h2 : i = 0 ∨ i = 1 := by
      have : (([[], [1, 0]] : List (List Int)).length : Int) = 2 := rfl
      omega
    rcases h2 with rfl | rfl
    · have := e1.uniq (at_nat (l := ([[], [1, 0]] : List (List Int))) (k := 0) rfl)
      subst this
      cases h0l
    · exact ⟨rfl, e1.uniq (at_nat (l := ([[], [1, 0]] : List (List Int))) (k := 1) rfl)⟩
  obtain ⟨rfl, rfl⟩ := hil
  have eL' : rd.L = [[], [0, 1]] := eL
  have eU' : rd.Used = [0, 1] := eU
  have hat : At rd.L 1 [0, 1] := by rw [eL']; exact at_nat (k := 1) rfl
  have hlist : lists_Lists_List xd 0 = some 1 := by
    rw [listX_in Gd' (by decide) (by omega), dl_list (Gd'.gd.dll 1 _ hat).1 0 (by decide)]
  have hold : lists_Lists_Oldest xd = some 1 := by rw [oldest_eq Gd', eU']; rfl
  have hlen := len_eq Gd' hat
  have hlast := last_eq Gd' hat
  unfold butterylaw09_works
  simp only [lt_eq]
  rw [h1']
  simp only [Option.bind_some, Option.elim_some]
  rw [b1]
  simp only [Option.bind_some, Option.elim_none]
  rw [a1]
  simp only [Option.bind_some]
  rw [b1']
  simp only [Option.bind_some]
  rw [t1]
  simp only [Option.bind_some]
  rw [d1]
  simp only [Option.bind_some, trouble_Of, b2, d3]
  rw [order_eq Gd' hat, Option.bind_some, ints_eq _ (by decide), Option.bind_some, hlast, Option.bind_some, hold, Option.bind_some, hlist, Option.bind_some, hlen, Option.bind_some, sound_eq Gd']
  rfl
end Go.Proofs.YtobbifgmjkgkfaaDoor
namespace Go.Proofs.YtobbifgmjkgkfaaDoor
open Go Go.Va
set_option linter.unusedSimpArgs false
set_option linter.unusedVariables false
def wf_runtime_boundsError (x : runtime_boundsError) : Prop := (wfI .i64) x.x ∧ (wfI .i64) x.y ∧ wfT x.signed ∧ wfT x.code
theorem opens7 : Opens Tryd.prog 7 e_runtime_boundsError wf_runtime_boundsError := by
  intro H enc w fuel cs x hx
  obtain ⟨xs, m, _, _, hl, hn, hx⟩ := DataW.trod_struct Tryd.underlying7 hx
  rw [cellsOf_sz tk sz7 (by decide)] at hl
  obtain ⟨y0, w0, r0, o0⟩ := opens_f hx hn 0 (o := 0) (s := 1) rfl (opens_i64 Tryd.underlying2) rfl (cellsOf_sz tk sz2 (by decide))
  obtain ⟨y1, w1, r1, o1⟩ := opens_f hx hn 1 (o := 1) (s := 1) rfl (opens_i64 Tryd.underlying3) rfl (cellsOf_sz tk sz3 (by decide))
  obtain ⟨y2, w2, r2, o2⟩ := opens_f hx hn 2 (o := 2) (s := 1) rfl (opens_b Tryd.underlying4) rfl (cellsOf_sz tk sz4 (by decide))
  obtain ⟨y3, w3, r3, o3⟩ := opens_f hx hn 3 (o := 3) (s := 1) rfl (opens_u rfl rfl Tryd.underlying6) rfl (cellsOf_sz tk sz6 (by decide))
  refine ⟨⟨y0, y1, y2, y3⟩, ⟨w0, w1, w2, w3⟩, ?_, ?_⟩
  · have h := (rel_piece r0 (rel_piece r1 (rel_piece r2 (rel_piece r3 (rel_end hl)))))
    rw [List.drop_zero] at h
    first | exact h | (simp only [List.append_nil, List.append_assoc] at h ⊢; exact h) | (simpa [AV.cells, e_runtime_boundsError, c_runtime_boundsError] using h)
  · have h := (one_piece o0 (one_piece o1 (one_piece o2 (one_piece o3 (one_end hl)))))
    rw [List.drop_zero] at h
    exact h
theorem opens8 : Opens Tryd.prog 8 e_runtime_boundsError wf_runtime_boundsError := by
  intro H enc w fuel cs x hx
  obtain ⟨xs, m, _, _, hl, hn, hx⟩ := DataW.trod_struct Tryd.underlying8 hx
  rw [cellsOf_sz tk sz8 (by decide)] at hl
  obtain ⟨y0, w0, r0, o0⟩ := opens_f hx hn 0 (o := 0) (s := 1) rfl (opens_i64 Tryd.underlying2) rfl (cellsOf_sz tk sz2 (by decide))
  obtain ⟨y1, w1, r1, o1⟩ := opens_f hx hn 1 (o := 1) (s := 1) rfl (opens_i64 Tryd.underlying3) rfl (cellsOf_sz tk sz3 (by decide))
  obtain ⟨y2, w2, r2, o2⟩ := opens_f hx hn 2 (o := 2) (s := 1) rfl (opens_b Tryd.underlying4) rfl (cellsOf_sz tk sz4 (by decide))
  obtain ⟨y3, w3, r3, o3⟩ := opens_f hx hn 3 (o := 3) (s := 1) rfl (opens_u rfl rfl Tryd.underlying6) rfl (cellsOf_sz tk sz6 (by decide))
  refine ⟨⟨y0, y1, y2, y3⟩, ⟨w0, w1, w2, w3⟩, ?_, ?_⟩
  · have h := (rel_piece r0 (rel_piece r1 (rel_piece r2 (rel_piece r3 (rel_end hl)))))
    rw [List.drop_zero] at h
    first | exact h | (simp only [List.append_nil, List.append_assoc] at h ⊢; exact h) | (simpa [AV.cells, e_runtime_boundsError, c_runtime_boundsError] using h)
  · have h := (one_piece o0 (one_piece o1 (one_piece o2 (one_piece o3 (one_end hl)))))
    rw [List.drop_zero] at h
    exact h
def wf_runtime_errorAddressString (x : runtime_errorAddressString) : Prop := wfS x.msg ∧ wfT x.addr
theorem opens13 : Opens Tryd.prog 13 e_runtime_errorAddressString wf_runtime_errorAddressString := by
  intro H enc w fuel cs x hx
  obtain ⟨xs, m, _, _, hl, hn, hx⟩ := DataW.trod_struct Tryd.underlying13 hx
  rw [cellsOf_sz tk sz13 (by decide)] at hl
  obtain ⟨y0, w0, r0, o0⟩ := opens_f hx hn 0 (o := 0) (s := 1) rfl (opens_s Tryd.underlying9) rfl (cellsOf_sz tk sz9 (by decide))
  obtain ⟨y1, w1, r1, o1⟩ := opens_f hx hn 1 (o := 1) (s := 1) rfl (opens_u rfl rfl Tryd.underlying12) rfl (cellsOf_sz tk sz12 (by decide))
  refine ⟨⟨y0, y1⟩, ⟨w0, w1⟩, ?_, ?_⟩
  · have h := (rel_piece r0 (rel_piece r1 (rel_end hl)))
    rw [List.drop_zero] at h
    first | exact h | (simp only [List.append_nil, List.append_assoc] at h ⊢; exact h) | (simpa [AV.cells, e_runtime_errorAddressString, c_runtime_errorAddressString] using h)
  · have h := (one_piece o0 (one_piece o1 (one_end hl)))
    rw [List.drop_zero] at h
    exact h
theorem opens14 : Opens Tryd.prog 14 e_runtime_errorAddressString wf_runtime_errorAddressString := by
  intro H enc w fuel cs x hx
  obtain ⟨xs, m, _, _, hl, hn, hx⟩ := DataW.trod_struct Tryd.underlying14 hx
  rw [cellsOf_sz tk sz14 (by decide)] at hl
  obtain ⟨y0, w0, r0, o0⟩ := opens_f hx hn 0 (o := 0) (s := 1) rfl (opens_s Tryd.underlying9) rfl (cellsOf_sz tk sz9 (by decide))
  obtain ⟨y1, w1, r1, o1⟩ := opens_f hx hn 1 (o := 1) (s := 1) rfl (opens_u rfl rfl Tryd.underlying12) rfl (cellsOf_sz tk sz12 (by decide))
  refine ⟨⟨y0, y1⟩, ⟨w0, w1⟩, ?_, ?_⟩
  · have h := (rel_piece r0 (rel_piece r1 (rel_end hl)))
    rw [List.drop_zero] at h
    first | exact h | (simp only [List.append_nil, List.append_assoc] at h ⊢; exact h) | (simpa [AV.cells, e_runtime_errorAddressString, c_runtime_errorAddressString] using h)
  · have h := (one_piece o0 (one_piece o1 (one_end hl)))
    rw [List.drop_zero] at h
    exact h
def wf_api_Entry (x : api_Entry) : Prop := wfS x.Key ∧ (wfI .i64) x.Version ∧ (wfI .i64) x.AsOf ∧ (wfI .i64) x.Ends ∧ (wfL wfT) x.Value
theorem opens41 : Opens Tryd.prog 41 e_api_Entry wf_api_Entry := by
  intro H enc w fuel cs x hx
  obtain ⟨xs, m, _, _, hl, hn, hx⟩ := DataW.trod_struct Tryd.underlying41 hx
  rw [cellsOf_sz tk sz41 (by decide)] at hl
  obtain ⟨y0, w0, r0, o0⟩ := opens_f hx hn 0 (o := 0) (s := 1) rfl (opens_s Tryd.underlying9) rfl (cellsOf_sz tk sz9 (by decide))
  obtain ⟨y1, w1, r1, o1⟩ := opens_f hx hn 1 (o := 1) (s := 1) rfl (opens_i64 Tryd.underlying3) rfl (cellsOf_sz tk sz3 (by decide))
  obtain ⟨y2, w2, r2, o2⟩ := opens_f hx hn 2 (o := 2) (s := 1) rfl (opens_i64 Tryd.underlying3) rfl (cellsOf_sz tk sz3 (by decide))
  obtain ⟨y3, w3, r3, o3⟩ := opens_f hx hn 3 (o := 3) (s := 1) rfl (opens_i64 Tryd.underlying3) rfl (cellsOf_sz tk sz3 (by decide))
  obtain ⟨y4, w4, r4, o4⟩ := opens_f hx hn 4 (o := 4) (s := 1) rfl (opens_l tk Tryd.underlying40 (enc_u td5 sz5) (opens_u rfl rfl Tryd.underlying5)) rfl (cellsOf_sz tk sz40 (by decide))
  refine ⟨⟨y0, y1, y2, y3, y4⟩, ⟨w0, w1, w2, w3, w4⟩, ?_, ?_⟩
  · have h := (rel_piece r0 (rel_piece r1 (rel_piece r2 (rel_piece r3 (rel_piece r4 (rel_end hl))))))
    rw [List.drop_zero] at h
    first | exact h | (simp only [List.append_nil, List.append_assoc] at h ⊢; exact h) | (simpa [AV.cells, e_api_Entry, c_api_Entry] using h)
  · have h := (one_piece o0 (one_piece o1 (one_piece o2 (one_piece o3 (one_piece o4 (one_end hl))))))
    rw [List.drop_zero] at h
    exact h
theorem opens42 : Opens Tryd.prog 42 e_api_Entry wf_api_Entry := by
  intro H enc w fuel cs x hx
  obtain ⟨xs, m, _, _, hl, hn, hx⟩ := DataW.trod_struct Tryd.underlying42 hx
  rw [cellsOf_sz tk sz42 (by decide)] at hl
  obtain ⟨y0, w0, r0, o0⟩ := opens_f hx hn 0 (o := 0) (s := 1) rfl (opens_s Tryd.underlying9) rfl (cellsOf_sz tk sz9 (by decide))
  obtain ⟨y1, w1, r1, o1⟩ := opens_f hx hn 1 (o := 1) (s := 1) rfl (opens_i64 Tryd.underlying3) rfl (cellsOf_sz tk sz3 (by decide))
  obtain ⟨y2, w2, r2, o2⟩ := opens_f hx hn 2 (o := 2) (s := 1) rfl (opens_i64 Tryd.underlying3) rfl (cellsOf_sz tk sz3 (by decide))
  obtain ⟨y3, w3, r3, o3⟩ := opens_f hx hn 3 (o := 3) (s := 1) rfl (opens_i64 Tryd.underlying3) rfl (cellsOf_sz tk sz3 (by decide))
  obtain ⟨y4, w4, r4, o4⟩ := opens_f hx hn 4 (o := 4) (s := 1) rfl (opens_l tk Tryd.underlying40 (enc_u td5 sz5) (opens_u rfl rfl Tryd.underlying5)) rfl (cellsOf_sz tk sz40 (by decide))
  refine ⟨⟨y0, y1, y2, y3, y4⟩, ⟨w0, w1, w2, w3, w4⟩, ?_, ?_⟩
  · have h := (rel_piece r0 (rel_piece r1 (rel_piece r2 (rel_piece r3 (rel_piece r4 (rel_end hl))))))
    rw [List.drop_zero] at h
    first | exact h | (simp only [List.append_nil, List.append_assoc] at h ⊢; exact h) | (simpa [AV.cells, e_api_Entry, c_api_Entry] using h)
  · have h := (one_piece o0 (one_piece o1 (one_piece o2 (one_piece o3 (one_piece o4 (one_end hl))))))
    rw [List.drop_zero] at h
    exact h
def wf_butteryref19_Jobs (x : butteryref19_Jobs) : Prop := (wfI .i64) x.Limit ∧ (wfL wf_api_Entry) x.Down ∧ (wfL wfS) x.Up
theorem opens32 : Opens Tryd.prog 32 e_butteryref19_Jobs wf_butteryref19_Jobs := by
  intro H enc w fuel cs x hx
  obtain ⟨xs, m, _, _, hl, hn, hx⟩ := DataW.trod_struct Tryd.underlying32 hx
  rw [cellsOf_sz tk sz32 (by decide)] at hl
  obtain ⟨y0, w0, r0, o0⟩ := opens_f hx hn 0 (o := 0) (s := 1) rfl (opens_i64 Tryd.underlying3) rfl (cellsOf_sz tk sz3 (by decide))
  obtain ⟨y1, w1, r1, o1⟩ := opens_f hx hn 1 (o := 1) (s := 1) rfl (opens_l tk Tryd.underlying30 enc42 opens42) rfl (cellsOf_sz tk sz30 (by decide))
  obtain ⟨y2, w2, r2, o2⟩ := opens_f hx hn 2 (o := 2) (s := 1) rfl (opens_l tk Tryd.underlying31 (enc_s td9 sz9) (opens_s Tryd.underlying9)) rfl (cellsOf_sz tk sz31 (by decide))
  refine ⟨⟨y0, y1, y2⟩, ⟨w0, w1, w2⟩, ?_, ?_⟩
  · have h := (rel_piece r0 (rel_piece r1 (rel_piece r2 (rel_end hl))))
    rw [List.drop_zero] at h
    first | exact h | (simp only [List.append_nil, List.append_assoc] at h ⊢; exact h) | (simpa [AV.cells, e_butteryref19_Jobs, c_butteryref19_Jobs] using h)
  · have h := (one_piece o0 (one_piece o1 (one_piece o2 (one_end hl))))
    rw [List.drop_zero] at h
    exact h
theorem opens33 : Opens Tryd.prog 33 e_butteryref19_Jobs wf_butteryref19_Jobs := by
  intro H enc w fuel cs x hx
  obtain ⟨xs, m, _, _, hl, hn, hx⟩ := DataW.trod_struct Tryd.underlying33 hx
  rw [cellsOf_sz tk sz33 (by decide)] at hl
  obtain ⟨y0, w0, r0, o0⟩ := opens_f hx hn 0 (o := 0) (s := 1) rfl (opens_i64 Tryd.underlying3) rfl (cellsOf_sz tk sz3 (by decide))
  obtain ⟨y1, w1, r1, o1⟩ := opens_f hx hn 1 (o := 1) (s := 1) rfl (opens_l tk Tryd.underlying30 enc42 opens42) rfl (cellsOf_sz tk sz30 (by decide))
  obtain ⟨y2, w2, r2, o2⟩ := opens_f hx hn 2 (o := 2) (s := 1) rfl (opens_l tk Tryd.underlying31 (enc_s td9 sz9) (opens_s Tryd.underlying9)) rfl (cellsOf_sz tk sz31 (by decide))
  refine ⟨⟨y0, y1, y2⟩, ⟨w0, w1, w2⟩, ?_, ?_⟩
  · have h := (rel_piece r0 (rel_piece r1 (rel_piece r2 (rel_end hl))))
    rw [List.drop_zero] at h
    first | exact h | (simp only [List.append_nil, List.append_assoc] at h ⊢; exact h) | (simpa [AV.cells, e_butteryref19_Jobs, c_butteryref19_Jobs] using h)
  · have h := (one_piece o0 (one_piece o1 (one_piece o2 (one_end hl))))
    rw [List.drop_zero] at h
    exact h
def wf_butterylaw19_Op (x : butterylaw19_Op) : Prop := (wfI .i64) x.Kind ∧ wf_api_Entry x.X
theorem opens43 : Opens Tryd.prog 43 e_butterylaw19_Op wf_butterylaw19_Op := by
  intro H enc w fuel cs x hx
  obtain ⟨xs, m, _, _, hl, hn, hx⟩ := DataW.trod_struct Tryd.underlying43 hx
  rw [cellsOf_sz tk sz43 (by decide)] at hl
  obtain ⟨y0, w0, r0, o0⟩ := opens_f hx hn 0 (o := 0) (s := 1) rfl (opens_i64 Tryd.underlying3) rfl (cellsOf_sz tk sz3 (by decide))
  obtain ⟨y1, w1, r1, o1⟩ := opens_f hx hn 1 (o := 1) (s := 5) rfl opens42 rfl (cellsOf_sz tk sz42 (by decide))
  refine ⟨⟨y0, y1⟩, ⟨w0, w1⟩, ?_, ?_⟩
  · have h := (rel_piece r0 (rel_piece r1 (rel_end hl)))
    rw [List.drop_zero] at h
    first | exact h | (simp only [List.append_nil, List.append_assoc] at h ⊢; exact h) | (simpa [AV.cells, e_butterylaw19_Op, c_butterylaw19_Op] using h)
  · have h := (one_piece o0 (one_piece o1 (one_end hl)))
    rw [List.drop_zero] at h
    exact h
theorem opens44 : Opens Tryd.prog 44 e_butterylaw19_Op wf_butterylaw19_Op := by
  intro H enc w fuel cs x hx
  obtain ⟨xs, m, _, _, hl, hn, hx⟩ := DataW.trod_struct Tryd.underlying44 hx
  rw [cellsOf_sz tk sz44 (by decide)] at hl
  obtain ⟨y0, w0, r0, o0⟩ := opens_f hx hn 0 (o := 0) (s := 1) rfl (opens_i64 Tryd.underlying3) rfl (cellsOf_sz tk sz3 (by decide))
  obtain ⟨y1, w1, r1, o1⟩ := opens_f hx hn 1 (o := 1) (s := 5) rfl opens42 rfl (cellsOf_sz tk sz42 (by decide))
  refine ⟨⟨y0, y1⟩, ⟨w0, w1⟩, ?_, ?_⟩
  · have h := (rel_piece r0 (rel_piece r1 (rel_end hl)))
    rw [List.drop_zero] at h
    first | exact h | (simp only [List.append_nil, List.append_assoc] at h ⊢; exact h) | (simpa [AV.cells, e_butterylaw19_Op, c_butterylaw19_Op] using h)
  · have h := (one_piece o0 (one_piece o1 (one_end hl)))
    rw [List.drop_zero] at h
    exact h
def wf_butteryref09_Lists (x : butteryref09_Lists) : Prop := (wfL (wfL (wfI .i64))) x.L ∧ (wfL (wfI .i64)) x.Free ∧ (wfL (wfI .i64)) x.Used ∧ (wfI .i64) x.Nodes
theorem opens63 : Opens Tryd.prog 63 e_butteryref09_Lists wf_butteryref09_Lists := by
  intro H enc w fuel cs x hx
  obtain ⟨xs, m, _, _, hl, hn, hx⟩ := DataW.trod_struct Tryd.underlying63 hx
  rw [cellsOf_sz tk sz63 (by decide)] at hl
  obtain ⟨y0, w0, r0, o0⟩ := opens_f hx hn 0 (o := 0) (s := 1) rfl (opens_l tk Tryd.underlying61 (enc_l td62 sz62 (enc_i64 td3 sz3).cut) (opens_l tk Tryd.underlying62 (enc_i64 td3 sz3) (opens_i64 Tryd.underlying3))) rfl (cellsOf_sz tk sz61 (by decide))
  obtain ⟨y1, w1, r1, o1⟩ := opens_f hx hn 1 (o := 1) (s := 1) rfl (opens_l tk Tryd.underlying62 (enc_i64 td3 sz3) (opens_i64 Tryd.underlying3)) rfl (cellsOf_sz tk sz62 (by decide))
  obtain ⟨y2, w2, r2, o2⟩ := opens_f hx hn 2 (o := 2) (s := 1) rfl (opens_l tk Tryd.underlying62 (enc_i64 td3 sz3) (opens_i64 Tryd.underlying3)) rfl (cellsOf_sz tk sz62 (by decide))
  obtain ⟨y3, w3, r3, o3⟩ := opens_f hx hn 3 (o := 3) (s := 1) rfl (opens_i64 Tryd.underlying3) rfl (cellsOf_sz tk sz3 (by decide))
  refine ⟨⟨y0, y1, y2, y3⟩, ⟨w0, w1, w2, w3⟩, ?_, ?_⟩
  · have h := (rel_piece r0 (rel_piece r1 (rel_piece r2 (rel_piece r3 (rel_end hl)))))
    rw [List.drop_zero] at h
    first | exact h | (simp only [List.append_nil, List.append_assoc] at h ⊢; exact h) | (simpa [AV.cells, e_butteryref09_Lists, c_butteryref09_Lists] using h)
  · have h := (one_piece o0 (one_piece o1 (one_piece o2 (one_piece o3 (one_end hl)))))
    rw [List.drop_zero] at h
    exact h
theorem opens64 : Opens Tryd.prog 64 e_butteryref09_Lists wf_butteryref09_Lists := by
  intro H enc w fuel cs x hx
  obtain ⟨xs, m, _, _, hl, hn, hx⟩ := DataW.trod_struct Tryd.underlying64 hx
  rw [cellsOf_sz tk sz64 (by decide)] at hl
  obtain ⟨y0, w0, r0, o0⟩ := opens_f hx hn 0 (o := 0) (s := 1) rfl (opens_l tk Tryd.underlying61 (enc_l td62 sz62 (enc_i64 td3 sz3).cut) (opens_l tk Tryd.underlying62 (enc_i64 td3 sz3) (opens_i64 Tryd.underlying3))) rfl (cellsOf_sz tk sz61 (by decide))
  obtain ⟨y1, w1, r1, o1⟩ := opens_f hx hn 1 (o := 1) (s := 1) rfl (opens_l tk Tryd.underlying62 (enc_i64 td3 sz3) (opens_i64 Tryd.underlying3)) rfl (cellsOf_sz tk sz62 (by decide))
  obtain ⟨y2, w2, r2, o2⟩ := opens_f hx hn 2 (o := 2) (s := 1) rfl (opens_l tk Tryd.underlying62 (enc_i64 td3 sz3) (opens_i64 Tryd.underlying3)) rfl (cellsOf_sz tk sz62 (by decide))
  obtain ⟨y3, w3, r3, o3⟩ := opens_f hx hn 3 (o := 3) (s := 1) rfl (opens_i64 Tryd.underlying3) rfl (cellsOf_sz tk sz3 (by decide))
  refine ⟨⟨y0, y1, y2, y3⟩, ⟨w0, w1, w2, w3⟩, ?_, ?_⟩
  · have h := (rel_piece r0 (rel_piece r1 (rel_piece r2 (rel_piece r3 (rel_end hl)))))
    rw [List.drop_zero] at h
    first | exact h | (simp only [List.append_nil, List.append_assoc] at h ⊢; exact h) | (simpa [AV.cells, e_butteryref09_Lists, c_butteryref09_Lists] using h)
  · have h := (one_piece o0 (one_piece o1 (one_piece o2 (one_piece o3 (one_end hl)))))
    rw [List.drop_zero] at h
    exact h
def wf_butterylaw09_Op (x : butterylaw09_Op) : Prop := (wfI .i64) x.Kind ∧ (wfI .i64) x.At
theorem opens69 : Opens Tryd.prog 69 e_butterylaw09_Op wf_butterylaw09_Op := by
  intro H enc w fuel cs x hx
  obtain ⟨xs, m, _, _, hl, hn, hx⟩ := DataW.trod_struct Tryd.underlying69 hx
  rw [cellsOf_sz tk sz69 (by decide)] at hl
  obtain ⟨y0, w0, r0, o0⟩ := opens_f hx hn 0 (o := 0) (s := 1) rfl (opens_i64 Tryd.underlying3) rfl (cellsOf_sz tk sz3 (by decide))
  obtain ⟨y1, w1, r1, o1⟩ := opens_f hx hn 1 (o := 1) (s := 1) rfl (opens_i64 Tryd.underlying3) rfl (cellsOf_sz tk sz3 (by decide))
  refine ⟨⟨y0, y1⟩, ⟨w0, w1⟩, ?_, ?_⟩
  · have h := (rel_piece r0 (rel_piece r1 (rel_end hl)))
    rw [List.drop_zero] at h
    first | exact h | (simp only [List.append_nil, List.append_assoc] at h ⊢; exact h) | (simpa [AV.cells, e_butterylaw09_Op, c_butterylaw09_Op] using h)
  · have h := (one_piece o0 (one_piece o1 (one_end hl)))
    rw [List.drop_zero] at h
    exact h
theorem opens70 : Opens Tryd.prog 70 e_butterylaw09_Op wf_butterylaw09_Op := by
  intro H enc w fuel cs x hx
  obtain ⟨xs, m, _, _, hl, hn, hx⟩ := DataW.trod_struct Tryd.underlying70 hx
  rw [cellsOf_sz tk sz70 (by decide)] at hl
  obtain ⟨y0, w0, r0, o0⟩ := opens_f hx hn 0 (o := 0) (s := 1) rfl (opens_i64 Tryd.underlying3) rfl (cellsOf_sz tk sz3 (by decide))
  obtain ⟨y1, w1, r1, o1⟩ := opens_f hx hn 1 (o := 1) (s := 1) rfl (opens_i64 Tryd.underlying3) rfl (cellsOf_sz tk sz3 (by decide))
  refine ⟨⟨y0, y1⟩, ⟨w0, w1⟩, ?_, ?_⟩
  · have h := (rel_piece r0 (rel_piece r1 (rel_end hl)))
    rw [List.drop_zero] at h
    first | exact h | (simp only [List.append_nil, List.append_assoc] at h ⊢; exact h) | (simpa [AV.cells, e_butterylaw09_Op, c_butterylaw09_Op] using h)
  · have h := (one_piece o0 (one_piece o1 (one_end hl)))
    rw [List.drop_zero] at h
    exact h
def wf_lists_link (x : lists_link) : Prop := (wfI .i64) x.ahead ∧ (wfI .i64) x.behind ∧ (wfI .i64) x.list ∧ (wfI .i64) x.used
theorem opens115 : Opens Tryd.prog 115 e_lists_link wf_lists_link := by
  intro H enc w fuel cs x hx
  obtain ⟨xs, m, _, _, hl, hn, hx⟩ := DataW.trod_struct Tryd.underlying115 hx
  rw [cellsOf_sz tk sz115 (by decide)] at hl
  obtain ⟨y0, w0, r0, o0⟩ := opens_f hx hn 0 (o := 0) (s := 1) rfl (opens_i64 Tryd.underlying3) rfl (cellsOf_sz tk sz3 (by decide))
  obtain ⟨y1, w1, r1, o1⟩ := opens_f hx hn 1 (o := 1) (s := 1) rfl (opens_i64 Tryd.underlying3) rfl (cellsOf_sz tk sz3 (by decide))
  obtain ⟨y2, w2, r2, o2⟩ := opens_f hx hn 2 (o := 2) (s := 1) rfl (opens_i64 Tryd.underlying3) rfl (cellsOf_sz tk sz3 (by decide))
  obtain ⟨y3, w3, r3, o3⟩ := opens_f hx hn 3 (o := 3) (s := 1) rfl (opens_i64 Tryd.underlying3) rfl (cellsOf_sz tk sz3 (by decide))
  refine ⟨⟨y0, y1, y2, y3⟩, ⟨w0, w1, w2, w3⟩, ?_, ?_⟩
  · have h := (rel_piece r0 (rel_piece r1 (rel_piece r2 (rel_piece r3 (rel_end hl)))))
    rw [List.drop_zero] at h
    first | exact h | (simp only [List.append_nil, List.append_assoc] at h ⊢; exact h) | (simpa [AV.cells, e_lists_link, c_lists_link] using h)
  · have h := (one_piece o0 (one_piece o1 (one_piece o2 (one_piece o3 (one_end hl)))))
    rw [List.drop_zero] at h
    exact h
theorem opens116 : Opens Tryd.prog 116 e_lists_link wf_lists_link := by
  intro H enc w fuel cs x hx
  obtain ⟨xs, m, _, _, hl, hn, hx⟩ := DataW.trod_struct Tryd.underlying116 hx
  rw [cellsOf_sz tk sz116 (by decide)] at hl
  obtain ⟨y0, w0, r0, o0⟩ := opens_f hx hn 0 (o := 0) (s := 1) rfl (opens_i64 Tryd.underlying3) rfl (cellsOf_sz tk sz3 (by decide))
  obtain ⟨y1, w1, r1, o1⟩ := opens_f hx hn 1 (o := 1) (s := 1) rfl (opens_i64 Tryd.underlying3) rfl (cellsOf_sz tk sz3 (by decide))
  obtain ⟨y2, w2, r2, o2⟩ := opens_f hx hn 2 (o := 2) (s := 1) rfl (opens_i64 Tryd.underlying3) rfl (cellsOf_sz tk sz3 (by decide))
  obtain ⟨y3, w3, r3, o3⟩ := opens_f hx hn 3 (o := 3) (s := 1) rfl (opens_i64 Tryd.underlying3) rfl (cellsOf_sz tk sz3 (by decide))
  refine ⟨⟨y0, y1, y2, y3⟩, ⟨w0, w1, w2, w3⟩, ?_, ?_⟩
  · have h := (rel_piece r0 (rel_piece r1 (rel_piece r2 (rel_piece r3 (rel_end hl)))))
    rw [List.drop_zero] at h
    first | exact h | (simp only [List.append_nil, List.append_assoc] at h ⊢; exact h) | (simpa [AV.cells, e_lists_link, c_lists_link] using h)
  · have h := (one_piece o0 (one_piece o1 (one_piece o2 (one_piece o3 (one_end hl)))))
    rw [List.drop_zero] at h
    exact h
def wf_lists_Lists (x : lists_Lists) : Prop := (wfL wf_lists_link) x.nodes ∧ (wfL (wfI .i64)) x.first_ ∧ (wfL (wfI .i64)) x.last_ ∧ (wfL (wfI .i64)) x.count ∧ (wfI .i64) x.free ∧ (wfI .i64) x.clock
theorem opens113 : Opens Tryd.prog 113 e_lists_Lists wf_lists_Lists := by
  intro H enc w fuel cs x hx
  obtain ⟨xs, m, _, _, hl, hn, hx⟩ := DataW.trod_struct Tryd.underlying113 hx
  rw [cellsOf_sz tk sz113 (by decide)] at hl
  obtain ⟨y0, w0, r0, o0⟩ := opens_f hx hn 0 (o := 0) (s := 1) rfl (opens_l tk Tryd.underlying112 enc116 opens116) rfl (cellsOf_sz tk sz112 (by decide))
  obtain ⟨y1, w1, r1, o1⟩ := opens_f hx hn 1 (o := 1) (s := 1) rfl (opens_l tk Tryd.underlying62 (enc_i64 td3 sz3) (opens_i64 Tryd.underlying3)) rfl (cellsOf_sz tk sz62 (by decide))
  obtain ⟨y2, w2, r2, o2⟩ := opens_f hx hn 2 (o := 2) (s := 1) rfl (opens_l tk Tryd.underlying62 (enc_i64 td3 sz3) (opens_i64 Tryd.underlying3)) rfl (cellsOf_sz tk sz62 (by decide))
  obtain ⟨y3, w3, r3, o3⟩ := opens_f hx hn 3 (o := 3) (s := 1) rfl (opens_l tk Tryd.underlying62 (enc_i64 td3 sz3) (opens_i64 Tryd.underlying3)) rfl (cellsOf_sz tk sz62 (by decide))
  obtain ⟨y4, w4, r4, o4⟩ := opens_f hx hn 4 (o := 4) (s := 1) rfl (opens_i64 Tryd.underlying3) rfl (cellsOf_sz tk sz3 (by decide))
  obtain ⟨y5, w5, r5, o5⟩ := opens_f hx hn 5 (o := 5) (s := 1) rfl (opens_i64 Tryd.underlying3) rfl (cellsOf_sz tk sz3 (by decide))
  refine ⟨⟨y0, y1, y2, y3, y4, y5⟩, ⟨w0, w1, w2, w3, w4, w5⟩, ?_, ?_⟩
  · have h := (rel_piece r0 (rel_piece r1 (rel_piece r2 (rel_piece r3 (rel_piece r4 (rel_piece r5 (rel_end hl)))))))
    rw [List.drop_zero] at h
    first | exact h | (simp only [List.append_nil, List.append_assoc] at h ⊢; exact h) | (simpa [AV.cells, e_lists_Lists, c_lists_Lists] using h)
  · have h := (one_piece o0 (one_piece o1 (one_piece o2 (one_piece o3 (one_piece o4 (one_piece o5 (one_end hl)))))))
    rw [List.drop_zero] at h
    exact h
theorem opens114 : Opens Tryd.prog 114 e_lists_Lists wf_lists_Lists := by
  intro H enc w fuel cs x hx
  obtain ⟨xs, m, _, _, hl, hn, hx⟩ := DataW.trod_struct Tryd.underlying114 hx
  rw [cellsOf_sz tk sz114 (by decide)] at hl
  obtain ⟨y0, w0, r0, o0⟩ := opens_f hx hn 0 (o := 0) (s := 1) rfl (opens_l tk Tryd.underlying112 enc116 opens116) rfl (cellsOf_sz tk sz112 (by decide))
  obtain ⟨y1, w1, r1, o1⟩ := opens_f hx hn 1 (o := 1) (s := 1) rfl (opens_l tk Tryd.underlying62 (enc_i64 td3 sz3) (opens_i64 Tryd.underlying3)) rfl (cellsOf_sz tk sz62 (by decide))
  obtain ⟨y2, w2, r2, o2⟩ := opens_f hx hn 2 (o := 2) (s := 1) rfl (opens_l tk Tryd.underlying62 (enc_i64 td3 sz3) (opens_i64 Tryd.underlying3)) rfl (cellsOf_sz tk sz62 (by decide))
  obtain ⟨y3, w3, r3, o3⟩ := opens_f hx hn 3 (o := 3) (s := 1) rfl (opens_l tk Tryd.underlying62 (enc_i64 td3 sz3) (opens_i64 Tryd.underlying3)) rfl (cellsOf_sz tk sz62 (by decide))
  obtain ⟨y4, w4, r4, o4⟩ := opens_f hx hn 4 (o := 4) (s := 1) rfl (opens_i64 Tryd.underlying3) rfl (cellsOf_sz tk sz3 (by decide))
  obtain ⟨y5, w5, r5, o5⟩ := opens_f hx hn 5 (o := 5) (s := 1) rfl (opens_i64 Tryd.underlying3) rfl (cellsOf_sz tk sz3 (by decide))
  refine ⟨⟨y0, y1, y2, y3, y4, y5⟩, ⟨w0, w1, w2, w3, w4, w5⟩, ?_, ?_⟩
  · have h := (rel_piece r0 (rel_piece r1 (rel_piece r2 (rel_piece r3 (rel_piece r4 (rel_piece r5 (rel_end hl)))))))
    rw [List.drop_zero] at h
    first | exact h | (simp only [List.append_nil, List.append_assoc] at h ⊢; exact h) | (simpa [AV.cells, e_lists_Lists, c_lists_Lists] using h)
  · have h := (one_piece o0 (one_piece o1 (one_piece o2 (one_piece o3 (one_piece o4 (one_piece o5 (one_end hl)))))))
    rw [List.drop_zero] at h
    exact h
def wf_reflectlite_ValueError (x : reflectlite_ValueError) : Prop := wfS x.Method ∧ wfT x.Kind
theorem opens183 : Opens Tryd.prog 183 e_reflectlite_ValueError wf_reflectlite_ValueError := by
  intro H enc w fuel cs x hx
  obtain ⟨xs, m, _, _, hl, hn, hx⟩ := DataW.trod_struct Tryd.underlying183 hx
  rw [cellsOf_sz tk sz183 (by decide)] at hl
  obtain ⟨y0, w0, r0, o0⟩ := opens_f hx hn 0 (o := 0) (s := 1) rfl (opens_s Tryd.underlying9) rfl (cellsOf_sz tk sz9 (by decide))
  obtain ⟨y1, w1, r1, o1⟩ := opens_f hx hn 1 (o := 1) (s := 1) rfl (opens_u rfl rfl Tryd.underlying134) rfl (cellsOf_sz tk sz134 (by decide))
  refine ⟨⟨y0, y1⟩, ⟨w0, w1⟩, ?_, ?_⟩
  · have h := (rel_piece r0 (rel_piece r1 (rel_end hl)))
    rw [List.drop_zero] at h
    first | exact h | (simp only [List.append_nil, List.append_assoc] at h ⊢; exact h) | (simpa [AV.cells, e_reflectlite_ValueError, c_reflectlite_ValueError] using h)
  · have h := (one_piece o0 (one_piece o1 (one_end hl)))
    rw [List.drop_zero] at h
    exact h
theorem opens184 : Opens Tryd.prog 184 e_reflectlite_ValueError wf_reflectlite_ValueError := by
  intro H enc w fuel cs x hx
  obtain ⟨xs, m, _, _, hl, hn, hx⟩ := DataW.trod_struct Tryd.underlying184 hx
  rw [cellsOf_sz tk sz184 (by decide)] at hl
  obtain ⟨y0, w0, r0, o0⟩ := opens_f hx hn 0 (o := 0) (s := 1) rfl (opens_s Tryd.underlying9) rfl (cellsOf_sz tk sz9 (by decide))
  obtain ⟨y1, w1, r1, o1⟩ := opens_f hx hn 1 (o := 1) (s := 1) rfl (opens_u rfl rfl Tryd.underlying134) rfl (cellsOf_sz tk sz134 (by decide))
  refine ⟨⟨y0, y1⟩, ⟨w0, w1⟩, ?_, ?_⟩
  · have h := (rel_piece r0 (rel_piece r1 (rel_end hl)))
    rw [List.drop_zero] at h
    first | exact h | (simp only [List.append_nil, List.append_assoc] at h ⊢; exact h) | (simpa [AV.cells, e_reflectlite_ValueError, c_reflectlite_ValueError] using h)
  · have h := (one_piece o0 (one_piece o1 (one_end hl)))
    rw [List.drop_zero] at h
    exact h
def wf_abi_Method (x : abi_Method) : Prop := (wfI .i32) x.Name ∧ (wfI .i32) x.Mtyp ∧ (wfI .i32) x.Ifn ∧ (wfI .i32) x.Tfn
theorem opens192 : Opens Tryd.prog 192 e_abi_Method wf_abi_Method := by
  intro H enc w fuel cs x hx
  obtain ⟨xs, m, _, _, hl, hn, hx⟩ := DataW.trod_struct Tryd.underlying192 hx
  rw [cellsOf_sz tk sz192 (by decide)] at hl
  obtain ⟨y0, w0, r0, o0⟩ := opens_f hx hn 0 (o := 0) (s := 1) rfl (opens_i Tryd.underlying176) rfl (cellsOf_sz tk sz176 (by decide))
  obtain ⟨y1, w1, r1, o1⟩ := opens_f hx hn 1 (o := 1) (s := 1) rfl (opens_i Tryd.underlying177) rfl (cellsOf_sz tk sz177 (by decide))
  obtain ⟨y2, w2, r2, o2⟩ := opens_f hx hn 2 (o := 2) (s := 1) rfl (opens_i Tryd.underlying191) rfl (cellsOf_sz tk sz191 (by decide))
  obtain ⟨y3, w3, r3, o3⟩ := opens_f hx hn 3 (o := 3) (s := 1) rfl (opens_i Tryd.underlying191) rfl (cellsOf_sz tk sz191 (by decide))
  refine ⟨⟨y0, y1, y2, y3⟩, ⟨w0, w1, w2, w3⟩, ?_, ?_⟩
  · have h := (rel_piece r0 (rel_piece r1 (rel_piece r2 (rel_piece r3 (rel_end hl)))))
    rw [List.drop_zero] at h
    first | exact h | (simp only [List.append_nil, List.append_assoc] at h ⊢; exact h) | (simpa [AV.cells, e_abi_Method, c_abi_Method] using h)
  · have h := (one_piece o0 (one_piece o1 (one_piece o2 (one_piece o3 (one_end hl)))))
    rw [List.drop_zero] at h
    exact h
theorem opens193 : Opens Tryd.prog 193 e_abi_Method wf_abi_Method := by
  intro H enc w fuel cs x hx
  obtain ⟨xs, m, _, _, hl, hn, hx⟩ := DataW.trod_struct Tryd.underlying193 hx
  rw [cellsOf_sz tk sz193 (by decide)] at hl
  obtain ⟨y0, w0, r0, o0⟩ := opens_f hx hn 0 (o := 0) (s := 1) rfl (opens_i Tryd.underlying176) rfl (cellsOf_sz tk sz176 (by decide))
  obtain ⟨y1, w1, r1, o1⟩ := opens_f hx hn 1 (o := 1) (s := 1) rfl (opens_i Tryd.underlying177) rfl (cellsOf_sz tk sz177 (by decide))
  obtain ⟨y2, w2, r2, o2⟩ := opens_f hx hn 2 (o := 2) (s := 1) rfl (opens_i Tryd.underlying191) rfl (cellsOf_sz tk sz191 (by decide))
  obtain ⟨y3, w3, r3, o3⟩ := opens_f hx hn 3 (o := 3) (s := 1) rfl (opens_i Tryd.underlying191) rfl (cellsOf_sz tk sz191 (by decide))
  refine ⟨⟨y0, y1, y2, y3⟩, ⟨w0, w1, w2, w3⟩, ?_, ?_⟩
  · have h := (rel_piece r0 (rel_piece r1 (rel_piece r2 (rel_piece r3 (rel_end hl)))))
    rw [List.drop_zero] at h
    first | exact h | (simp only [List.append_nil, List.append_assoc] at h ⊢; exact h) | (simpa [AV.cells, e_abi_Method, c_abi_Method] using h)
  · have h := (one_piece o0 (one_piece o1 (one_piece o2 (one_piece o3 (one_end hl)))))
    rw [List.drop_zero] at h
    exact h
end Go.Proofs.YtobbifgmjkgkfaaDoor
namespace Go.Proofs.YtobbifgmjkgkfaaDoor
open Go Go.Va
set_option linter.unusedVariables false
set_option linter.unusedSimpArgs false
theorem ListsTouch_pure (l : List butterylaw09_Op) (w : BitVec 8) (_ : wfL wf_butterylaw09_Op l) (_ : wfT w) : butterylaw09_ListsTouch l w = some true := by
  unfold butterylaw09_ListsTouch
  simp only [lt_eq]
  by_cases h0 : (l.length : Int) > 80
  · rw [if_pos (decide_eq_true h0), works09]
    rfl
  rw [if_neg (by simpa using h0)]
  obtain ⟨x, r, e1, e2, G, _, _⟩ := new_ok (n := 3) (N := 20) (by decide) (by decide) (by decide) (by decide)
  have e1' : lists_New 3 20 = some (some x, .nil) := e1
  have e2' : butteryref09_New 3 20 = some (r, 0) := e2
  rw [e1', Option.bind_some]
  simp only [Option.elim_some]
  rw [if_neg (by decide), Option.bind_some, if_neg (by decide), e2', Option.bind_some]
  unfold butterylaw09_ListsTouch_l0
  have key := loopO_inv (body := fun s => butterylaw09_ListsTouch_b0 l w s.1 s.2.1 s.2.2.1 s.2.2.2.1 s.2.2.2.2.1 s.2.2.2.2.2.1 s.2.2.2.2.2.2) (fun s => ∃ (j : Nat) (x : lists_Lists) (r : butteryref09_Lists) (g : Int → lists_link), s = ((j : Int), r, x, x.nodes, x.first_, x.last_, x.count) ∧ j ≤ l.length ∧ Good x r g (j : Int)) (fun s => (l.length - s.1).toNat) (fun y => ∃ (x : lists_Lists) (r : butteryref09_Lists) (g : Int → lists_link), y = (r, x, x.nodes, x.first_, x.last_, x.count) ∧ Good x r g (l.length : Int)) (s := ((0 : Int), r, x, x.nodes, x.first_, x.last_, x.count)) ?_ ⟨0, x, r, _, rfl, Nat.zero_le _, G⟩
  · obtain ⟨y, h2, x, r, g, rfl, G⟩ := key
    rw [h2, Option.bind_some]
    simp only []
    by_cases hu : r.Used = []
    · rw [if_pos (by simp [hu]), oldest_eq G, Option.bind_some, hu, if_pos (show (lsp (-1) [] == (-1 : Int)) = true from rfl), works09]
      rfl
    have hpos : 0 < r.Used.length := List.length_pos_iff.2 hu
    rw [if_neg (by simp; exact hu), dv_eq (by omega), Option.map_some, Option.bind_some]
    have hlt : w.toNat % r.Used.length < r.Used.length := Nat.mod_lt _ hpos
    have em : Int.tmod (w.toNat : Int) (r.Used.length : Int) = ((w.toNat % r.Used.length : Nat) : Int) := by
      rw [Int.tmod_eq_emod_of_nonneg (by omega)]; rfl
    rw [em, ix_nat hlt, Option.bind_some]
    generalize hn : r.Used[w.toNat % r.Used.length] = n
    have hnu : n ∈ r.Used := hn ▸ List.getElem_mem hlt
    obtain ⟨n0, n1⟩ := G.rng n (List.mem_append_right _ hnu)
    obtain ⟨x', r', e, c, t1, _, _, lt', _, ⟨g', G'⟩, t2⟩ := touch_step G (by omega) n
    obtain ⟨rfl, i, k, hi, hnk, hgi, eL, eU⟩ := t2 hnu
    have hi' : At r'.L i (n :: but k n) := by rw [eL]; exact hi.same _
    have hnd := (G.sub i k hi).nodup G.nu
    have hll := G.ll hi
    have hbl := but_len hnd hnk
    rw [listX_in G n0 n1, Option.bind_some, hgi, order_eq G hi, Option.bind_some, t1, Option.bind_some]
    simp only [Err.isNil, Bool.not_true, Bool.false_eq_true, if_false]
    rw [order_eq G' hi', Option.bind_some]
    rw [if_neg (by simp; omega), if_neg (by simp; omega), show ix (n :: but k n) (0 : Int) = some n from rfl, Option.bind_some, Option.bind_some, if_neg (by simp), show cutFrom (n :: but k n) (1 : Int) = some (but k n) from cutFrom_eq (l := n :: but k n) (n := 1) (by simp), Option.bind_some, butF_eq _ _ (by omega), Option.bind_some, ints_eq _ (by omega), Option.bind_some, if_pos rfl]
    by_cases h1 : r.Used.length = 1
    · rw [if_pos (by simp [h1]), works09]
      rfl
    · rw [if_neg (by simp; omega), oldest_eq G', Option.bind_some, eU, if_pos, works09]
      · rfl
      · have hb : (but r.Used n) ≠ [] := fun h => by
          have := but_len G.nu hnu
          rw [h] at this
          simp at this
          omega
        have : lsp n (but r.Used n) ∈ but r.Used n := lsp_mem hb
        simpa [lsp] using (mem_but.1 this).2
  · rintro s ⟨j, x, r', g, rfl, hj, G⟩
    unfold butterylaw09_ListsTouch_b0
    simp only [lt_eq]
    by_cases hjl : j < l.length
    · left
      obtain ⟨x', r2, g', q1, q2, _, _⟩ := do_eq G (by omega) l[j]
      rw [if_pos (decide_eq_true (by omega)), ix_nat hjl, Option.bind_some, q1, Option.bind_some, w64_nat (by omega)]
      exact ⟨_, rfl, ⟨j + 1, x', r2, g', rfl, hjl, q2⟩, by simp only; omega⟩
    · right
      have : j = l.length := by omega
      subst this
      rw [if_neg (by simp)]
      exact ⟨_, rfl, x, r', g, rfl, G⟩
end Go.Proofs.YtobbifgmjkgkfaaDoor
namespace Go.Proofs.YtobbifgmjkgkfaaDoor
open Go.ChangeShapes Go.WideShapes Go.RowKit
theorem own : ownKnob Tryd.prog.godebug = none := by kernel_rfl
theorem laidEt : Tryd.prog.globalNamed "errors.errorType" = some 0 := by kernel_rfl
theorem laidRt : (Tryd.prog.cutTypes.find? (·.1 == "internal/reflectlite.rtype")).map (·.2) = some 151 := by kernel_rfl
theorem laidRow : ((List.range 195).filter fun t => Tryd.prog.rowNamed t [101, 114, 114, 111, 114]) = [27] := by kernel_rfl
theorem laidSize : Tryd.prog.types.size = 195 := by kernel_rfl
def laidL {H : Type} : List (String × DataW H) := [("errors.errorType", Rows.laid_errors_errorType)]
theorem handle_of_laid {W : World} (h : laidMetH Tryd.prog laidL W) : W.cell? ⟨0, 0, none⟩ = some (.iface 151 (.agg #[.pointer (some ⟨1, 27, none⟩)])) := by
  have h' : laidMet Tryd.prog [] W ∧ handlesMet Tryd.prog laidL W := h
  obtain ⟨name, u, ty, e1, e2, e3, e4, e5⟩ := h'.2 _ (List.mem_singleton.2 rfl)
  have en : name = [101, 114, 114, 111, 114] := (Option.some.inj e1).symm
  subst en
  obtain rfl := Option.some.inj (laidRt.symm.trans e2)
  have hm : ty ∈ (List.range 195).filter fun t => Tryd.prog.rowNamed t [101, 114, 114, 111, 114] := List.mem_filter.2 ⟨List.mem_range.2 (by rw [← laidSize]; exact e3), e4⟩
  rw [laidRow] at hm
  obtain rfl := List.mem_singleton.1 hm
  have hh : typeHandle Tryd.prog 27 = .pointer (some ⟨1, 27, none⟩) := by kernel_rfl
  rw [hh] at e5
  simpa using World.var?_cell laidEt e5 0
/-- A world that meets the condition. -/
noncomputable def laidWorld (os : Os) : World :=
  let w0 := World.holding Tryd.prog os ⟨#[], #[], []⟩
  { w0 with heap := w0.heap.modify 0 fun
      | .cells _ t frozen => .cells #[.iface 151 (.agg #[.pointer (some ⟨1, 27, none⟩)])] t frozen
      | o => o }
theorem laidWorld_met (os : Os) (args : Array Value) : laidMetH Tryd.prog laidL ((laidWorld os).forCall (fun _ _ => 0) ⟨#[], args, []⟩).memory :=
  laidMetH_of_parts (laidMet_nil _ _) (by kernel_rfl)
theorem gls_met {W : World} (h : laidMetH Tryd.prog laidL W) : ∀ p ∈ gls, W.cell? p.1 = some p.2 := by
  intro p hp
  obtain rfl := List.mem_singleton.1 hp
  exact handle_of_laid h
theorem laidOut : laidOutB Tryd.prog = true := by kernel_rfl
end Go.Proofs.YtobbifgmjkgkfaaDoor
