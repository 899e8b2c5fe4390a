/- THE ELDEST GOES: what is inserted without an error is the last one, all together have room in a page, those that went were the eldest, and all others stay in their order. (part 5 of 7) -/
import Derived.Test.YtkmlinaofbcbaaaDoorKBucketRoom4
namespace Go.Proofs.YtkmlinaofbcbaaaDoor
open Go Go.Va
set_option linter.unusedVariables false
set_option linter.unusedSimpArgs false
set_option maxRecDepth 20000
theorem butterylaw12_works_ok  {r : Bool} (H : butterylaw12_works = some r) (σ : St)  (hg : σ.gl = gls) : ACall Tryd.prog 39 [] σ (fun a τ => a = eB r ∧ τ = σ) := by
  unfold butterylaw12_works at H
  refine ACall.pure (acall_start tk Tryd.func39 (by decide) rfl (Nat.le_of_ble_eq_true rfl) ?_)
  have hH := Holds.init σ
  refine awp_seq ?_
  refine awp_region rfl ?_
  refine wpo_mv (a := (eB false)) rfl rfl rfl (o_as tk rfl (Wk.refl _)) ?_
  refine wpo_nil ?_
  refine awp_seq ?_
  refine awp_region rfl ?_
  obtain ⟨v2, hv3, H1⟩ := Option.bind_eq_some_iff.1 H
  refine wpo_a (av := fun t => eT t 1 (@eU .u8 8) v2) rfl rfl rfl (h_make tk hH hv3 td22 ty5 rfl rfl rfl rfl) fun tk4 τ hH => ?_
  refine wpo_lt H1 e_api_Entry rfl rfl rfl (OpP.wk (wkf_up (t := 14) (a := ((eL 1 (@eU .u8 8)) v2)) wk_no) (o_c tk false rfl (fun _ => rfl))) fun v6 H5 => ?_
  refine wpo_a (av := fun id => .ref id 0) rfl rfl rfl (h_alloc tk hH ty24 [(eS z_api_Entry.Key), (eI z_api_Entry.Version), (eI z_api_Entry.AsOf), (eI z_api_Entry.Ends), AV.nils] rfl) fun id7 τ ⟨hH, n8⟩ => ?_
  refine wpo_z rfl rfl (h_st tk hH 0 rfl ty24 (by simp) rfl rfl (.of_eq rfl) (b := (e_api_Entry v6)) (enc24.flat _) rfl (Nat.le_of_ble_eq_true rfl) (c_api_Entry (v6 : api_Entry)) rfl) fun τ hH => ?_
  refine wpo_nil ?_
  refine awp_seq ?_
  refine awp_region rfl ?_
  obtain ⟨v11, hv12, H10⟩ := Option.bind_eq_some_iff.1 H5
  refine wpo_a (av := fun t => eT t 1 (@eU .u8 8) v11) rfl rfl rfl (h_make tk hH hv12 td22 ty5 rfl rfl rfl rfl) fun tk13 τ hH => ?_
  refine wpo_lt H10 e_api_Entry rfl rfl rfl (OpP.wk (wkf_up (t := 16) (a := ((eL 1 (@eU .u8 8)) v11)) wk_no) (o_c tk false rfl (fun _ => rfl))) fun v15 H14 => ?_
  refine wpo_a (av := fun id => .ref id 0) rfl rfl rfl (h_alloc tk hH ty24 [(eS z_api_Entry.Key), (eI z_api_Entry.Version), (eI z_api_Entry.AsOf), (eI z_api_Entry.Ends), AV.nils] rfl) fun id16 τ ⟨hH, n17⟩ => ?_
  refine wpo_z rfl rfl (h_st tk hH 0 rfl ty24 (by simp) rfl rfl (.of_eq rfl) (b := (e_api_Entry v15)) (enc24.flat _) rfl (Nat.le_of_ble_eq_true rfl) (c_api_Entry (v15 : api_Entry)) rfl) fun τ hH => ?_
  refine wpo_nil ?_
  refine awp_seq ?_
  refine awp_region rfl ?_
  obtain ⟨v20, hv21, H19⟩ := Option.bind_eq_some_iff.1 H14
  refine wpo_a (av := fun t => eT t 1 (@eU .u8 8) v20) rfl rfl rfl (h_make tk hH hv21 td22 ty5 rfl rfl rfl rfl) fun tk22 τ hH => ?_
  refine wpo_lt H19 e_api_Entry rfl rfl rfl (OpP.wk (wkf_up (t := 18) (a := ((eL 1 (@eU .u8 8)) v20)) wk_no) (o_c tk false rfl (fun _ => rfl))) fun v24 H23 => ?_
  refine wpo_a (av := fun id => .ref id 0) rfl rfl rfl (h_alloc tk hH ty24 [(eS z_api_Entry.Key), (eI z_api_Entry.Version), (eI z_api_Entry.AsOf), (eI z_api_Entry.Ends), AV.nils] rfl) fun id25 τ ⟨hH, n26⟩ => ?_
  refine wpo_z rfl rfl (h_st tk hH 0 rfl ty24 (by simp) rfl rfl (.of_eq rfl) (b := (e_api_Entry v24)) (enc24.flat _) rfl (Nat.le_of_ble_eq_true rfl) (c_api_Entry (v24 : api_Entry)) rfl) fun τ hH => ?_
  refine wpo_nil ?_
  refine awp_seq ?_
  refine awp_region rfl ?_
  refine wpo_rd (a := (e_api_Entry (v6 : api_Entry))) rfl rfl rfl (h_ld tk hH 2 rfl rfl rfl) ?_
  refine wpo_rd (a := (e_api_Entry (v15 : api_Entry))) rfl rfl rfl (h_ld tk hH 1 rfl rfl rfl) ?_
  refine wpo_lt H23 (eF 5 e_api_Entry) rfl rfl rfl (o_c tk false rfl (fun _ => rfl)) fun v29 H28 => ?_
  refine wpo_rd (a := (e_api_Entry (v24 : api_Entry))) rfl rfl rfl (h_ld tk hH 0 rfl rfl rfl) ?_
  refine wpo_bd H28 (fun r => .tup [(eL 5 e_api_Entry) r.1, (eL 5 e_api_Entry) r.2.1, eErr r.2.2]) rfl rfl rfl (fun v31 hv => OpP.of_call rfl rfl (.cons wk_no (.cons (.of_eq rfl) .nil)) (bucket_Insert_ok hv)) fun v31 hv31 H30 => ?_
  refine wpo_mv (a := (.tup [((eL 5 e_api_Entry) v31.1), ((eL 5 e_api_Entry) v31.2.1), (eErr v31.2.2)])) rfl rfl rfl (o_mv tk rfl (Wk.refl _)) ?_
  refine wpo_mv (a := ((eL 5 e_api_Entry) v31.1)) rfl rfl rfl (o_ext tk rfl rfl) ?_
  refine wpo_mv (a := ((eL 5 e_api_Entry) v31.2.1)) rfl rfl rfl (o_ext tk rfl rfl) ?_
  refine wpo_mv (a := (eErr v31.2.2)) rfl rfl rfl (o_ext tk rfl rfl) ?_
  refine wpo_mv (a := ((eL 5 e_api_Entry) v31.1)) rfl rfl rfl (o_as tk rfl (Wk.refl _)) ?_
  refine wpo_mv (a := ((eL 5 e_api_Entry) v31.2.1)) rfl rfl rfl (o_as tk rfl (Wk.refl _)) ?_
  refine wpo_mv (a := (eErr v31.2.2)) rfl rfl rfl (o_as tk rfl (Wk.refl _)) ?_
  refine wpo_nil ?_
  refine awp_seq ?_
  refine awp_region rfl ?_
  obtain ⟨v33, hv34, H32⟩ := Option.bind_eq_some_iff.1 H30
  refine wpo_a (av := fun t => eT t 1 (@eU .u8 8) v33) rfl rfl rfl (h_make tk hH hv34 td22 ty5 rfl rfl rfl rfl) fun tk35 τ hH => ?_
  refine wpo_lt H32 e_api_Entry rfl rfl rfl (OpP.wk (wkf_up (t := 30) (a := ((eL 1 (@eU .u8 8)) v33)) wk_no) (o_c tk false rfl (fun _ => rfl))) fun v37 H36 => ?_
  refine wpo_bd H36 (fun r => .tup [(eL 5 e_api_Entry) r.1, (eL 5 e_api_Entry) r.2.1, eErr r.2.2]) rfl rfl rfl (fun v39 hv => OpP.of_call rfl rfl (.cons (wk_nils _) (.cons (.of_eq rfl) .nil)) (bucket_Insert_ok hv)) fun v39 hv39 H38 => ?_
  refine wpo_mv (a := (.tup [((eL 5 e_api_Entry) v39.1), ((eL 5 e_api_Entry) v39.2.1), (eErr v39.2.2)])) rfl rfl rfl (o_mv tk rfl (Wk.refl _)) ?_
  refine wpo_mv (a := ((eL 5 e_api_Entry) v39.1)) rfl rfl rfl (o_ext tk rfl rfl) ?_
  refine wpo_mv (a := ((eL 5 e_api_Entry) v39.2.1)) rfl rfl rfl (o_ext tk rfl rfl) ?_
  refine wpo_mv (a := (eErr v39.2.2)) rfl rfl rfl (o_ext tk rfl rfl) ?_
  refine wpo_mv (a := ((eL 5 e_api_Entry) v39.1)) rfl rfl rfl (o_as tk rfl (Wk.refl _)) ?_
  refine wpo_mv (a := ((eL 5 e_api_Entry) v39.2.1)) rfl rfl rfl (o_as tk rfl (Wk.refl _)) ?_
  refine wpo_mv (a := (eErr v39.2.2)) rfl rfl rfl (o_as tk rfl (Wk.refl _)) ?_
  refine wpo_nil ?_
  refine awp_seq ?_
  refine awp_region rfl ?_
  refine wpo_rd (a := (e_api_Entry (v6 : api_Entry))) rfl rfl rfl (h_ld tk hH 2 rfl rfl rfl) ?_
  refine wpo_rd (a := (e_api_Entry (v6 : api_Entry))) rfl rfl rfl (h_ld tk hH 2 rfl rfl rfl) ?_
  refine wpo_lt H38 (eF 5 e_api_Entry) rfl rfl rfl (o_c tk false rfl (fun _ => rfl)) fun v41 H40 => ?_
  refine wpo_bd H40 (eL 1 (@eU .u8 8)) rfl rfl rfl (fun v43 hv => OpP.of_call rfl rfl (.cons wk_no .nil) (item_All_ok hv)) fun v43 hv43 H42 => ?_
  refine wpo_bdr H42 (fun r => .tup [(eL 5 e_api_Entry) r.1, eErr r.2]) rfl rfl rfl (fun v45 hv => h_callr rfl rfl (.cons (.of_eq rfl) .nil) (bucket_Read_ok hv _ (hH.gl.trans hg))) fun v45 hv45 H44 => ?_
  refine wpo_mv (a := (.tup [((eL 5 e_api_Entry) v45.1), (eErr v45.2)])) rfl rfl rfl (o_mv tk rfl (Wk.refl _)) ?_
  refine wpo_mv (a := ((eL 5 e_api_Entry) v45.1)) rfl rfl rfl (o_ext tk rfl rfl) ?_
  refine wpo_mv (a := (eErr v45.2)) rfl rfl rfl (o_ext tk rfl rfl) ?_
  refine wpo_mv (a := ((eL 5 e_api_Entry) v45.1)) rfl rfl rfl (o_as tk rfl (Wk.refl _)) ?_
  refine wpo_mv (a := (eErr v45.2)) rfl rfl rfl (o_as tk rfl (Wk.refl _)) ?_
  refine wpo_nil ?_
  refine awp_seq ?_
  refine awp_seq ?_
  obtain ⟨s46, hs48, hj49⟩ := Option.bind_eq_some_iff.1 H44
  refine awp_cutn (fun fr τ => WkF fr (fm [(1, (.ref id7 0)), (4, ((eL 5 e_api_Entry) v31.1)), (5, ((eL 5 e_api_Entry) v31.2.1)), (6, (eErr v31.2.2)), (9, (eErr v39.2.2)), (11, (eErr v45.2)), (51, (eB s46))]) ∧ Holds σ [(id25, (c_api_Entry (v24 : api_Entry))), (id16, (c_api_Entry (v15 : api_Entry))), (id7, (c_api_Entry (v6 : api_Entry)))] [] τ) ?_ ?_
  · rintro fr τ ⟨hfr, hH⟩
    have H59 := hj49
    refine AWP.fm [(1, (.ref id7 0)), (4, ((eL 5 e_api_Entry) v31.1)), (5, ((eL 5 e_api_Entry) v31.2.1)), (6, (eErr v31.2.2)), (9, (eErr v39.2.2)), (11, (eErr v45.2)), (51, (eB s46))] hfr ?_
    refine awp_if H59 rfl (fun H60 => ?_) (fun H60 => ?_)
    · refine awp_seq ?_
      refine awp_region rfl ?_
      refine wpo_mv (a := (eB false)) rfl rfl rfl (o_as tk rfl (Wk.refl _)) ?_
      refine wpo_nil ?_
      refine awp_ret ?_
      obtain rfl := Option.some.inj H60
      exact ⟨_, (eB false), rfl, (.of_eq rfl), .of_eq ((enc_b td4 sz4).cut _ _ _), (((hH.noT.drop n26).drop n17).drop n8)⟩
    · refine awp_skip ?_
      refine awp_seq ?_
      refine awp_region rfl ?_
      refine wpo_mv (a := ((eL 5 e_api_Entry) v31.1)) rfl rfl rfl (o_mv tk rfl (Wk.refl _)) ?_
      refine wpo_bd H60 (fun r => .tup [(eL 5 e_api_Entry) r.1, eB r.2]) rfl rfl rfl (fun v62 hv => OpP.of_call rfl rfl (.cons (.of_eq rfl) (.cons (.of_eq rfl) .nil)) (bucket_Remove_ok hv)) fun v62 hv62 H61 => ?_
      refine wpo_mv (a := (.tup [((eL 5 e_api_Entry) v62.1), (eB v62.2)])) rfl rfl rfl (o_mv tk rfl (Wk.refl _)) ?_
      refine wpo_mv (a := ((eL 5 e_api_Entry) v62.1)) rfl rfl rfl (o_ext tk rfl rfl) ?_
      refine wpo_mv (a := (eB v62.2)) rfl rfl rfl (o_ext tk rfl rfl) ?_
      refine wpo_mv (a := ((eL 5 e_api_Entry) v62.1)) rfl rfl rfl (o_as tk rfl (Wk.refl _)) ?_
      refine wpo_mv (a := (eB v62.2)) rfl rfl rfl (o_as tk rfl (Wk.refl _)) ?_
      refine wpo_nil ?_
      refine awp_seq ?_
      refine awp_region rfl ?_
      refine wpo_mv (a := (eErr v31.2.2)) rfl rfl rfl (o_mv tk rfl (Wk.refl _)) ?_
      refine wpo_lt H61 eB rfl rfl rfl (o_err_eql tk rfl rfl rfl) fun v64 H63 => ?_
      refine wpo_mv (a := (eB v64)) rfl rfl rfl (o_mv tk rfl (Wk.refl _)) ?_
      refine if_split H63 (fun hb H65 => ?_) (fun hb H65 => ?_)
      · subst hb
        refine wpo_mv (a := ((eL 5 e_api_Entry) v31.2.1)) rfl rfl rfl (o_mv tk rfl (Wk.refl _)) ?_
        refine wpo_bd H65 (fun y => .fptr (e_api_Entry y).cells 0) rfl rfl rfl (fun v67 hv => o_ixa tk hv td60 enc24 rfl rfl) fun v67 hv67 H66 => ?_
        refine wpo_mv (a := (.fptr (c_api_Entry v67) 0)) rfl rfl rfl (o_c tk false rfl (fun _ => rfl)) ?_
        refine wpo_mv (a := (eS v67.Key)) rfl rfl rfl (o_ld tk rfl rfl) ?_
        refine wpo_lt H66 eB rfl rfl rfl (o_eql_s tk rfl rfl) fun v69 H68 => ?_
        refine wpo_mv (a := (eB v69)) rfl rfl rfl (o_pick_t tk rfl rfl (Wk.refl _)) ?_
        refine wpo_mv (a := (eB v69)) rfl rfl rfl (o_mv tk rfl (Wk.refl _)) ?_
        refine if_split H68 (fun hb H70 => ?_) (fun hb H70 => ?_)
        · subst hb
          refine wpo_mv (a := ((eL 5 e_api_Entry) v31.1)) rfl rfl rfl (o_mv tk rfl (Wk.refl _)) ?_
          refine wpo_bd H70 (fun y => .fptr (e_api_Entry y).cells 0) rfl rfl rfl (fun v72 hv => o_ixa tk hv td60 enc24 rfl rfl) fun v72 hv72 H71 => ?_
          refine wpo_mv (a := (.fptr (c_api_Entry v72) 0)) rfl rfl rfl (o_c tk false rfl (fun _ => rfl)) ?_
          refine wpo_mv (a := (eS v72.Key)) rfl rfl rfl (o_ld tk rfl rfl) ?_
          refine wpo_lt H71 eB rfl rfl rfl (o_eql_s tk rfl rfl) fun v74 H73 => ?_
          refine wpo_mv (a := (eB v74)) rfl rfl rfl (o_pick_t tk rfl rfl (Wk.refl _)) ?_
          refine wpo_mv (a := (eB v74)) rfl rfl rfl (o_mv tk rfl (Wk.refl _)) ?_
          refine if_split H73 (fun hb H75 => ?_) (fun hb H75 => ?_)
          · subst hb
            refine wpo_mv (a := (eErr v39.2.2)) rfl rfl rfl (o_mv tk rfl (Wk.refl _)) ?_
            refine wpo_bdr H75 eI rfl rfl rfl (fun v77 hv => h_callr rfl rfl (.cons (.of_eq rfl) .nil) (trouble_Of_ok hv _ (hH.gl.trans hg))) fun v77 hv77 H76 => ?_
            refine wpo_lt H76 eB rfl rfl rfl (o_ar tk rfl rfl rfl) fun v79 H78 => ?_
            refine wpo_mv (a := (eB v79)) rfl rfl rfl (o_pick_t tk rfl rfl (Wk.refl _)) ?_
            refine wpo_mv (a := (eB v79)) rfl rfl rfl (o_mv tk rfl (Wk.refl _)) ?_
            refine if_split H78 (fun hb H80 => ?_) (fun hb H80 => ?_)
            · subst hb
              refine wpo_mv (a := (eErr v45.2)) rfl rfl rfl (o_mv tk rfl (Wk.refl _)) ?_
              refine wpo_bdr H80 eI rfl rfl rfl (fun v82 hv => h_callr rfl rfl (.cons (.of_eq rfl) .nil) (trouble_Of_ok hv _ (hH.gl.trans hg))) fun v82 hv82 H81 => ?_
              refine wpo_lt H81 eB rfl rfl rfl (o_ar tk rfl rfl rfl) fun v84 H83 => ?_
              refine wpo_mv (a := (eB v84)) rfl rfl rfl (o_pick_t tk rfl rfl (Wk.refl _)) ?_
              refine wpo_mv (a := (eB v84)) rfl rfl rfl (o_mv tk rfl (Wk.refl _)) ?_
              refine if_split H83 (fun hb H85 => ?_) (fun hb H85 => ?_)
              · subst hb
                refine wpo_mv (a := ((eL 5 e_api_Entry) v62.1)) rfl rfl rfl (o_mv tk rfl (Wk.refl _)) ?_
                refine wpo_lt H85 eI rfl rfl rfl (o_len tk td60 rfl) fun v87 H86 => ?_
                refine wpo_lt H86 eB rfl rfl rfl (o_ar tk rfl rfl rfl) fun v89 H88 => ?_
                refine wpo_mv (a := (eB v89)) rfl rfl rfl (o_pick_t tk rfl rfl (Wk.refl _)) ?_
                refine wpo_mv (a := (eB v89)) rfl rfl rfl (o_mv tk rfl (Wk.refl _)) ?_
                refine if_split H88 (fun hb H90 => ?_) (fun hb H90 => ?_)
                · subst hb
                  refine wpo_mv (a := (eB v62.2)) rfl rfl rfl (o_mv tk rfl (Wk.refl _)) ?_
                  refine wpo_mv (a := (eB v62.2)) rfl rfl rfl (o_pick_t tk rfl rfl (Wk.refl _)) ?_
                  refine wpo_mv (a := (eB v62.2)) rfl rfl rfl (o_mv tk rfl (Wk.refl _)) ?_
                  refine if_split H90 (fun hb H91 => ?_) (fun hb H91 => ?_)
                  · rw [hb]
                    refine wpo_mv (a := ((eL 5 e_api_Entry) v31.1)) rfl rfl rfl (o_mv tk rfl (Wk.refl _)) ?_
                    refine wpo_bd H91 eI rfl rfl rfl (fun v93 hv => OpP.of_call rfl rfl (.cons (.of_eq rfl) (.cons (.of_eq rfl) .nil)) (bucket_Find_ok hv)) fun v93 hv93 H92 => ?_
                    refine wpo_lt H92 eB rfl rfl rfl (o_ar tk rfl rfl rfl) fun v95 H94 => ?_
                    refine wpo_mv (a := (eB v95)) rfl rfl rfl (o_pick_t tk rfl rfl (Wk.refl _)) ?_
                    refine wpo_mv (a := (eB v95)) rfl rfl rfl (o_mv tk rfl (Wk.refl _)) ?_
                    refine if_split H94 (fun hb H96 => ?_) (fun hb H96 => ?_)
                    · subst hb
                      refine wpo_rd (a := (e_api_Entry (v6 : api_Entry))) rfl rfl rfl (h_ld tk hH 2 rfl rfl rfl) ?_
                      refine wpo_lt H96 (eF 5 e_api_Entry) rfl rfl rfl (o_c tk false rfl (fun _ => rfl)) fun v98 H97 => ?_
                      refine wpo_bd H97 eI rfl rfl rfl (fun v100 hv => OpP.of_call rfl rfl (.cons wk_no .nil) (bucket_Size_ok hv)) fun v100 hv100 H99 => ?_
                      refine wpo_lt H99 eB rfl rfl rfl (o_ar tk rfl rfl rfl) fun v102 H101 => ?_
                      refine wpo_mv (a := (eB v102)) rfl rfl rfl (o_pick_t tk rfl rfl (Wk.refl _)) ?_
                      refine wpo_mv (a := (eB v102)) rfl rfl rfl (o_mv tk rfl (Wk.refl _)) ?_
                      refine if_split H101 (fun hb H103 => ?_) (fun hb H103 => ?_)
                      · subst hb
                        refine wpo_mv (a := ((eL 5 e_api_Entry) v31.1)) rfl rfl rfl (o_mv tk rfl (Wk.refl _)) ?_
                        refine wpo_bd H103 (eA (@eU .u64 64)) rfl rfl rfl (fun v105 hv => OpP.of_call rfl rfl (.cons (.of_eq rfl) .nil) (bucket_Filter_ok hv)) fun v105 hv105 H104 => ?_
                        refine wpo_bd H104 (@eU .u64 64) rfl rfl rfl (fun v107 hv => OpP.of_call rfl rfl (.cons (.of_eq rfl) .nil) (bloom_Hash_ok hv)) fun v107 hv107 H106 => ?_
                        refine wpo_bd H106 eB rfl rfl rfl (fun v109 hv => OpP.of_call rfl rfl (.cons (.of_eq rfl) (.cons (.of_eq rfl) .nil)) (bloom_Filter_May_ok hv)) fun v109 hv109 H108 => ?_
                        refine wpo_mv (a := (eB v109)) rfl rfl rfl (o_pick_t tk rfl rfl (Wk.refl _)) ?_
                        refine wpo_mv (a := (eB v109)) rfl rfl rfl (o_as tk rfl (Wk.refl _)) ?_
                        refine wpo_nil ?_
                        refine awp_ret ?_
                        obtain rfl := Option.some.inj H108
                        exact ⟨_, (eB v109), rfl, (.of_eq rfl), .of_eq ((enc_b td4 sz4).cut _ _ _), (((hH.noT.drop n26).drop n17).drop n8)⟩
                      · subst hb
                        refine wpo_skip rfl rfl rfl ?_
                        refine wpo_skip rfl rfl rfl ?_
                        refine wpo_skip rfl rfl rfl ?_
                        refine wpo_skip rfl rfl rfl ?_
                        refine wpo_mv (a := (eB false)) rfl rfl rfl (o_pick_f tk rfl rfl (Wk.refl _)) ?_
                        refine wpo_mv (a := (eB false)) rfl rfl rfl (o_as tk rfl (Wk.refl _)) ?_
                        refine wpo_nil ?_
                        refine awp_ret ?_
                        obtain rfl := Option.some.inj H103
                        exact ⟨_, (eB false), rfl, (.of_eq rfl), .of_eq ((enc_b td4 sz4).cut _ _ _), (((hH.noT.drop n26).drop n17).drop n8)⟩
                    · subst hb
                      refine wpo_skip rfl rfl rfl ?_
                      refine wpo_skip rfl rfl rfl ?_
                      refine wpo_skip rfl rfl rfl ?_
                      refine wpo_skip rfl rfl rfl ?_
                      refine wpo_mv (a := (eB false)) rfl rfl rfl (o_pick_f tk rfl rfl (Wk.refl _)) ?_
                      refine wpo_mv (a := (eB false)) rfl rfl rfl (o_mv tk rfl (Wk.refl _)) ?_
                      refine wpo_skip rfl rfl rfl ?_
                      refine wpo_skip rfl rfl rfl ?_
                      refine wpo_skip rfl rfl rfl ?_
                      refine wpo_skip rfl rfl rfl ?_
                      refine wpo_mv (a := (eB false)) rfl rfl rfl (o_pick_f tk rfl rfl (Wk.refl _)) ?_
                      refine wpo_mv (a := (eB false)) rfl rfl rfl (o_as tk rfl (Wk.refl _)) ?_
                      refine wpo_nil ?_
                      refine awp_ret ?_
                      obtain rfl := Option.some.inj H96
                      exact ⟨_, (eB false), rfl, (.of_eq rfl), .of_eq ((enc_b td4 sz4).cut _ _ _), (((hH.noT.drop n26).drop n17).drop n8)⟩
                  · rw [hb]
                    refine wpo_skip rfl rfl rfl ?_
                    refine wpo_skip rfl rfl rfl ?_
                    refine wpo_skip rfl rfl rfl ?_
                    refine wpo_mv (a := (eB false)) rfl rfl rfl (o_pick_f tk rfl rfl (Wk.refl _)) ?_
                    refine wpo_mv (a := (eB false)) rfl rfl rfl (o_mv tk rfl (Wk.refl _)) ?_
                    refine wpo_skip rfl rfl rfl ?_
                    refine wpo_skip rfl rfl rfl ?_
                    refine wpo_skip rfl rfl rfl ?_
                    refine wpo_skip rfl rfl rfl ?_
                    refine wpo_mv (a := (eB false)) rfl rfl rfl (o_pick_f tk rfl rfl (Wk.refl _)) ?_
                    refine wpo_mv (a := (eB false)) rfl rfl rfl (o_mv tk rfl (Wk.refl _)) ?_
                    refine wpo_skip rfl rfl rfl ?_
                    refine wpo_skip rfl rfl rfl ?_
                    refine wpo_skip rfl rfl rfl ?_
                    refine wpo_skip rfl rfl rfl ?_
                    refine wpo_mv (a := (eB false)) rfl rfl rfl (o_pick_f tk rfl rfl (Wk.refl _)) ?_
                    refine wpo_mv (a := (eB false)) rfl rfl rfl (o_as tk rfl (Wk.refl _)) ?_
                    refine wpo_nil ?_
                    refine awp_ret ?_
                    obtain rfl := Option.some.inj H91
                    exact ⟨_, (eB false), rfl, (.of_eq rfl), .of_eq ((enc_b td4 sz4).cut _ _ _), (((hH.noT.drop n26).drop n17).drop n8)⟩
                · subst hb
                  refine wpo_skip rfl rfl rfl ?_
                  refine wpo_mv (a := (eB false)) rfl rfl rfl (o_pick_f tk rfl rfl (Wk.refl _)) ?_
                  refine wpo_mv (a := (eB false)) rfl rfl rfl (o_mv tk rfl (Wk.refl _)) ?_
                  refine wpo_skip rfl rfl rfl ?_
                  refine wpo_skip rfl rfl rfl ?_
                  refine wpo_skip rfl rfl rfl ?_
                  refine wpo_mv (a := (eB false)) rfl rfl rfl (o_pick_f tk rfl rfl (Wk.refl _)) ?_
                  refine wpo_mv (a := (eB false)) rfl rfl rfl (o_mv tk rfl (Wk.refl _)) ?_
                  refine wpo_skip rfl rfl rfl ?_
                  refine wpo_skip rfl rfl rfl ?_
                  refine wpo_skip rfl rfl rfl ?_
                  refine wpo_skip rfl rfl rfl ?_
                  refine wpo_mv (a := (eB false)) rfl rfl rfl (o_pick_f tk rfl rfl (Wk.refl _)) ?_
                  refine wpo_mv (a := (eB false)) rfl rfl rfl (o_mv tk rfl (Wk.refl _)) ?_
                  refine wpo_skip rfl rfl rfl ?_
                  refine wpo_skip rfl rfl rfl ?_
                  refine wpo_skip rfl rfl rfl ?_
                  refine wpo_skip rfl rfl rfl ?_
                  refine wpo_mv (a := (eB false)) rfl rfl rfl (o_pick_f tk rfl rfl (Wk.refl _)) ?_
                  refine wpo_mv (a := (eB false)) rfl rfl rfl (o_as tk rfl (Wk.refl _)) ?_
                  refine wpo_nil ?_
                  refine awp_ret ?_
                  obtain rfl := Option.some.inj H90
                  exact ⟨_, (eB false), rfl, (.of_eq rfl), .of_eq ((enc_b td4 sz4).cut _ _ _), (((hH.noT.drop n26).drop n17).drop n8)⟩
              · subst hb
                refine wpo_skip rfl rfl rfl ?_
                refine wpo_skip rfl rfl rfl ?_
                refine wpo_skip rfl rfl rfl ?_
                refine wpo_mv (a := (eB false)) rfl rfl rfl (o_pick_f tk rfl rfl (Wk.refl _)) ?_
                refine wpo_mv (a := (eB false)) rfl rfl rfl (o_mv tk rfl (Wk.refl _)) ?_
                refine wpo_skip rfl rfl rfl ?_
                refine wpo_mv (a := (eB false)) rfl rfl rfl (o_pick_f tk rfl rfl (Wk.refl _)) ?_
                refine wpo_mv (a := (eB false)) rfl rfl rfl (o_mv tk rfl (Wk.refl _)) ?_
                refine wpo_skip rfl rfl rfl ?_
                refine wpo_skip rfl rfl rfl ?_
                refine wpo_skip rfl rfl rfl ?_
                refine wpo_mv (a := (eB false)) rfl rfl rfl (o_pick_f tk rfl rfl (Wk.refl _)) ?_
                refine wpo_mv (a := (eB false)) rfl rfl rfl (o_mv tk rfl (Wk.refl _)) ?_
                refine wpo_skip rfl rfl rfl ?_
                refine wpo_skip rfl rfl rfl ?_
                refine wpo_skip rfl rfl rfl ?_
                refine wpo_skip rfl rfl rfl ?_
                refine wpo_mv (a := (eB false)) rfl rfl rfl (o_pick_f tk rfl rfl (Wk.refl _)) ?_
                refine wpo_mv (a := (eB false)) rfl rfl rfl (o_mv tk rfl (Wk.refl _)) ?_
                refine wpo_skip rfl rfl rfl ?_
                refine wpo_skip rfl rfl rfl ?_
                refine wpo_skip rfl rfl rfl ?_
                refine wpo_skip rfl rfl rfl ?_
                refine wpo_mv (a := (eB false)) rfl rfl rfl (o_pick_f tk rfl rfl (Wk.refl _)) ?_
                refine wpo_mv (a := (eB false)) rfl rfl rfl (o_as tk rfl (Wk.refl _)) ?_
                refine wpo_nil ?_
                refine awp_ret ?_
                obtain rfl := Option.some.inj H85
                exact ⟨_, (eB false), rfl, (.of_eq rfl), .of_eq ((enc_b td4 sz4).cut _ _ _), (((hH.noT.drop n26).drop n17).drop n8)⟩
            · subst hb
              refine wpo_skip rfl rfl rfl ?_
              refine wpo_skip rfl rfl rfl ?_
              refine wpo_skip rfl rfl rfl ?_
              refine wpo_mv (a := (eB false)) rfl rfl rfl (o_pick_f tk rfl rfl (Wk.refl _)) ?_
              refine wpo_mv (a := (eB false)) rfl rfl rfl (o_mv tk rfl (Wk.refl _)) ?_
              refine wpo_skip rfl rfl rfl ?_
              refine wpo_skip rfl rfl rfl ?_
              refine wpo_skip rfl rfl rfl ?_
              refine wpo_mv (a := (eB false)) rfl rfl rfl (o_pick_f tk rfl rfl (Wk.refl _)) ?_
              refine wpo_mv (a := (eB false)) rfl rfl rfl (o_mv tk rfl (Wk.refl _)) ?_
              refine wpo_skip rfl rfl rfl ?_
              refine wpo_mv (a := (eB false)) rfl rfl rfl (o_pick_f tk rfl rfl (Wk.refl _)) ?_
              refine wpo_mv (a := (eB false)) rfl rfl rfl (o_mv tk rfl (Wk.refl _)) ?_
              refine wpo_skip rfl rfl rfl ?_
              refine wpo_skip rfl rfl rfl ?_
              refine wpo_skip rfl rfl rfl ?_
              refine wpo_mv (a := (eB false)) rfl rfl rfl (o_pick_f tk rfl rfl (Wk.refl _)) ?_
              refine wpo_mv (a := (eB false)) rfl rfl rfl (o_mv tk rfl (Wk.refl _)) ?_
              refine wpo_skip rfl rfl rfl ?_
              refine wpo_skip rfl rfl rfl ?_
              refine wpo_skip rfl rfl rfl ?_
              refine wpo_skip rfl rfl rfl ?_
              refine wpo_mv (a := (eB false)) rfl rfl rfl (o_pick_f tk rfl rfl (Wk.refl _)) ?_
              refine wpo_mv (a := (eB false)) rfl rfl rfl (o_mv tk rfl (Wk.refl _)) ?_
              refine wpo_skip rfl rfl rfl ?_
              refine wpo_skip rfl rfl rfl ?_
              refine wpo_skip rfl rfl rfl ?_
              refine wpo_skip rfl rfl rfl ?_
              refine wpo_mv (a := (eB false)) rfl rfl rfl (o_pick_f tk rfl rfl (Wk.refl _)) ?_
              refine wpo_mv (a := (eB false)) rfl rfl rfl (o_as tk rfl (Wk.refl _)) ?_
              refine wpo_nil ?_
              refine awp_ret ?_
              obtain rfl := Option.some.inj H80
              exact ⟨_, (eB false), rfl, (.of_eq rfl), .of_eq ((enc_b td4 sz4).cut _ _ _), (((hH.noT.drop n26).drop n17).drop n8)⟩
          · subst hb
            refine wpo_skip rfl rfl rfl ?_
            refine wpo_skip rfl rfl rfl ?_
            refine wpo_skip rfl rfl rfl ?_
            refine wpo_mv (a := (eB false)) rfl rfl rfl (o_pick_f tk rfl rfl (Wk.refl _)) ?_
            refine wpo_mv (a := (eB false)) rfl rfl rfl (o_mv tk rfl (Wk.refl _)) ?_
            refine wpo_skip rfl rfl rfl ?_
            refine wpo_skip rfl rfl rfl ?_
            refine wpo_skip rfl rfl rfl ?_
            refine wpo_mv (a := (eB false)) rfl rfl rfl (o_pick_f tk rfl rfl (Wk.refl _)) ?_
            refine wpo_mv (a := (eB false)) rfl rfl rfl (o_mv tk rfl (Wk.refl _)) ?_
            refine wpo_skip rfl rfl rfl ?_
            refine wpo_skip rfl rfl rfl ?_
            refine wpo_skip rfl rfl rfl ?_
            refine wpo_mv (a := (eB false)) rfl rfl rfl (o_pick_f tk rfl rfl (Wk.refl _)) ?_
            refine wpo_mv (a := (eB false)) rfl rfl rfl (o_mv tk rfl (Wk.refl _)) ?_
            refine wpo_skip rfl rfl rfl ?_
            refine wpo_mv (a := (eB false)) rfl rfl rfl (o_pick_f tk rfl rfl (Wk.refl _)) ?_
            refine wpo_mv (a := (eB false)) rfl rfl rfl (o_mv tk rfl (Wk.refl _)) ?_
            refine wpo_skip rfl rfl rfl ?_
            refine wpo_skip rfl rfl rfl ?_
            refine wpo_skip rfl rfl rfl ?_
            refine wpo_mv (a := (eB false)) rfl rfl rfl (o_pick_f tk rfl rfl (Wk.refl _)) ?_
            refine wpo_mv (a := (eB false)) rfl rfl rfl (o_mv tk rfl (Wk.refl _)) ?_
            refine wpo_skip rfl rfl rfl ?_
            refine wpo_skip rfl rfl rfl ?_
            refine wpo_skip rfl rfl rfl ?_
            refine wpo_skip rfl rfl rfl ?_
            refine wpo_mv (a := (eB false)) rfl rfl rfl (o_pick_f tk rfl rfl (Wk.refl _)) ?_
            refine wpo_mv (a := (eB false)) rfl rfl rfl (o_mv tk rfl (Wk.refl _)) ?_
            refine wpo_skip rfl rfl rfl ?_
            refine wpo_skip rfl rfl rfl ?_
            refine wpo_skip rfl rfl rfl ?_
            refine wpo_skip rfl rfl rfl ?_
            refine wpo_mv (a := (eB false)) rfl rfl rfl (o_pick_f tk rfl rfl (Wk.refl _)) ?_
            refine wpo_mv (a := (eB false)) rfl rfl rfl (o_as tk rfl (Wk.refl _)) ?_
            refine wpo_nil ?_
            refine awp_ret ?_
            obtain rfl := Option.some.inj H75
            exact ⟨_, (eB false), rfl, (.of_eq rfl), .of_eq ((enc_b td4 sz4).cut _ _ _), (((hH.noT.drop n26).drop n17).drop n8)⟩
        · subst hb
          refine wpo_skip rfl rfl rfl ?_
          refine wpo_skip rfl rfl rfl ?_
          refine wpo_skip rfl rfl rfl ?_
          refine wpo_skip rfl rfl rfl ?_
          refine wpo_skip rfl rfl rfl ?_
          refine wpo_mv (a := (eB false)) rfl rfl rfl (o_pick_f tk rfl rfl (Wk.refl _)) ?_
          refine wpo_mv (a := (eB false)) rfl rfl rfl (o_mv tk rfl (Wk.refl _)) ?_
          refine wpo_skip rfl rfl rfl ?_
          refine wpo_skip rfl rfl rfl ?_
          refine wpo_skip rfl rfl rfl ?_
          refine wpo_mv (a := (eB false)) rfl rfl rfl (o_pick_f tk rfl rfl (Wk.refl _)) ?_
          refine wpo_mv (a := (eB false)) rfl rfl rfl (o_mv tk rfl (Wk.refl _)) ?_
          refine wpo_skip rfl rfl rfl ?_
          refine wpo_skip rfl rfl rfl ?_
          refine wpo_skip rfl rfl rfl ?_
          refine wpo_mv (a := (eB false)) rfl rfl rfl (o_pick_f tk rfl rfl (Wk.refl _)) ?_
          refine wpo_mv (a := (eB false)) rfl rfl rfl (o_mv tk rfl (Wk.refl _)) ?_
          refine wpo_skip rfl rfl rfl ?_
          refine wpo_skip rfl rfl rfl ?_
          refine wpo_skip rfl rfl rfl ?_
          refine wpo_mv (a := (eB false)) rfl rfl rfl (o_pick_f tk rfl rfl (Wk.refl _)) ?_
          refine wpo_mv (a := (eB false)) rfl rfl rfl (o_mv tk rfl (Wk.refl _)) ?_
          refine wpo_skip rfl rfl rfl ?_
          refine wpo_mv (a := (eB false)) rfl rfl rfl (o_pick_f tk rfl rfl (Wk.refl _)) ?_
          refine wpo_mv (a := (eB false)) rfl rfl rfl (o_mv tk rfl (Wk.refl _)) ?_
          refine wpo_skip rfl rfl rfl ?_
          refine wpo_skip rfl rfl rfl ?_
          refine wpo_skip rfl rfl rfl ?_
          refine wpo_mv (a := (eB false)) rfl rfl rfl (o_pick_f tk rfl rfl (Wk.refl _)) ?_
          refine wpo_mv (a := (eB false)) rfl rfl rfl (o_mv tk rfl (Wk.refl _)) ?_
          refine wpo_skip rfl rfl rfl ?_
          refine wpo_skip rfl rfl rfl ?_
          refine wpo_skip rfl rfl rfl ?_
          refine wpo_skip rfl rfl rfl ?_
          refine wpo_mv (a := (eB false)) rfl rfl rfl (o_pick_f tk rfl rfl (Wk.refl _)) ?_
          refine wpo_mv (a := (eB false)) rfl rfl rfl (o_mv tk rfl (Wk.refl _)) ?_
          refine wpo_skip rfl rfl rfl ?_
          refine wpo_skip rfl rfl rfl ?_
          refine wpo_skip rfl rfl rfl ?_
          refine wpo_skip rfl rfl rfl ?_
          refine wpo_mv (a := (eB false)) rfl rfl rfl (o_pick_f tk rfl rfl (Wk.refl _)) ?_
          refine wpo_mv (a := (eB false)) rfl rfl rfl (o_as tk rfl (Wk.refl _)) ?_
          refine wpo_nil ?_
          refine awp_ret ?_
          obtain rfl := Option.some.inj H70
          exact ⟨_, (eB false), rfl, (.of_eq rfl), .of_eq ((enc_b td4 sz4).cut _ _ _), (((hH.noT.drop n26).drop n17).drop n8)⟩
      · subst hb
        refine wpo_skip rfl rfl rfl ?_
        refine wpo_skip rfl rfl rfl ?_
        refine wpo_skip rfl rfl rfl ?_
        refine wpo_skip rfl rfl rfl ?_
        refine wpo_skip rfl rfl rfl ?_
        refine wpo_mv (a := (eB false)) rfl rfl rfl (o_pick_f tk rfl rfl (Wk.refl _)) ?_
        refine wpo_mv (a := (eB false)) rfl rfl rfl (o_mv tk rfl (Wk.refl _)) ?_
        refine wpo_skip rfl rfl rfl ?_
        refine wpo_skip rfl rfl rfl ?_
        refine wpo_skip rfl rfl rfl ?_
        refine wpo_skip rfl rfl rfl ?_
        refine wpo_skip rfl rfl rfl ?_
        refine wpo_mv (a := (eB false)) rfl rfl rfl (o_pick_f tk rfl rfl (Wk.refl _)) ?_
        refine wpo_mv (a := (eB false)) rfl rfl rfl (o_mv tk rfl (Wk.refl _)) ?_
        refine wpo_skip rfl rfl rfl ?_
        refine wpo_skip rfl rfl rfl ?_
        refine wpo_skip rfl rfl rfl ?_
        refine wpo_mv (a := (eB false)) rfl rfl rfl (o_pick_f tk rfl rfl (Wk.refl _)) ?_
        refine wpo_mv (a := (eB false)) rfl rfl rfl (o_mv tk rfl (Wk.refl _)) ?_
        refine wpo_skip rfl rfl rfl ?_
        refine wpo_skip rfl rfl rfl ?_
        refine wpo_skip rfl rfl rfl ?_
        refine wpo_mv (a := (eB false)) rfl rfl rfl (o_pick_f tk rfl rfl (Wk.refl _)) ?_
        refine wpo_mv (a := (eB false)) rfl rfl rfl (o_mv tk rfl (Wk.refl _)) ?_
        refine wpo_skip rfl rfl rfl ?_
        refine wpo_skip rfl rfl rfl ?_
        refine wpo_skip rfl rfl rfl ?_
        refine wpo_mv (a := (eB false)) rfl rfl rfl (o_pick_f tk rfl rfl (Wk.refl _)) ?_
        refine wpo_mv (a := (eB false)) rfl rfl rfl (o_mv tk rfl (Wk.refl _)) ?_
        refine wpo_skip rfl rfl rfl ?_
        refine wpo_mv (a := (eB false)) rfl rfl rfl (o_pick_f tk rfl rfl (Wk.refl _)) ?_
        refine wpo_mv (a := (eB false)) rfl rfl rfl (o_mv tk rfl (Wk.refl _)) ?_
        refine wpo_skip rfl rfl rfl ?_
        refine wpo_skip rfl rfl rfl ?_
        refine wpo_skip rfl rfl rfl ?_
        refine wpo_mv (a := (eB false)) rfl rfl rfl (o_pick_f tk rfl rfl (Wk.refl _)) ?_
        refine wpo_mv (a := (eB false)) rfl rfl rfl (o_mv tk rfl (Wk.refl _)) ?_
        refine wpo_skip rfl rfl rfl ?_
        refine wpo_skip rfl rfl rfl ?_
        refine wpo_skip rfl rfl rfl ?_
        refine wpo_skip rfl rfl rfl ?_
        refine wpo_mv (a := (eB false)) rfl rfl rfl (o_pick_f tk rfl rfl (Wk.refl _)) ?_
        refine wpo_mv (a := (eB false)) rfl rfl rfl (o_mv tk rfl (Wk.refl _)) ?_
        refine wpo_skip rfl rfl rfl ?_
        refine wpo_skip rfl rfl rfl ?_
        refine wpo_skip rfl rfl rfl ?_
        refine wpo_skip rfl rfl rfl ?_
        refine wpo_mv (a := (eB false)) rfl rfl rfl (o_pick_f tk rfl rfl (Wk.refl _)) ?_
        refine wpo_mv (a := (eB false)) rfl rfl rfl (o_as tk rfl (Wk.refl _)) ?_
        refine wpo_nil ?_
        refine awp_ret ?_
        obtain rfl := Option.some.inj H65
        exact ⟨_, (eB false), rfl, (.of_eq rfl), .of_eq ((enc_b td4 sz4).cut _ _ _), (((hH.noT.drop n26).drop n17).drop n8)⟩
  · refine awp_region rfl ?_
    refine wpo_mv (a := ((eL 5 e_api_Entry) v31.1)) rfl rfl rfl (o_mv tk rfl (Wk.refl _)) ?_
    refine wpo_lt hs48 eI rfl rfl rfl (o_len tk td60 rfl) fun v51 H50 => ?_
    refine wpo_lt H50 eB rfl rfl rfl (o_ar tk rfl rfl rfl) fun v53 H52 => ?_
    refine wpo_mv (a := (eB v53)) rfl rfl rfl (o_mv tk rfl (Wk.refl _)) ?_
    refine if_split H52 (fun hb H54 => ?_) (fun hb H54 => ?_)
    · subst hb
      refine wpo_skip rfl rfl rfl ?_
      refine wpo_skip rfl rfl rfl ?_
      refine wpo_skip rfl rfl rfl ?_
      refine wpo_mv (a := (eB true)) rfl rfl rfl (o_pick_t tk rfl rfl (Wk.refl _)) ?_
      refine wpo_nil ?_
      have e := Option.some.inj H54
      subst e
      exact ⟨(wkf_cons (.of_eq rfl) (wkf_cons (.of_eq rfl) (wkf_cons (.of_eq rfl) (wkf_cons (.of_eq rfl) (wkf_cons (.of_eq rfl) (wkf_cons (.of_eq rfl) (wkf_cons (.of_eq rfl) (wkf_nil _)))))))), hH.noT⟩
    · subst hb
      refine wpo_mv (a := ((eL 5 e_api_Entry) v31.2.1)) rfl rfl rfl (o_mv tk rfl (Wk.refl _)) ?_
      refine wpo_lt H54 eI rfl rfl rfl (o_len tk td60 rfl) fun v56 H55 => ?_
      refine wpo_lt H55 eB rfl rfl rfl (o_ar tk rfl rfl rfl) fun v58 H57 => ?_
      refine wpo_mv (a := (eB v58)) rfl rfl rfl (o_pick_f tk rfl rfl (Wk.refl _)) ?_
      refine wpo_nil ?_
      have e := Option.some.inj H57
      subst e
      exact ⟨(wkf_cons (.of_eq rfl) (wkf_cons (.of_eq rfl) (wkf_cons (.of_eq rfl) (wkf_cons (.of_eq rfl) (wkf_cons (.of_eq rfl) (wkf_cons (.of_eq rfl) (wkf_cons (.of_eq rfl) (wkf_nil _)))))))), hH.noT⟩
end Go.Proofs.YtkmlinaofbcbaaaDoor
namespace Go.Proofs.YtkmlinaofbcbaaaDoor
open Go Go.Va
set_option linter.unusedVariables false
set_option linter.unusedSimpArgs false
set_option maxRecDepth 20000
theorem butteryref02_Key_ok {x0 : List (BitVec 8)} {r : Int} (H : butteryref02_Key x0 = some r) (σ : St)  : ACall Tryd.prog 99 [(eS x0)] σ (fun a τ => a = eI r ∧ τ = σ) := by
  unfold butteryref02_Key at H
  refine ACall.pure (acall_start tk Tryd.func99 (by decide) rfl (Nat.le_of_ble_eq_true rfl) ?_)
  have hH := Holds.init σ
  refine awp_seq ?_
  refine awp_region rfl ?_
  refine wpo_mv (a := (eI (0 : Int))) rfl rfl rfl (o_as tk rfl (Wk.refl _)) ?_
  refine wpo_nil ?_
  refine awp_seq ?_
  refine awp_seq ?_
  refine awp_region rfl ?_
  refine wpo_mv (a := (eS x0)) rfl rfl rfl (o_mv tk rfl (Wk.refl _)) ?_
  refine wpo_lt H eB rfl rfl rfl (o_eql_s tk rfl rfl) fun v2 H1 => ?_
  refine wpo_nil ?_
  refine awp_if H1 rfl (fun H3 => ?_) (fun H3 => ?_)
  · refine awp_seq ?_
    refine awp_region rfl ?_
    refine wpo_mv (a := (eI (1 : Int))) rfl rfl rfl (o_as tk rfl (Wk.refl _)) ?_
    refine wpo_nil ?_
    refine awp_ret ?_
    obtain rfl := Option.some.inj H3
    exact ⟨_, (eI (1 : Int)), rfl, (.of_eq rfl), .of_eq ((enc_i64 td33 sz33).cut _ _ _), hH.noT⟩
  · refine awp_skip ?_
    refine awp_seq ?_
    refine awp_seq ?_
    refine awp_region rfl ?_
    refine wpo_mv (a := (eS x0)) rfl rfl rfl (o_mv tk rfl (Wk.refl _)) ?_
    refine wpo_lt H3 eI rfl rfl rfl (o_len_s tk td9 rfl) fun v5 H4 => ?_
    refine wpo_lt H4 eB rfl rfl rfl (o_ar tk rfl rfl rfl) fun v7 H6 => ?_
    refine wpo_nil ?_
    refine awp_if H6 rfl (fun H8 => ?_) (fun H8 => ?_)
    · refine awp_seq ?_
      refine awp_region rfl ?_
      refine wpo_mv (a := (eI (3 : Int))) rfl rfl rfl (o_as tk rfl (Wk.refl _)) ?_
      refine wpo_nil ?_
      refine awp_ret ?_
      obtain rfl := Option.some.inj H8
      exact ⟨_, (eI (3 : Int)), rfl, (.of_eq rfl), .of_eq ((enc_i64 td33 sz33).cut _ _ _), hH.noT⟩
    · refine awp_skip ?_
      refine awp_seq ?_
      refine awp_region rfl ?_
      refine wpo_mv (a := (eI (0 : Int))) rfl rfl rfl (o_as tk rfl (Wk.refl _)) ?_
      refine wpo_nil ?_
      refine awp_ret ?_
      obtain rfl := Option.some.inj H8
      exact ⟨_, (eI (0 : Int)), rfl, (.of_eq rfl), .of_eq ((enc_i64 td33 sz33).cut _ _ _), hH.noT⟩
end Go.Proofs.YtkmlinaofbcbaaaDoor
namespace Go.Proofs.YtkmlinaofbcbaaaDoor
open Go Go.Va
set_option linter.unusedVariables false
set_option linter.unusedSimpArgs false
set_option maxRecDepth 20000
theorem butteryref06_Check_ok {x0 : api_Entry} {r : Int} (H : butteryref06_Check x0 = some r) (σ : St)  : ACall Tryd.prog 36 [(e_api_Entry x0)] σ (fun a τ => a = eI r ∧ τ = σ) := by
  unfold butteryref06_Check at H
  refine ACall.pure (acall_start tk Tryd.func36 (by decide) rfl (Nat.le_of_ble_eq_true rfl) ?_)
  have hH := Holds.init σ
  refine awp_seq ?_
  refine awp_region rfl ?_
  refine wpo_mv (a := (.fptr (c_api_Entry x0) 0)) rfl rfl rfl (o_boxf tk rfl (.of_eq rfl) (b := (e_api_Entry x0)) (enc24.flat _)) ?_
  refine wpo_mv (a := (eI (0 : Int))) rfl rfl rfl (o_as tk rfl (Wk.refl _)) ?_
  refine wpo_nil ?_
  refine awp_seq ?_
  refine awp_seq ?_
  refine awp_region rfl ?_
  refine wpo_mv (a := (.fptr (c_api_Entry x0) 0)) rfl rfl rfl (o_c tk false rfl (fun _ => rfl)) ?_
  refine wpo_mv (a := (eS x0.Key)) rfl rfl rfl (o_ld tk rfl rfl) ?_
  refine wpo_bd H eI rfl rfl rfl (fun v2 hv => OpP.of_call rfl rfl (.cons (.of_eq rfl) .nil) (butteryref02_Key_ok hv)) fun v2 hv2 H1 => ?_
  refine wpo_mv (a := (eI v2)) rfl rfl rfl (o_as tk rfl (Wk.refl _)) ?_
  refine wpo_nil ?_
  refine awp_seq ?_
  refine awp_region rfl ?_
  refine wpo_mv (a := (eI v2)) rfl rfl rfl (o_mv tk rfl (Wk.refl _)) ?_
  refine wpo_lt H1 eB rfl rfl rfl (o_ar tk rfl rfl rfl) fun v4 H3 => ?_
  refine wpo_nil ?_
  refine awp_if H3 rfl (fun H5 => ?_) (fun H5 => ?_)
  · refine awp_seq ?_
    refine awp_region rfl ?_
    refine wpo_mv (a := (eI v2)) rfl rfl rfl (o_mv tk rfl (Wk.refl _)) ?_
    refine wpo_mv (a := (eI v2)) rfl rfl rfl (o_as tk rfl (Wk.refl _)) ?_
    refine wpo_nil ?_
    refine awp_ret ?_
    obtain rfl := Option.some.inj H5
    exact ⟨_, (eI v2), rfl, (.of_eq rfl), .of_eq ((enc_i64 td33 sz33).cut _ _ _), hH.noT⟩
  · refine awp_skip ?_
    refine awp_seq ?_
    refine awp_seq ?_
    obtain ⟨s6, hs8, hj9⟩ := Option.bind_eq_some_iff.1 H5
    refine awp_cutn (fun fr τ => WkF fr (fm [(1, (.fptr (c_api_Entry x0) 0)), (39, (eB s6))]) ∧ Holds σ [] [] τ) ?_ ?_
    · rintro fr τ ⟨hfr, hH⟩
      have H27 := hj9
      refine AWP.fm [(1, (.fptr (c_api_Entry x0) 0)), (39, (eB s6))] hfr ?_
      refine awp_if H27 rfl (fun H28 => ?_) (fun H28 => ?_)
      · refine awp_seq ?_
        refine awp_region rfl ?_
        refine wpo_mv (a := (eI (2 : Int))) rfl rfl rfl (o_as tk rfl (Wk.refl _)) ?_
        refine wpo_nil ?_
        refine awp_ret ?_
        obtain rfl := Option.some.inj H28
        exact ⟨_, (eI (2 : Int)), rfl, (.of_eq rfl), .of_eq ((enc_i64 td33 sz33).cut _ _ _), hH.noT⟩
      · refine awp_skip ?_
        refine awp_seq ?_
        refine awp_seq ?_
        refine awp_region rfl ?_
        refine wpo_mv (a := (.fptr (c_api_Entry x0) 4)) rfl rfl rfl (o_c tk false rfl (fun _ => rfl)) ?_
        refine wpo_mv (a := ((eL 1 (@eU .u8 8)) x0.Value)) rfl rfl rfl (o_ld tk rfl rfl) ?_
        refine wpo_lt H28 eI rfl rfl rfl (o_len tk td22 rfl) fun v30 H29 => ?_
        refine wpo_lt H29 eB rfl rfl rfl (o_ar tk rfl rfl rfl) fun v32 H31 => ?_
        refine wpo_nil ?_
        refine awp_if H31 rfl (fun H33 => ?_) (fun H33 => ?_)
        · refine awp_seq ?_
          refine awp_region rfl ?_
          refine wpo_mv (a := (eI (3 : Int))) rfl rfl rfl (o_as tk rfl (Wk.refl _)) ?_
          refine wpo_nil ?_
          refine awp_ret ?_
          obtain rfl := Option.some.inj H33
          exact ⟨_, (eI (3 : Int)), rfl, (.of_eq rfl), .of_eq ((enc_i64 td33 sz33).cut _ _ _), hH.noT⟩
        · refine awp_skip ?_
          refine awp_seq ?_
          refine awp_region rfl ?_
          refine wpo_mv (a := (eI (0 : Int))) rfl rfl rfl (o_as tk rfl (Wk.refl _)) ?_
          refine wpo_nil ?_
          refine awp_ret ?_
          obtain rfl := Option.some.inj H33
          exact ⟨_, (eI (0 : Int)), rfl, (.of_eq rfl), .of_eq ((enc_i64 td33 sz33).cut _ _ _), hH.noT⟩
    · refine awp_region rfl ?_
      refine wpo_mv (a := (.fptr (c_api_Entry x0) 1)) rfl rfl rfl (o_c tk false rfl (fun _ => rfl)) ?_
      refine wpo_mv (a := (eI x0.Version)) rfl rfl rfl (o_ld tk rfl rfl) ?_
      refine wpo_lt hs8 eB rfl rfl rfl (o_ar tk rfl rfl rfl) fun v11 H10 => ?_
      refine wpo_mv (a := (eB v11)) rfl rfl rfl (o_mv tk rfl (Wk.refl _)) ?_
      refine if_split H10 (fun hb H12 => ?_) (fun hb H12 => ?_)
      · subst hb
        refine wpo_skip rfl rfl rfl ?_
        refine wpo_skip rfl rfl rfl ?_
        refine wpo_skip rfl rfl rfl ?_
        refine wpo_mv (a := (eB true)) rfl rfl rfl (o_pick_t tk rfl rfl (Wk.refl _)) ?_
        refine wpo_mv (a := (eB true)) rfl rfl rfl (o_mv tk rfl (Wk.refl _)) ?_
        refine wpo_skip rfl rfl rfl ?_
        refine wpo_skip rfl rfl rfl ?_
        refine wpo_skip rfl rfl rfl ?_
        refine wpo_skip rfl rfl rfl ?_
        refine wpo_skip rfl rfl rfl ?_
        refine wpo_mv (a := (eB true)) rfl rfl rfl (o_pick_t tk rfl rfl (Wk.refl _)) ?_
        refine wpo_mv (a := (eB true)) rfl rfl rfl (o_mv tk rfl (Wk.refl _)) ?_
        refine wpo_skip rfl rfl rfl ?_
        refine wpo_skip rfl rfl rfl ?_
        refine wpo_skip rfl rfl rfl ?_
        refine wpo_mv (a := (eB true)) rfl rfl rfl (o_pick_t tk rfl rfl (Wk.refl _)) ?_
        refine wpo_mv (a := (eB true)) rfl rfl rfl (o_mv tk rfl (Wk.refl _)) ?_
        refine wpo_skip rfl rfl rfl ?_
        refine wpo_skip rfl rfl rfl ?_
        refine wpo_skip rfl rfl rfl ?_
        refine wpo_mv (a := (eB true)) rfl rfl rfl (o_pick_t tk rfl rfl (Wk.refl _)) ?_
        refine wpo_mv (a := (eB true)) rfl rfl rfl (o_mv tk rfl (Wk.refl _)) ?_
        refine wpo_skip rfl rfl rfl ?_
        refine wpo_skip rfl rfl rfl ?_
        refine wpo_skip rfl rfl rfl ?_
        refine wpo_mv (a := (eB true)) rfl rfl rfl (o_pick_t tk rfl rfl (Wk.refl _)) ?_
        refine wpo_nil ?_
        have e := Option.some.inj H12
        subst e
        exact ⟨(wkf_cons (.of_eq rfl) (wkf_cons (.of_eq rfl) (wkf_nil _))), hH⟩
      · subst hb
        refine wpo_mv (a := (.fptr (c_api_Entry x0) 1)) rfl rfl rfl (o_c tk false rfl (fun _ => rfl)) ?_
        refine wpo_mv (a := (eI x0.Version)) rfl rfl rfl (o_ld tk rfl rfl) ?_
        refine wpo_lt H12 eB rfl rfl rfl (o_ar tk rfl rfl rfl) fun v14 H13 => ?_
        refine wpo_mv (a := (eB v14)) rfl rfl rfl (o_pick_f tk rfl rfl (Wk.refl _)) ?_
        refine wpo_mv (a := (eB v14)) rfl rfl rfl (o_mv tk rfl (Wk.refl _)) ?_
        refine if_split H13 (fun hb H15 => ?_) (fun hb H15 => ?_)
        · subst hb
          refine wpo_skip rfl rfl rfl ?_
          refine wpo_skip rfl rfl rfl ?_
          refine wpo_skip rfl rfl rfl ?_
          refine wpo_skip rfl rfl rfl ?_
          refine wpo_skip rfl rfl rfl ?_
          refine wpo_mv (a := (eB true)) rfl rfl rfl (o_pick_t tk rfl rfl (Wk.refl _)) ?_
          refine wpo_mv (a := (eB true)) rfl rfl rfl (o_mv tk rfl (Wk.refl _)) ?_
          refine wpo_skip rfl rfl rfl ?_
          refine wpo_skip rfl rfl rfl ?_
          refine wpo_skip rfl rfl rfl ?_
          refine wpo_mv (a := (eB true)) rfl rfl rfl (o_pick_t tk rfl rfl (Wk.refl _)) ?_
          refine wpo_mv (a := (eB true)) rfl rfl rfl (o_mv tk rfl (Wk.refl _)) ?_
          refine wpo_skip rfl rfl rfl ?_
          refine wpo_skip rfl rfl rfl ?_
          refine wpo_skip rfl rfl rfl ?_
          refine wpo_mv (a := (eB true)) rfl rfl rfl (o_pick_t tk rfl rfl (Wk.refl _)) ?_
          refine wpo_mv (a := (eB true)) rfl rfl rfl (o_mv tk rfl (Wk.refl _)) ?_
          refine wpo_skip rfl rfl rfl ?_
          refine wpo_skip rfl rfl rfl ?_
          refine wpo_skip rfl rfl rfl ?_
          refine wpo_mv (a := (eB true)) rfl rfl rfl (o_pick_t tk rfl rfl (Wk.refl _)) ?_
          refine wpo_nil ?_
          have e := Option.some.inj H15
          subst e
          exact ⟨(wkf_cons (.of_eq rfl) (wkf_cons (.of_eq rfl) (wkf_nil _))), hH⟩
        · subst hb
          refine wpo_mv (a := (.fptr (c_api_Entry x0) 2)) rfl rfl rfl (o_c tk false rfl (fun _ => rfl)) ?_
          refine wpo_mv (a := (eI x0.AsOf)) rfl rfl rfl (o_ld tk rfl rfl) ?_
          refine wpo_mv (a := (.fptr (c_api_Entry x0) 1)) rfl rfl rfl (o_c tk false rfl (fun _ => rfl)) ?_
          refine wpo_mv (a := (eI x0.Version)) rfl rfl rfl (o_ld tk rfl rfl) ?_
          refine wpo_lt H15 eB rfl rfl rfl (o_ar tk rfl rfl rfl) fun v17 H16 => ?_
          refine wpo_mv (a := (eB v17)) rfl rfl rfl (o_pick_f tk rfl rfl (Wk.refl _)) ?_
          refine wpo_mv (a := (eB v17)) rfl rfl rfl (o_mv tk rfl (Wk.refl _)) ?_
          refine if_split H16 (fun hb H18 => ?_) (fun hb H18 => ?_)
          · subst hb
            refine wpo_skip rfl rfl rfl ?_
            refine wpo_skip rfl rfl rfl ?_
            refine wpo_skip rfl rfl rfl ?_
            refine wpo_mv (a := (eB true)) rfl rfl rfl (o_pick_t tk rfl rfl (Wk.refl _)) ?_
            refine wpo_mv (a := (eB true)) rfl rfl rfl (o_mv tk rfl (Wk.refl _)) ?_
            refine wpo_skip rfl rfl rfl ?_
            refine wpo_skip rfl rfl rfl ?_
            refine wpo_skip rfl rfl rfl ?_
            refine wpo_mv (a := (eB true)) rfl rfl rfl (o_pick_t tk rfl rfl (Wk.refl _)) ?_
            refine wpo_mv (a := (eB true)) rfl rfl rfl (o_mv tk rfl (Wk.refl _)) ?_
            refine wpo_skip rfl rfl rfl ?_
            refine wpo_skip rfl rfl rfl ?_
            refine wpo_skip rfl rfl rfl ?_
            refine wpo_mv (a := (eB true)) rfl rfl rfl (o_pick_t tk rfl rfl (Wk.refl _)) ?_
            refine wpo_nil ?_
            have e := Option.some.inj H18
            subst e
            exact ⟨(wkf_cons (.of_eq rfl) (wkf_cons (.of_eq rfl) (wkf_nil _))), hH⟩
          · subst hb
            refine wpo_mv (a := (.fptr (c_api_Entry x0) 2)) rfl rfl rfl (o_c tk false rfl (fun _ => rfl)) ?_
            refine wpo_mv (a := (eI x0.AsOf)) rfl rfl rfl (o_ld tk rfl rfl) ?_
            refine wpo_lt H18 eB rfl rfl rfl (o_ar tk rfl rfl rfl) fun v20 H19 => ?_
            refine wpo_mv (a := (eB v20)) rfl rfl rfl (o_pick_f tk rfl rfl (Wk.refl _)) ?_
            refine wpo_mv (a := (eB v20)) rfl rfl rfl (o_mv tk rfl (Wk.refl _)) ?_
            refine if_split H19 (fun hb H21 => ?_) (fun hb H21 => ?_)
            · subst hb
              refine wpo_skip rfl rfl rfl ?_
              refine wpo_skip rfl rfl rfl ?_
              refine wpo_skip rfl rfl rfl ?_
              refine wpo_mv (a := (eB true)) rfl rfl rfl (o_pick_t tk rfl rfl (Wk.refl _)) ?_
              refine wpo_mv (a := (eB true)) rfl rfl rfl (o_mv tk rfl (Wk.refl _)) ?_
              refine wpo_skip rfl rfl rfl ?_
              refine wpo_skip rfl rfl rfl ?_
              refine wpo_skip rfl rfl rfl ?_
              refine wpo_mv (a := (eB true)) rfl rfl rfl (o_pick_t tk rfl rfl (Wk.refl _)) ?_
              refine wpo_nil ?_
              have e := Option.some.inj H21
              subst e
              exact ⟨(wkf_cons (.of_eq rfl) (wkf_cons (.of_eq rfl) (wkf_nil _))), hH⟩
            · subst hb
              refine wpo_mv (a := (.fptr (c_api_Entry x0) 3)) rfl rfl rfl (o_c tk false rfl (fun _ => rfl)) ?_
              refine wpo_mv (a := (eI x0.Ends)) rfl rfl rfl (o_ld tk rfl rfl) ?_
              refine wpo_lt H21 eB rfl rfl rfl (o_ar tk rfl rfl rfl) fun v23 H22 => ?_
              refine wpo_mv (a := (eB v23)) rfl rfl rfl (o_pick_f tk rfl rfl (Wk.refl _)) ?_
              refine wpo_mv (a := (eB v23)) rfl rfl rfl (o_mv tk rfl (Wk.refl _)) ?_
              refine if_split H22 (fun hb H24 => ?_) (fun hb H24 => ?_)
              · subst hb
                refine wpo_skip rfl rfl rfl ?_
                refine wpo_skip rfl rfl rfl ?_
                refine wpo_skip rfl rfl rfl ?_
                refine wpo_mv (a := (eB true)) rfl rfl rfl (o_pick_t tk rfl rfl (Wk.refl _)) ?_
                refine wpo_nil ?_
                have e := Option.some.inj H24
                subst e
                exact ⟨(wkf_cons (.of_eq rfl) (wkf_cons (.of_eq rfl) (wkf_nil _))), hH⟩
              · subst hb
                refine wpo_mv (a := (.fptr (c_api_Entry x0) 3)) rfl rfl rfl (o_c tk false rfl (fun _ => rfl)) ?_
                refine wpo_mv (a := (eI x0.Ends)) rfl rfl rfl (o_ld tk rfl rfl) ?_
                refine wpo_lt H24 eB rfl rfl rfl (o_ar tk rfl rfl rfl) fun v26 H25 => ?_
                refine wpo_mv (a := (eB v26)) rfl rfl rfl (o_pick_f tk rfl rfl (Wk.refl _)) ?_
                refine wpo_nil ?_
                have e := Option.some.inj H25
                subst e
                exact ⟨(wkf_cons (.of_eq rfl) (wkf_cons (.of_eq rfl) (wkf_nil _))), hH⟩
end Go.Proofs.YtkmlinaofbcbaaaDoor
namespace Go.Proofs.YtkmlinaofbcbaaaDoor
open Go Go.Va
set_option linter.unusedVariables false
set_option linter.unusedSimpArgs false
set_option maxRecDepth 20000
theorem butteryref06_Find_ok {x0 : List api_Entry} {x1 : List (BitVec 8)} {r : Int} (H : butteryref06_Find x0 x1 = some r) (σ : St)  : ACall Tryd.prog 49 [((eL 5 e_api_Entry) x0), (eS x1)] σ (fun a τ => a = eI r ∧ τ = σ) := by
  unfold butteryref06_Find at H
  refine ACall.pure (acall_start tk Tryd.func49 (by decide) rfl (Nat.le_of_ble_eq_true rfl) ?_)
  have hH := Holds.init σ
  refine awp_seq ?_
  refine awp_region rfl ?_
  refine wpo_mv (a := (eI (0 : Int))) rfl rfl rfl (o_as tk rfl (Wk.refl _)) ?_
  refine wpo_nil ?_
  refine awp_seq ?_
  refine awp_seq ?_
  refine awp_region rfl ?_
  refine wpo_mv (a := (eI (0 : Int))) rfl rfl rfl (o_as tk rfl (Wk.refl _)) ?_
  refine wpo_nil ?_
  refine awp_block ?_
  obtain ⟨o2, hs3, hj4⟩ := Option.bind_eq_some_iff.1 H
  refine awp_cutx 0 (fun fr τ => ∃ s9 : Unit, o2 = .inl s9 ∧ WkF fr (fm []) ∧ Holds σ [] [] τ) ?_ ?_
  · rintro fr τ ⟨s9, rfl, hfr, hH⟩
    have H24 := hj4
    simp only [Sum.elim_inl] at H24
    refine AWP.fm [] hfr ?_
    refine awp_seq ?_
    refine awp_region rfl ?_
    refine wpo_mv (a := (eI (-1 : Int))) rfl rfl rfl (o_as tk rfl (Wk.refl _)) ?_
    refine wpo_nil ?_
    refine awp_ret ?_
    obtain rfl := Option.some.inj H24
    exact ⟨_, (eI (-1 : Int)), rfl, (.of_eq rfl), .of_eq ((enc_i64 td3 sz3).cut _ _ _), hH.noT⟩
  · refine awp_loopO (body := fun s => butteryref06_Find_b0 x0 x1 s) hs3 (fun (s : Int) fr τ => WkF fr (fm [(0, ((eL 5 e_api_Entry) x0)), (1, (eS x1)), (5, (eI s))]) ∧ Holds σ [] [] τ) ⟨(wkf_cons (.of_eq rfl) (wkf_cons (.of_eq rfl) (wkf_cons (.of_eq rfl) (wkf_nil _)))), hH⟩ ?_
    rintro c1 fr τ y5 ⟨hfr, hH⟩ hb7 hy8
    have H10 : butteryref06_Find_b0 x0 x1 c1 = some y5 := hb7
    unfold butteryref06_Find_b0 at H10
    refine AWP.fm [(0, ((eL 5 e_api_Entry) x0)), (1, (eS x1)), (5, (eI c1))] hfr ?_
    have hH : Holds σ [] [] τ := hH
    refine awp_seq ?_
    refine awp_seq ?_
    refine awp_region rfl ?_
    refine wpo_mv (a := (eI c1)) rfl rfl rfl (o_mv tk rfl (Wk.refl _)) ?_
    refine wpo_mv (a := ((eL 5 e_api_Entry) x0)) rfl rfl rfl (o_mv tk rfl (Wk.refl _)) ?_
    refine wpo_lt H10 eI rfl rfl rfl (o_len tk td60 rfl) fun v12 H11 => ?_
    refine wpo_lt H11 eB rfl rfl rfl (o_ar tk rfl rfl rfl) fun v14 H13 => ?_
    refine wpo_nil ?_
    refine awp_if H13 rfl (fun H15 => ?_) (fun H15 => ?_)
    · refine awp_skip ?_
      refine awp_seq ?_
      refine awp_block ?_
      refine awp_seq ?_
      refine awp_region rfl ?_
      refine wpo_mv (a := ((eL 5 e_api_Entry) x0)) rfl rfl rfl (o_mv tk rfl (Wk.refl _)) ?_
      refine wpo_mv (a := (eI c1)) rfl rfl rfl (o_mv tk rfl (Wk.refl _)) ?_
      refine wpo_bd H15 (fun y => .fptr (e_api_Entry y).cells 0) rfl rfl rfl (fun v17 hv => o_ixa tk hv td60 enc24 rfl rfl) fun v17 hv17 H16 => ?_
      refine wpo_mv (a := (.fptr (c_api_Entry v17) 0)) rfl rfl rfl (o_c tk false rfl (fun _ => rfl)) ?_
      refine wpo_mv (a := (eS v17.Key)) rfl rfl rfl (o_ld tk rfl rfl) ?_
      refine wpo_mv (a := (eS x1)) rfl rfl rfl (o_mv tk rfl (Wk.refl _)) ?_
      refine wpo_lt H16 eB rfl rfl rfl (o_eql_s tk rfl rfl) fun v19 H18 => ?_
      refine wpo_nil ?_
      refine awp_if H18 rfl (fun H20 => ?_) (fun H20 => ?_)
      · refine awp_seq ?_
        refine awp_region rfl ?_
        refine wpo_mv (a := (eI c1)) rfl rfl rfl (o_mv tk rfl (Wk.refl _)) ?_
        refine wpo_mv (a := (eI c1)) rfl rfl rfl (o_as tk rfl (Wk.refl _)) ?_
        refine wpo_nil ?_
        refine awp_ret ?_
        have hz := hy8 _ (inj_inr H20)
        refine ⟨⟨_, inj_inr H20⟩, ?_⟩
        rw [← hz] at hj4
        have H21 := (show some _ = some _ from hj4)
        obtain rfl := Option.some.inj H21
        exact ⟨_, (eI c1), rfl, (.of_eq rfl), .of_eq ((enc_i64 td3 sz3).cut _ _ _), hH.noT⟩
      · refine awp_skip ?_
        refine awp_region rfl ?_
        refine wpo_mv (a := (eI c1)) rfl rfl rfl (o_mv tk rfl (Wk.refl _)) ?_
        refine wpo_lt H20 eI rfl rfl rfl (o_ar tk rfl rfl rfl) fun v23 H22 => ?_
        refine wpo_mv (a := (eI v23)) rfl rfl rfl (o_as tk rfl (Wk.refl _)) ?_
        refine wpo_nil ?_
        exact ⟨v23, inj_inl H22, (wkf_cons (.of_eq rfl) (wkf_cons (.of_eq rfl) (wkf_cons (.of_eq rfl) (wkf_nil _)))), hH⟩
    · refine awp_exit ?_
      have hz := hy8 _ (inj_inr H15)
      exact ⟨⟨_, inj_inr H15⟩, (), hz.symm, (wkf_nil _), hH⟩
end Go.Proofs.YtkmlinaofbcbaaaDoor
namespace Go.Proofs.YtkmlinaofbcbaaaDoor
open Go Go.Va
set_option linter.unusedVariables false
set_option linter.unusedSimpArgs false
set_option maxRecDepth 20000
theorem butterylaw12_right_ok {x0 : List api_Entry} {r : Bool} (H : butterylaw12_right x0 = some r) (σ : St)  : ACall Tryd.prog 42 [((eL 5 e_api_Entry) x0)] σ (fun a τ => a = eB r ∧ τ = σ) := by
  unfold butterylaw12_right at H
  refine ACall.pure (acall_start tk Tryd.func42 (by decide) rfl (Nat.le_of_ble_eq_true rfl) ?_)
  have hH := Holds.init σ
  refine awp_seq ?_
  refine awp_region rfl ?_
  refine wpo_mv (a := (eB false)) rfl rfl rfl (o_as tk rfl (Wk.refl _)) ?_
  refine wpo_nil ?_
  refine awp_seq ?_
  refine awp_seq ?_
  refine awp_region rfl ?_
  refine wpo_mv (a := (eI (0 : Int))) rfl rfl rfl (o_as tk rfl (Wk.refl _)) ?_
  refine wpo_nil ?_
  refine awp_block ?_
  obtain ⟨o2, hs3, hj4⟩ := Option.bind_eq_some_iff.1 H
  refine awp_cutx 0 (fun fr τ => ∃ s9 : Unit, o2 = .inl s9 ∧ WkF fr (fm []) ∧ Holds σ [] [] τ) ?_ ?_
  · rintro fr τ ⟨s9, rfl, hfr, hH⟩
    have H38 := hj4
    simp only [Sum.elim_inl] at H38
    refine AWP.fm [] hfr ?_
    refine awp_seq ?_
    refine awp_region rfl ?_
    refine wpo_mv (a := (eB true)) rfl rfl rfl (o_as tk rfl (Wk.refl _)) ?_
    refine wpo_nil ?_
    refine awp_ret ?_
    obtain rfl := Option.some.inj H38
    exact ⟨_, (eB true), rfl, (.of_eq rfl), .of_eq ((enc_b td4 sz4).cut _ _ _), hH.noT⟩
  · refine awp_loopO (body := fun s => butterylaw12_right_b0 x0 s) hs3 (fun (s : Int) fr τ => WkF fr (fm [(0, ((eL 5 e_api_Entry) x0)), (3, (eI s))]) ∧ Holds σ [] [] τ) ⟨(wkf_cons (.of_eq rfl) (wkf_cons (.of_eq rfl) (wkf_nil _))), hH⟩ ?_
    rintro c1 fr τ y5 ⟨hfr, hH⟩ hb7 hy8
    have H10 : butterylaw12_right_b0 x0 c1 = some y5 := hb7
    unfold butterylaw12_right_b0 at H10
    refine AWP.fm [(0, ((eL 5 e_api_Entry) x0)), (3, (eI c1))] hfr ?_
    have hH : Holds σ [] [] τ := hH
    refine awp_seq ?_
    refine awp_seq ?_
    refine awp_region rfl ?_
    refine wpo_mv (a := (eI c1)) rfl rfl rfl (o_mv tk rfl (Wk.refl _)) ?_
    refine wpo_mv (a := ((eL 5 e_api_Entry) x0)) rfl rfl rfl (o_mv tk rfl (Wk.refl _)) ?_
    refine wpo_lt H10 eI rfl rfl rfl (o_len tk td60 rfl) fun v12 H11 => ?_
    refine wpo_lt H11 eB rfl rfl rfl (o_ar tk rfl rfl rfl) fun v14 H13 => ?_
    refine wpo_nil ?_
    refine awp_if H13 rfl (fun H15 => ?_) (fun H15 => ?_)
    · refine awp_skip ?_
      refine awp_seq ?_
      refine awp_block ?_
      refine awp_seq ?_
      obtain ⟨s16, hs18, hj19⟩ := Option.bind_eq_some_iff.1 H15
      refine awp_cutn (fun fr τ => WkF fr (fm [(0, ((eL 5 e_api_Entry) x0)), (3, (eI c1)), (26, (eB s16))]) ∧ Holds σ [] [] τ) ?_ ?_
      · rintro fr τ ⟨hfr, hH⟩
        have H33 := hj19
        refine AWP.fm [(0, ((eL 5 e_api_Entry) x0)), (3, (eI c1)), (26, (eB s16))] hfr ?_
        refine awp_if H33 rfl (fun H34 => ?_) (fun H34 => ?_)
        · refine awp_seq ?_
          refine awp_region rfl ?_
          refine wpo_mv (a := (eB false)) rfl rfl rfl (o_as tk rfl (Wk.refl _)) ?_
          refine wpo_nil ?_
          refine awp_ret ?_
          have hz := hy8 _ (inj_inr H34)
          refine ⟨⟨_, inj_inr H34⟩, ?_⟩
          rw [← hz] at hj4
          have H35 := (show some _ = some _ from hj4)
          obtain rfl := Option.some.inj H35
          exact ⟨_, (eB false), rfl, (.of_eq rfl), .of_eq ((enc_b td4 sz4).cut _ _ _), hH.noT⟩
        · refine awp_skip ?_
          refine awp_region rfl ?_
          refine wpo_mv (a := (eI c1)) rfl rfl rfl (o_mv tk rfl (Wk.refl _)) ?_
          refine wpo_lt H34 eI rfl rfl rfl (o_ar tk rfl rfl rfl) fun v37 H36 => ?_
          refine wpo_mv (a := (eI v37)) rfl rfl rfl (o_as tk rfl (Wk.refl _)) ?_
          refine wpo_nil ?_
          exact ⟨v37, inj_inl H36, (wkf_cons (.of_eq rfl) (wkf_cons (.of_eq rfl) (wkf_nil _))), hH⟩
      · refine awp_region rfl ?_
        refine wpo_mv (a := ((eL 5 e_api_Entry) x0)) rfl rfl rfl (o_mv tk rfl (Wk.refl _)) ?_
        refine wpo_mv (a := (eI c1)) rfl rfl rfl (o_mv tk rfl (Wk.refl _)) ?_
        refine wpo_bd hs18 (fun y => .fptr (e_api_Entry y).cells 0) rfl rfl rfl (fun v21 hv => o_ixa tk hv td60 enc24 rfl rfl) fun v21 hv21 H20 => ?_
        refine wpo_mv (a := (e_api_Entry v21)) rfl rfl rfl (o_ld_e tk enc24 rfl rfl) ?_
        refine wpo_bd H20 eI rfl rfl rfl (fun v23 hv => OpP.of_call rfl rfl (.cons (.of_eq rfl) .nil) (butteryref06_Check_ok hv)) fun v23 hv23 H22 => ?_
        refine wpo_lt H22 eB rfl rfl rfl (o_ar tk rfl rfl rfl) fun v25 H24 => ?_
        refine wpo_mv (a := (eB v25)) rfl rfl rfl (o_mv tk rfl (Wk.refl _)) ?_
        refine if_split H24 (fun hb H26 => ?_) (fun hb H26 => ?_)
        · subst hb
          refine wpo_skip rfl rfl rfl ?_
          refine wpo_skip rfl rfl rfl ?_
          refine wpo_skip rfl rfl rfl ?_
          refine wpo_skip rfl rfl rfl ?_
          refine wpo_skip rfl rfl rfl ?_
          refine wpo_skip rfl rfl rfl ?_
          refine wpo_skip rfl rfl rfl ?_
          refine wpo_skip rfl rfl rfl ?_
          refine wpo_skip rfl rfl rfl ?_
          refine wpo_mv (a := (eB true)) rfl rfl rfl (o_pick_t tk rfl rfl (Wk.refl _)) ?_
          refine wpo_nil ?_
          have e := Option.some.inj H26
          subst e
          exact ⟨(wkf_cons (.of_eq rfl) (wkf_cons (.of_eq rfl) (wkf_cons (.of_eq rfl) (wkf_nil _)))), hH⟩
        · subst hb
          refine wpo_mv (a := ((eL 5 e_api_Entry) x0)) rfl rfl rfl (o_mv tk rfl (Wk.refl _)) ?_
          refine wpo_mv (a := ((eL 5 e_api_Entry) x0)) rfl rfl rfl (o_mv tk rfl (Wk.refl _)) ?_
          refine wpo_mv (a := (eI c1)) rfl rfl rfl (o_mv tk rfl (Wk.refl _)) ?_
          refine wpo_bd H26 (fun y => .fptr (e_api_Entry y).cells 0) rfl rfl rfl (fun v28 hv => o_ixa tk hv td60 enc24 rfl rfl) fun v28 hv28 H27 => ?_
          refine wpo_mv (a := (.fptr (c_api_Entry v28) 0)) rfl rfl rfl (o_c tk false rfl (fun _ => rfl)) ?_
          refine wpo_mv (a := (eS v28.Key)) rfl rfl rfl (o_ld tk rfl rfl) ?_
          refine wpo_bd H27 eI rfl rfl rfl (fun v30 hv => OpP.of_call rfl rfl (.cons (.of_eq rfl) (.cons (.of_eq rfl) .nil)) (butteryref06_Find_ok hv)) fun v30 hv30 H29 => ?_
          refine wpo_mv (a := (eI c1)) rfl rfl rfl (o_mv tk rfl (Wk.refl _)) ?_
          refine wpo_lt H29 eB rfl rfl rfl (o_ar tk rfl rfl rfl) fun v32 H31 => ?_
          refine wpo_mv (a := (eB v32)) rfl rfl rfl (o_pick_f tk rfl rfl (Wk.refl _)) ?_
          refine wpo_nil ?_
          have e := Option.some.inj H31
          subst e
          exact ⟨(wkf_cons (.of_eq rfl) (wkf_cons (.of_eq rfl) (wkf_cons (.of_eq rfl) (wkf_nil _)))), hH⟩
    · refine awp_exit ?_
      have hz := hy8 _ (inj_inr H15)
      exact ⟨⟨_, inj_inr H15⟩, (), hz.symm, (wkf_nil _), hH⟩
end Go.Proofs.YtkmlinaofbcbaaaDoor
namespace Go.Proofs.YtkmlinaofbcbaaaDoor
open Go Go.Va
set_option linter.unusedVariables false
set_option linter.unusedSimpArgs false
set_option maxRecDepth 20000
theorem butteryref12_But_app {x0 : List api_Entry} {x1 : List (BitVec 8)} {r : (List api_Entry)} (H : butteryref12_But x0 x1 = some r) (σ : St)  : ACall Tryd.prog 48 [((eL 5 e_api_Entry) x0), (eS x1)] σ (fun a τ => a = .sl (.own σ.opn.length) 5 (r.map e_api_Entry) ∧ τ = σ.more) := by
  unfold butteryref12_But at H
  refine ACall.app (fun ρ κ => cutL_enc enc24.cut ρ κ r) (acall_start tk Tryd.func48 (by decide) rfl (Nat.le_of_ble_eq_true rfl) ?_)
  have hH := Holds.init σ
  refine awp_seq ?_
  refine awp_region rfl ?_
  refine wpo_mv (a := AV.nils) rfl rfl rfl (o_as tk rfl (Wk.refl _)) ?_
  refine wpo_nil ?_
  refine awp_seq ?_
  refine awp_region rfl ?_
  refine wpo_mv (a := AV.nils) rfl rfl rfl (o_as tk rfl (Wk.refl _)) ?_
  refine wpo_nil ?_
  refine awp_seq ?_
  refine awp_seq ?_
  refine awp_region rfl ?_
  refine wpo_mv (a := (eI (0 : Int))) rfl rfl rfl (o_as tk rfl (Wk.refl _)) ?_
  refine wpo_nil ?_
  refine awp_block ?_
  refine AWP.tokN hH 5 5 rfl fun tk3 τ hH => ?_
  obtain ⟨s11, hs5, hj6⟩ := Option.bind_eq_some_iff.1 H
  refine awp_cutx 0 (fun fr τ => ∃ tk_5, WkF fr (fm [(5, (eT tk_5 5 e_api_Entry s11))]) ∧ Holds σ [] [tk_5] τ) ?_ ?_
  · rintro fr τ ⟨tk_5, hfr, hH⟩
    have H35 := hj6
    refine AWP.fm [(5, (eT tk_5 5 e_api_Entry s11))] hfr ?_
    refine awp_seq ?_
    refine awp_region rfl ?_
    refine wpo_mv (a := (eT tk_5 5 e_api_Entry s11)) rfl rfl rfl (o_mv tk rfl (Wk.refl _)) ?_
    refine wpo_mv (a := (eT tk_5 5 e_api_Entry s11)) rfl rfl rfl (o_as tk rfl (Wk.refl _)) ?_
    refine wpo_nil ?_
    refine awp_ret ?_
    obtain rfl := Option.some.inj H35
    exact ⟨_, (eT tk_5 5 e_api_Entry s11), rfl, .of_eq rfl, tk_5, rfl, hH⟩
  · refine awp_loopO (body := fun s => butteryref12_But_b0 x0 x1 s.1 s.2) hs5 (fun (s : (List api_Entry) × Int) fr τ => ∃ tk_5, WkF fr (fm [(0, ((eL 5 e_api_Entry) x0)), (1, (eS x1)), (5, (eT tk_5 5 e_api_Entry s.1)), (6, (eI s.2))]) ∧ Holds σ [] [tk_5] τ) ⟨tk3, (wkf_cons (.of_eq rfl) (wkf_cons (.of_eq rfl) (wkf_cons (.of_eq rfl) (wkf_cons (.of_eq rfl) (wkf_nil _))))), hH⟩ ?_
    rintro ⟨c1, c2⟩ fr τ y7 ⟨tk_5, hfr, hH⟩ hb9 hy10
    have H12 : butteryref12_But_b0 x0 x1 c1 c2 = some y7 := hb9
    unfold butteryref12_But_b0 at H12
    refine AWP.fm [(0, ((eL 5 e_api_Entry) x0)), (1, (eS x1)), (5, (eT tk_5 5 e_api_Entry c1)), (6, (eI c2))] hfr ?_
    have hH : Holds σ [] [tk_5] τ := hH
    refine awp_seq ?_
    refine awp_seq ?_
    refine awp_region rfl ?_
    refine wpo_mv (a := (eI c2)) rfl rfl rfl (o_mv tk rfl (Wk.refl _)) ?_
    refine wpo_mv (a := ((eL 5 e_api_Entry) x0)) rfl rfl rfl (o_mv tk rfl (Wk.refl _)) ?_
    refine wpo_lt H12 eI rfl rfl rfl (o_len tk td60 rfl) fun v14 H13 => ?_
    refine wpo_lt H13 eB rfl rfl rfl (o_ar tk rfl rfl rfl) fun v16 H15 => ?_
    refine wpo_nil ?_
    refine awp_if H15 rfl (fun H17 => ?_) (fun H17 => ?_)
    · refine awp_skip ?_
      refine awp_seq ?_
      refine awp_block ?_
      refine awp_seq ?_
      refine awp_region rfl ?_
      refine wpo_mv (a := ((eL 5 e_api_Entry) x0)) rfl rfl rfl (o_mv tk rfl (Wk.refl _)) ?_
      refine wpo_mv (a := (eI c2)) rfl rfl rfl (o_mv tk rfl (Wk.refl _)) ?_
      refine wpo_bd H17 (fun y => .fptr (e_api_Entry y).cells 0) rfl rfl rfl (fun v19 hv => o_ixa tk hv td60 enc24 rfl rfl) fun v19 hv19 H18 => ?_
      refine wpo_mv (a := (.fptr (c_api_Entry v19) 0)) rfl rfl rfl (o_c tk false rfl (fun _ => rfl)) ?_
      refine wpo_mv (a := (eS v19.Key)) rfl rfl rfl (o_ld tk rfl rfl) ?_
      refine wpo_mv (a := (eS x1)) rfl rfl rfl (o_mv tk rfl (Wk.refl _)) ?_
      refine wpo_lt H18 eB rfl rfl rfl (o_neq_s tk rfl rfl) fun v21 H20 => ?_
      refine wpo_nil ?_
      refine awp_if H20 rfl (fun H22 => ?_) (fun H22 => ?_)
      · refine awp_region rfl ?_
        refine wpo_mv (a := (eT tk_5 5 e_api_Entry c1)) rfl rfl rfl (o_mv tk rfl (Wk.refl _)) ?_
        refine wpo_mv (a := ((eL 5 e_api_Entry) x0)) rfl rfl rfl (o_mv tk rfl (Wk.refl _)) ?_
        refine wpo_mv (a := (eI c2)) rfl rfl rfl (o_mv tk rfl (Wk.refl _)) ?_
        refine wpo_bd H22 (fun y => .fptr (e_api_Entry y).cells 0) rfl rfl rfl (fun v24 hv => o_ixa tk hv td60 enc24 rfl rfl) fun v24 hv24 H23 => ?_
        refine wpo_mv (a := (e_api_Entry v24)) rfl rfl rfl (o_ld_e tk enc24 rfl rfl) ?_
        refine wpo_lt H23 (eF 5 e_api_Entry) rfl rfl rfl (o_c tk false rfl (fun _ => rfl)) fun v26 H25 => ?_
        obtain ⟨v28, hv29, H27⟩ := Option.bind_eq_some_iff.1 H25
        refine wpo_a (av := fun t => eT t 5 e_api_Entry v28) rfl rfl rfl (h_app tk hH 0 hv29 rfl td60 ty24 rfl (by decide) rfl (src_l td60 rfl)) fun tk30 τ hH => ?_
        refine wpo_mv (a := (eT tk30 5 e_api_Entry v28)) rfl rfl rfl (o_as tk rfl (Wk.refl _)) ?_
        refine wpo_nil ?_
        refine awp_region rfl ?_
        refine wpo_mv (a := (eI c2)) rfl rfl rfl (o_mv tk rfl (Wk.refl _)) ?_
        refine wpo_lt H27 eI rfl rfl rfl (o_ar tk rfl rfl rfl) fun v32 H31 => ?_
        refine wpo_mv (a := (eI v32)) rfl rfl rfl (o_as tk rfl (Wk.refl _)) ?_
        refine wpo_nil ?_
        exact ⟨(v28, v32), inj_inl H31, tk30, (wkf_cons (.of_eq rfl) (wkf_cons (.of_eq rfl) (wkf_cons (.of_eq rfl) (wkf_cons (.of_eq rfl) (wkf_nil _))))), hH⟩
      · refine awp_skip ?_
        refine awp_region rfl ?_
        refine wpo_mv (a := (eI c2)) rfl rfl rfl (o_mv tk rfl (Wk.refl _)) ?_
        refine wpo_lt H22 eI rfl rfl rfl (o_ar tk rfl rfl rfl) fun v34 H33 => ?_
        refine wpo_mv (a := (eI v34)) rfl rfl rfl (o_as tk rfl (Wk.refl _)) ?_
        refine wpo_nil ?_
        exact ⟨(c1, v34), inj_inl H33, tk_5, (wkf_cons (.of_eq rfl) (wkf_cons (.of_eq rfl) (wkf_cons (.of_eq rfl) (wkf_cons (.of_eq rfl) (wkf_nil _))))), hH⟩
    · refine awp_exit ?_
      have hz := hy10 _ (inj_inr H17)
      subst hz
      exact ⟨⟨_, inj_inr H17⟩, tk_5, (wkf_cons (.of_eq rfl) (wkf_nil _)), hH⟩
theorem butteryref12_But_ok {x0 : List api_Entry} {x1 : List (BitVec 8)} {r : (List api_Entry)} (H : butteryref12_But x0 x1 = some r) (σ : St) : ACall Tryd.prog 48 [((eL 5 e_api_Entry) x0), (eS x1)] σ (fun a τ => a = (eL 5 e_api_Entry) r ∧ τ = σ) := (butteryref12_But_app H σ).unapp (fun ρ κ => cutL_enc enc24.cut ρ κ r)
end Go.Proofs.YtkmlinaofbcbaaaDoor
namespace Go.Proofs.YtkmlinaofbcbaaaDoor
open Go Go.Va
set_option linter.unusedVariables false
set_option linter.unusedSimpArgs false
set_option maxRecDepth 20000
theorem butterylaw12_BucketRoom_ok {x0 : List api_Entry} {x1 : api_Entry} {r : Bool} (H : butterylaw12_BucketRoom x0 x1 = some r) (σ : St)  (hg : σ.gl = gls) : ACall Tryd.prog 11 [((eL 5 e_api_Entry) x0), (e_api_Entry x1)] σ (fun a τ => a = eB r ∧ τ = σ) := by
  unfold butterylaw12_BucketRoom at H
  refine ACall.pure (acall_start tk Tryd.func11 (by decide) rfl (Nat.le_of_ble_eq_true rfl) ?_)
  have hH := Holds.init σ
  refine awp_seq ?_
  refine awp_region rfl ?_
  refine wpo_mv (a := (.fptr (c_api_Entry x1) 0)) rfl rfl rfl (o_boxf tk rfl (.of_eq rfl) (b := (e_api_Entry x1)) (enc24.flat _)) ?_
  refine wpo_mv (a := (eB false)) rfl rfl rfl (o_as tk rfl (Wk.refl _)) ?_
  refine wpo_nil ?_
  refine awp_seq ?_
  refine awp_seq ?_
  obtain ⟨s1, hs3, hj4⟩ := Option.bind_eq_some_iff.1 H
  refine awp_cutn (fun fr τ => WkF fr (fm [(0, ((eL 5 e_api_Entry) x0)), (3, (.fptr (c_api_Entry x1) 0)), (22, (eB s1))]) ∧ Holds σ [] [] τ) ?_ ?_
  · rintro fr τ ⟨hfr, hH⟩
    have H21 := hj4
    refine AWP.fm [(0, ((eL 5 e_api_Entry) x0)), (3, (.fptr (c_api_Entry x1) 0)), (22, (eB s1))] hfr ?_
    refine awp_if H21 rfl (fun H22 => ?_) (fun H22 => ?_)
    · refine awp_seq ?_
      refine awp_region rfl ?_
      refine wpo_bdr H22 eB rfl rfl rfl (fun v24 hv => h_callr rfl rfl .nil (butterylaw12_works_ok hv _ (hH.gl.trans hg))) fun v24 hv24 H23 => ?_
      refine wpo_mv (a := (eB v24)) rfl rfl rfl (o_as tk rfl (Wk.refl _)) ?_
      refine wpo_nil ?_
      refine awp_ret ?_
      obtain rfl := Option.some.inj H23
      exact ⟨_, (eB v24), rfl, (.of_eq rfl), .of_eq ((enc_b td4 sz4).cut _ _ _), hH.noT⟩
    · refine awp_skip ?_
      refine awp_seq ?_
      refine awp_region rfl ?_
      refine wpo_mv (a := ((eL 5 e_api_Entry) x0)) rfl rfl rfl (o_mv tk rfl (Wk.refl _)) ?_
      refine wpo_mv (a := (e_api_Entry x1)) rfl rfl rfl (o_ld tk rfl rfl) ?_
      refine wpo_bd H22 (fun r => .tup [(eL 5 e_api_Entry) r.1, (eL 5 e_api_Entry) r.2.1, eErr r.2.2]) rfl rfl rfl (fun v26 hv => OpP.of_call rfl rfl (.cons (.of_eq rfl) (.cons (.of_eq rfl) .nil)) (bucket_Insert_ok hv)) fun v26 hv26 H25 => ?_
      refine wpo_mv (a := (.tup [((eL 5 e_api_Entry) v26.1), ((eL 5 e_api_Entry) v26.2.1), (eErr v26.2.2)])) rfl rfl rfl (o_mv tk rfl (Wk.refl _)) ?_
      refine wpo_mv (a := ((eL 5 e_api_Entry) v26.1)) rfl rfl rfl (o_ext tk rfl rfl) ?_
      refine wpo_mv (a := ((eL 5 e_api_Entry) v26.2.1)) rfl rfl rfl (o_ext tk rfl rfl) ?_
      refine wpo_mv (a := (eErr v26.2.2)) rfl rfl rfl (o_ext tk rfl rfl) ?_
      refine wpo_mv (a := ((eL 5 e_api_Entry) v26.1)) rfl rfl rfl (o_as tk rfl (Wk.refl _)) ?_
      refine wpo_mv (a := ((eL 5 e_api_Entry) v26.2.1)) rfl rfl rfl (o_as tk rfl (Wk.refl _)) ?_
      refine wpo_mv (a := (eErr v26.2.2)) rfl rfl rfl (o_as tk rfl (Wk.refl _)) ?_
      refine wpo_nil ?_
      refine awp_seq ?_
      refine awp_seq ?_
      refine awp_region rfl ?_
      refine wpo_mv (a := (eErr v26.2.2)) rfl rfl rfl (o_mv tk rfl (Wk.refl _)) ?_
      refine wpo_lt H25 eB rfl rfl rfl (o_err_neq tk rfl rfl rfl) fun v28 H27 => ?_
      refine wpo_nil ?_
      refine awp_if H27 rfl (fun H29 => ?_) (fun H29 => ?_)
      · refine awp_seq ?_
        refine awp_region rfl ?_
        refine wpo_mv (a := ((eL 5 e_api_Entry) v26.1)) rfl rfl rfl (o_mv tk rfl (Wk.refl _)) ?_
        refine wpo_lt H29 eI rfl rfl rfl (o_len tk td60 rfl) fun v31 H30 => ?_
        refine wpo_mv (a := ((eL 5 e_api_Entry) v26.2.1)) rfl rfl rfl (o_mv tk rfl (Wk.refl _)) ?_
        refine wpo_lt H30 eI rfl rfl rfl (o_len tk td60 rfl) fun v33 H32 => ?_
        refine wpo_lt H32 eI rfl rfl rfl (o_ar tk rfl rfl rfl) fun v35 H34 => ?_
        refine wpo_lt H34 eB rfl rfl rfl (o_ar tk rfl rfl rfl) fun v37 H36 => ?_
        refine wpo_mv (a := (eB v37)) rfl rfl rfl (o_mv tk rfl (Wk.refl _)) ?_
        refine if_split H36 (fun hb H38 => ?_) (fun hb H38 => ?_)
        · subst hb
          refine wpo_bdr H38 eB rfl rfl rfl (fun v40 hv => h_callr rfl rfl .nil (butterylaw12_works_ok hv _ (hH.gl.trans hg))) fun v40 hv40 H39 => ?_
          refine wpo_mv (a := (eB v40)) rfl rfl rfl (o_pick_t tk rfl rfl (Wk.refl _)) ?_
          refine wpo_mv (a := (eB v40)) rfl rfl rfl (o_as tk rfl (Wk.refl _)) ?_
          refine wpo_nil ?_
          refine awp_ret ?_
          obtain rfl := Option.some.inj H39
          exact ⟨_, (eB v40), rfl, (.of_eq rfl), .of_eq ((enc_b td4 sz4).cut _ _ _), hH.noT⟩
        · subst hb
          refine wpo_skip rfl rfl rfl ?_
          refine wpo_mv (a := (eB false)) rfl rfl rfl (o_pick_f tk rfl rfl (Wk.refl _)) ?_
          refine wpo_mv (a := (eB false)) rfl rfl rfl (o_as tk rfl (Wk.refl _)) ?_
          refine wpo_nil ?_
          refine awp_ret ?_
          obtain rfl := Option.some.inj H38
          exact ⟨_, (eB false), rfl, (.of_eq rfl), .of_eq ((enc_b td4 sz4).cut _ _ _), hH.noT⟩
      · refine awp_skip ?_
        refine awp_seq ?_
        refine awp_seq ?_
        obtain ⟨s41, hs43, hj44⟩ := Option.bind_eq_some_iff.1 H29
        refine awp_cutn (fun fr τ => WkF fr (fm [(0, ((eL 5 e_api_Entry) x0)), (3, (.fptr (c_api_Entry x1) 0)), (5, ((eL 5 e_api_Entry) v26.1)), (6, ((eL 5 e_api_Entry) v26.2.1)), (65, (eB s41))]) ∧ Holds σ [] [] τ) ?_ ?_
        · rintro fr τ ⟨hfr, hH⟩
          have H70 := hj44
          refine AWP.fm [(0, ((eL 5 e_api_Entry) x0)), (3, (.fptr (c_api_Entry x1) 0)), (5, ((eL 5 e_api_Entry) v26.1)), (6, ((eL 5 e_api_Entry) v26.2.1)), (65, (eB s41))] hfr ?_
          refine awp_if H70 rfl (fun H71 => ?_) (fun H71 => ?_)
          · refine awp_seq ?_
            refine awp_region rfl ?_
            refine wpo_mv (a := (eB false)) rfl rfl rfl (o_as tk rfl (Wk.refl _)) ?_
            refine wpo_nil ?_
            refine awp_ret ?_
            obtain rfl := Option.some.inj H71
            exact ⟨_, (eB false), rfl, (.of_eq rfl), .of_eq ((enc_b td4 sz4).cut _ _ _), hH.noT⟩
          · refine awp_skip ?_
            refine awp_seq ?_
            refine awp_drawS mixed [2, 8] rfl (by decide +kernel) rfl rfl ?_
            refine wpdS_mv (a := (eF 5 e_api_Entry ([] : List api_Entry))) rfl rfl rfl (o_c tk false rfl (fun _ => rfl)) ?_
            refine wpdS_mv (a := ((eL 5 e_api_Entry) v26.2.1)) rfl rfl rfl (o_mv tk rfl (Wk.refl _)) ?_
            obtain ⟨v73, hv74, H72⟩ := Option.bind_eq_some_iff.1 H71
            refine wpdS_a (av := fun t => eT t 5 e_api_Entry v73) rfl rfl rfl (h_app0 tk hH hv74 td60 ty24 rfl (by decide) (.inr rfl) (src_l td60 rfl)) fun tk75 τ hH => ?_
            refine wpdS_mv (a := ((eL 5 e_api_Entry) v26.1)) rfl rfl rfl (o_mv tk rfl (Wk.refl _)) ?_
            refine wpdS_mv (a := ((eL 5 e_api_Entry) v26.1)) rfl rfl rfl (o_mv tk rfl (Wk.refl _)) ?_
            refine wpdS_lt H72 eI rfl rfl rfl (o_len tk td60 rfl) fun v77 H76 => ?_
            refine wpdS_lt H76 eI rfl rfl rfl (o_ar tk rfl rfl rfl) fun v79 H78 => ?_
            refine wpdS_bd H78 (eL 5 e_api_Entry) rfl rfl rfl (fun v81 hv => o_cutTo tk hv td60 enc24 rfl rfl) fun v81 hv81 H80 => ?_
            obtain ⟨v83, hv84, H82⟩ := Option.bind_eq_some_iff.1 H80
            refine wpdS_a (av := fun t => eT t 5 e_api_Entry v83) rfl rfl rfl (h_app tk hH 0 hv84 rfl td60 ty24 rfl (by decide) rfl (src_l td60 rfl)) fun tk85 τ hH => ?_
            refine wpdS_mv (a := (eT tk85 5 e_api_Entry v83)) rfl rfl rfl (o_as tk rfl (Wk.refl _)) ?_
            refine wpdS_nil ?_
            refine awp_seq ?_
            refine awp_drawS mixed [] rfl (by decide +kernel) rfl rfl ?_
            refine wpdS_mv (a := (eT tk85 5 e_api_Entry v83)) rfl rfl rfl (o_mv tk rfl (Wk.refl _)) ?_
            refine wpdS_mv (a := ((eL 5 e_api_Entry) x0)) rfl rfl rfl (o_mv tk rfl (Wk.refl _)) ?_
            refine wpdS_mv (a := (.fptr (c_api_Entry x1) 0)) rfl rfl rfl (o_c tk false rfl (fun _ => rfl)) ?_
            refine wpdS_mv (a := (eS x1.Key)) rfl rfl rfl (o_ld tk rfl rfl) ?_
            refine wpdS_bd H82 (eL 5 e_api_Entry) rfl rfl rfl (fun v87 hv => OpP.of_call rfl rfl (.cons (.of_eq rfl) (.cons (.of_eq rfl) .nil)) (butteryref12_But_ok hv)) fun v87 hv87 H86 => ?_
            refine wpdS_bd H86 eB rfl rfl rfl (fun v89 hv => OpP.of_call rfl rfl (.cons wk_no (.cons (.of_eq rfl) .nil)) (butteryref06_SameAll_ok hv)) fun v89 hv89 H88 => ?_
            refine wpdS_mv (a := (eB v89)) rfl rfl rfl (o_mv tk rfl (Wk.refl _)) ?_
            refine if_split H88 (fun hb H90 => ?_) (fun hb H90 => ?_)
            · subst hb
              refine wpdS_mv (a := ((eL 5 e_api_Entry) v26.2.1)) rfl rfl rfl (o_mv tk rfl (Wk.refl _)) ?_
              refine wpdS_lt H90 eI rfl rfl rfl (o_len tk td60 rfl) fun v92 H91 => ?_
              refine wpdS_lt H91 eB rfl rfl rfl (o_ar tk rfl rfl rfl) fun v94 H93 => ?_
              refine wpdS_mv (a := (eB v94)) rfl rfl rfl (o_mv tk rfl (Wk.refl _)) ?_
              refine if_split H93 (fun hb H95 => ?_) (fun hb H95 => ?_)
              · subst hb
                refine wpdS_skip rfl rfl rfl ?_
                refine wpdS_skip rfl rfl rfl ?_
                refine wpdS_skip rfl rfl rfl ?_
                refine wpdS_skip rfl rfl rfl ?_
                refine wpdS_skip rfl rfl rfl ?_
                refine wpdS_skip rfl rfl rfl ?_
                refine wpdS_skip rfl rfl rfl ?_
                refine wpdS_skip rfl rfl rfl ?_
                refine wpdS_skip rfl rfl rfl ?_
                refine wpdS_skip rfl rfl rfl ?_
                refine wpdS_skip rfl rfl rfl ?_
                refine wpdS_skip rfl rfl rfl ?_
                refine wpdS_mv (a := (eB true)) rfl rfl rfl (o_pick_t tk rfl rfl (Wk.refl _)) ?_
                refine wpdS_mv (a := (eB true)) rfl rfl rfl (o_pick_t tk rfl rfl (Wk.refl _)) ?_
                refine wpdS_mv (a := (eB true)) rfl rfl rfl (o_mv tk rfl (Wk.refl _)) ?_
                refine wpdS_bdr H95 eB rfl (by decide +kernel) rfl rfl (fun v97 hv => h_callr rfl rfl .nil (butterylaw12_works_ok hv _ (hH.gl.trans hg))) fun v97 hv97 H96 => ?_
                refine wpdS_mv (a := (eB v97)) rfl rfl rfl (o_pick_t tk rfl rfl (Wk.refl _)) ?_
                refine wpdS_mv (a := (eB v97)) rfl rfl rfl (o_as tk rfl (Wk.refl _)) ?_
                refine wpdS_nil ?_
                refine awp_ret ?_
                obtain rfl := Option.some.inj H96
                exact ⟨_, (eB v97), rfl, (.of_eq rfl), .of_eq ((enc_b td4 sz4).cut _ _ _), hH.noT⟩
              · subst hb
                refine wpdS_mv (a := ((eL 5 e_api_Entry) v26.1)) rfl rfl rfl (o_mv tk rfl (Wk.refl _)) ?_
                refine wpdS_bd H95 eI rfl rfl rfl (fun v99 hv => OpP.of_call rfl rfl (.cons (.of_eq rfl) .nil) (bucket_Size_ok hv)) fun v99 hv99 H98 => ?_
                refine wpdS_mv (a := ((eL 5 e_api_Entry) v26.2.1)) rfl rfl rfl (o_mv tk rfl (Wk.refl _)) ?_
                refine wpdS_mv (a := ((eL 5 e_api_Entry) v26.2.1)) rfl rfl rfl (o_mv tk rfl (Wk.refl _)) ?_
                refine wpdS_lt H98 eI rfl rfl rfl (o_len tk td60 rfl) fun v101 H100 => ?_
                refine wpdS_lt H100 eI rfl rfl rfl (o_ar tk rfl rfl rfl) fun v103 H102 => ?_
                refine wpdS_bd H102 (fun y => .fptr (e_api_Entry y).cells 0) rfl rfl rfl (fun v105 hv => o_ixa tk hv td60 enc24 rfl rfl) fun v105 hv105 H104 => ?_
                refine wpdS_mv (a := (e_api_Entry v105)) rfl rfl rfl (o_ld_e tk enc24 rfl rfl) ?_
                refine wpdS_lt H104 (eF 5 e_api_Entry) rfl rfl rfl (o_c tk false rfl (fun _ => rfl)) fun v107 H106 => ?_
                refine wpdS_bd H106 eI rfl rfl rfl (fun v109 hv => OpP.of_call rfl rfl (.cons wk_no .nil) (bucket_Size_ok hv)) fun v109 hv109 H108 => ?_
                refine wpdS_lt H108 eI rfl rfl rfl (o_ar tk rfl rfl rfl) fun v111 H110 => ?_
                refine wpdS_lt H110 eB rfl rfl rfl (o_ar tk rfl rfl rfl) fun v113 H112 => ?_
                refine wpdS_mv (a := (eB v113)) rfl rfl rfl (o_pick_f tk rfl rfl (Wk.refl _)) ?_
                refine wpdS_mv (a := (eB v113)) rfl rfl rfl (o_pick_t tk rfl rfl (Wk.refl _)) ?_
                refine wpdS_mv (a := (eB v113)) rfl rfl rfl (o_mv tk rfl (Wk.refl _)) ?_
                refine if_split H112 (fun hb H114 => ?_) (fun hb H114 => ?_)
                · subst hb
                  refine wpdS_bdr H114 eB rfl (by decide +kernel) rfl rfl (fun v116 hv => h_callr rfl rfl .nil (butterylaw12_works_ok hv _ (hH.gl.trans hg))) fun v116 hv116 H115 => ?_
                  refine wpdS_mv (a := (eB v116)) rfl rfl rfl (o_pick_t tk rfl rfl (Wk.refl _)) ?_
                  refine wpdS_mv (a := (eB v116)) rfl rfl rfl (o_as tk rfl (Wk.refl _)) ?_
                  refine wpdS_nil ?_
                  refine awp_ret ?_
                  obtain rfl := Option.some.inj H115
                  exact ⟨_, (eB v116), rfl, (.of_eq rfl), .of_eq ((enc_b td4 sz4).cut _ _ _), hH.noT⟩
                · subst hb
                  refine wpdS_skip rfl rfl rfl ?_
                  refine wpdS_mv (a := (eB false)) rfl rfl rfl (o_pick_f tk rfl rfl (Wk.refl _)) ?_
                  refine wpdS_mv (a := (eB false)) rfl rfl rfl (o_as tk rfl (Wk.refl _)) ?_
                  refine wpdS_nil ?_
                  refine awp_ret ?_
                  obtain rfl := Option.some.inj H114
                  exact ⟨_, (eB false), rfl, (.of_eq rfl), .of_eq ((enc_b td4 sz4).cut _ _ _), hH.noT⟩
            · subst hb
              refine wpdS_skip rfl rfl rfl ?_
              refine wpdS_skip rfl rfl rfl ?_
              refine wpdS_skip rfl rfl rfl ?_
              refine wpdS_skip rfl rfl rfl ?_
              refine wpdS_skip rfl rfl rfl ?_
              refine wpdS_skip rfl rfl rfl ?_
              refine wpdS_skip rfl rfl rfl ?_
              refine wpdS_skip rfl rfl rfl ?_
              refine wpdS_skip rfl rfl rfl ?_
              refine wpdS_skip rfl rfl rfl ?_
              refine wpdS_skip rfl rfl rfl ?_
              refine wpdS_skip rfl rfl rfl ?_
              refine wpdS_skip rfl rfl rfl ?_
              refine wpdS_skip rfl rfl rfl ?_
              refine wpdS_skip rfl rfl rfl ?_
              refine wpdS_skip rfl rfl rfl ?_
              refine wpdS_skip rfl rfl rfl ?_
              refine wpdS_mv (a := (eB false)) rfl rfl rfl (o_pick_f tk rfl rfl (Wk.refl _)) ?_
              refine wpdS_mv (a := (eB false)) rfl rfl rfl (o_mv tk rfl (Wk.refl _)) ?_
              refine wpdS_skip rfl rfl rfl ?_
              refine wpdS_mv (a := (eB false)) rfl rfl rfl (o_pick_f tk rfl rfl (Wk.refl _)) ?_
              refine wpdS_mv (a := (eB false)) rfl rfl rfl (o_as tk rfl (Wk.refl _)) ?_
              refine wpdS_nil ?_
              refine awp_ret ?_
              obtain rfl := Option.some.inj H90
              exact ⟨_, (eB false), rfl, (.of_eq rfl), .of_eq ((enc_b td4 sz4).cut _ _ _), hH.noT⟩
        · refine awp_drawS mixed [] rfl (by decide +kernel) rfl rfl ?_
          refine wpdS_mv (a := ((eL 5 e_api_Entry) v26.1)) rfl rfl rfl (o_mv tk rfl (Wk.refl _)) ?_
          refine wpdS_lt hs43 eI rfl rfl rfl (o_len tk td60 rfl) fun v46 H45 => ?_
          refine wpdS_lt H45 eB rfl rfl rfl (o_ar tk rfl rfl rfl) fun v48 H47 => ?_
          refine wpdS_mv (a := (eB v48)) rfl rfl rfl (o_mv tk rfl (Wk.refl _)) ?_
          refine if_split H47 (fun hb H49 => ?_) (fun hb H49 => ?_)
          · subst hb
            refine wpdS_skip rfl rfl rfl ?_
            refine wpdS_skip rfl rfl rfl ?_
            refine wpdS_skip rfl rfl rfl ?_
            refine wpdS_skip rfl rfl rfl ?_
            refine wpdS_skip rfl rfl rfl ?_
            refine wpdS_skip rfl rfl rfl ?_
            refine wpdS_skip rfl rfl rfl ?_
            refine wpdS_skip rfl rfl rfl ?_
            refine wpdS_skip rfl rfl rfl ?_
            refine wpdS_mv (a := (eB true)) rfl rfl rfl (o_pick_t tk rfl rfl (Wk.refl _)) ?_
            refine wpdS_mv (a := (eB true)) rfl rfl rfl (o_mv tk rfl (Wk.refl _)) ?_
            refine wpdS_skip rfl rfl rfl ?_
            refine wpdS_skip rfl rfl rfl ?_
            refine wpdS_skip rfl rfl rfl ?_
            refine wpdS_mv (a := (eB true)) rfl rfl rfl (o_pick_t tk rfl rfl (Wk.refl _)) ?_
            refine wpdS_mv (a := (eB true)) rfl rfl rfl (o_mv tk rfl (Wk.refl _)) ?_
            refine wpdS_skip rfl rfl rfl ?_
            refine wpdS_skip rfl rfl rfl ?_
            refine wpdS_skip rfl rfl rfl ?_
            refine wpdS_mv (a := (eB true)) rfl rfl rfl (o_pick_t tk rfl rfl (Wk.refl _)) ?_
            refine wpdS_nil ?_
            have e := Option.some.inj H49
            subst e
            exact ⟨(wkf_cons (.of_eq rfl) (wkf_cons (.of_eq rfl) (wkf_cons (.of_eq rfl) (wkf_cons (.of_eq rfl) (wkf_cons (.of_eq rfl) (wkf_nil _)))))), hH⟩
          · subst hb
            refine wpdS_mv (a := ((eL 5 e_api_Entry) v26.1)) rfl rfl rfl (o_mv tk rfl (Wk.refl _)) ?_
            refine wpdS_mv (a := ((eL 5 e_api_Entry) v26.1)) rfl rfl rfl (o_mv tk rfl (Wk.refl _)) ?_
            refine wpdS_lt H49 eI rfl rfl rfl (o_len tk td60 rfl) fun v51 H50 => ?_
            refine wpdS_lt H50 eI rfl rfl rfl (o_ar tk rfl rfl rfl) fun v53 H52 => ?_
            refine wpdS_bd H52 (fun y => .fptr (e_api_Entry y).cells 0) rfl rfl rfl (fun v55 hv => o_ixa tk hv td60 enc24 rfl rfl) fun v55 hv55 H54 => ?_
            refine wpdS_mv (a := (e_api_Entry v55)) rfl rfl rfl (o_ld_e tk enc24 rfl rfl) ?_
            refine wpdS_mv (a := (e_api_Entry x1)) rfl rfl rfl (o_ld tk rfl rfl) ?_
            refine wpdS_bd H54 eB rfl rfl rfl (fun v57 hv => OpP.of_call rfl rfl (.cons (.of_eq rfl) (.cons (.of_eq rfl) .nil)) (butteryref06_Same_ok hv)) fun v57 hv57 H56 => ?_
            refine wpdS_lt H56 eB rfl rfl rfl (o_un tk rfl rfl) fun v59 H58 => ?_
            refine wpdS_mv (a := (eB v59)) rfl rfl rfl (o_pick_f tk rfl rfl (Wk.refl _)) ?_
            refine wpdS_mv (a := (eB v59)) rfl rfl rfl (o_mv tk rfl (Wk.refl _)) ?_
            refine if_split H58 (fun hb H60 => ?_) (fun hb H60 => ?_)
            · subst hb
              refine wpdS_skip rfl rfl rfl ?_
              refine wpdS_skip rfl rfl rfl ?_
              refine wpdS_skip rfl rfl rfl ?_
              refine wpdS_mv (a := (eB true)) rfl rfl rfl (o_pick_t tk rfl rfl (Wk.refl _)) ?_
              refine wpdS_mv (a := (eB true)) rfl rfl rfl (o_mv tk rfl (Wk.refl _)) ?_
              refine wpdS_skip rfl rfl rfl ?_
              refine wpdS_skip rfl rfl rfl ?_
              refine wpdS_skip rfl rfl rfl ?_
              refine wpdS_mv (a := (eB true)) rfl rfl rfl (o_pick_t tk rfl rfl (Wk.refl _)) ?_
              refine wpdS_nil ?_
              have e := Option.some.inj H60
              subst e
              exact ⟨(wkf_cons (.of_eq rfl) (wkf_cons (.of_eq rfl) (wkf_cons (.of_eq rfl) (wkf_cons (.of_eq rfl) (wkf_cons (.of_eq rfl) (wkf_nil _)))))), hH⟩
            · subst hb
              refine wpdS_mv (a := ((eL 5 e_api_Entry) v26.1)) rfl rfl rfl (o_mv tk rfl (Wk.refl _)) ?_
              refine wpdS_bd H60 eI rfl rfl rfl (fun v62 hv => OpP.of_call rfl rfl (.cons (.of_eq rfl) .nil) (bucket_Size_ok hv)) fun v62 hv62 H61 => ?_
              refine wpdS_lt H61 eB rfl rfl rfl (o_ar tk rfl rfl rfl) fun v64 H63 => ?_
              refine wpdS_mv (a := (eB v64)) rfl rfl rfl (o_pick_f tk rfl rfl (Wk.refl _)) ?_
              refine wpdS_mv (a := (eB v64)) rfl rfl rfl (o_mv tk rfl (Wk.refl _)) ?_
              refine if_split H63 (fun hb H65 => ?_) (fun hb H65 => ?_)
              · subst hb
                refine wpdS_skip rfl rfl rfl ?_
                refine wpdS_skip rfl rfl rfl ?_
                refine wpdS_skip rfl rfl rfl ?_
                refine wpdS_mv (a := (eB true)) rfl rfl rfl (o_pick_t tk rfl rfl (Wk.refl _)) ?_
                refine wpdS_nil ?_
                have e := Option.some.inj H65
                subst e
                exact ⟨(wkf_cons (.of_eq rfl) (wkf_cons (.of_eq rfl) (wkf_cons (.of_eq rfl) (wkf_cons (.of_eq rfl) (wkf_cons (.of_eq rfl) (wkf_nil _)))))), hH⟩
              · subst hb
                refine wpdS_mv (a := ((eL 5 e_api_Entry) v26.1)) rfl rfl rfl (o_mv tk rfl (Wk.refl _)) ?_
                refine wpdS_bd H65 eB rfl rfl rfl (fun v67 hv => OpP.of_call rfl rfl (.cons (.of_eq rfl) .nil) (butterylaw12_right_ok hv)) fun v67 hv67 H66 => ?_
                refine wpdS_lt H66 eB rfl rfl rfl (o_un tk rfl rfl) fun v69 H68 => ?_
                refine wpdS_mv (a := (eB v69)) rfl rfl rfl (o_pick_f tk rfl rfl (Wk.refl _)) ?_
                refine wpdS_nil ?_
                have e := Option.some.inj H68
                subst e
                exact ⟨(wkf_cons (.of_eq rfl) (wkf_cons (.of_eq rfl) (wkf_cons (.of_eq rfl) (wkf_cons (.of_eq rfl) (wkf_cons (.of_eq rfl) (wkf_nil _)))))), hH⟩
  · refine awp_region rfl ?_
    refine wpo_mv (a := ((eL 5 e_api_Entry) x0)) rfl rfl rfl (o_mv tk rfl (Wk.refl _)) ?_
    refine wpo_bd hs3 eI rfl rfl rfl (fun v6 hv => OpP.of_call rfl rfl (.cons (.of_eq rfl) .nil) (butterylaw06_Light_ok hv)) fun v6 hv6 H5 => ?_
    refine wpo_lt H5 eB rfl rfl rfl (o_ar tk rfl rfl rfl) fun v8 H7 => ?_
    refine wpo_mv (a := (eB v8)) rfl rfl rfl (o_mv tk rfl (Wk.refl _)) ?_
    refine if_split H7 (fun hb H9 => ?_) (fun hb H9 => ?_)
    · subst hb
      refine wpo_skip rfl rfl rfl ?_
      refine wpo_skip rfl rfl rfl ?_
      refine wpo_skip rfl rfl rfl ?_
      refine wpo_skip rfl rfl rfl ?_
      refine wpo_mv (a := (eB true)) rfl rfl rfl (o_pick_t tk rfl rfl (Wk.refl _)) ?_
      refine wpo_mv (a := (eB true)) rfl rfl rfl (o_mv tk rfl (Wk.refl _)) ?_
      refine wpo_skip rfl rfl rfl ?_
      refine wpo_skip rfl rfl rfl ?_
      refine wpo_skip rfl rfl rfl ?_
      refine wpo_mv (a := (eB true)) rfl rfl rfl (o_pick_t tk rfl rfl (Wk.refl _)) ?_
      refine wpo_nil ?_
      have e := Option.some.inj H9
      subst e
      exact ⟨(wkf_cons (.of_eq rfl) (wkf_cons (.of_eq rfl) (wkf_cons (.of_eq rfl) (wkf_nil _)))), hH⟩
    · subst hb
      refine wpo_mv (a := (e_api_Entry x1)) rfl rfl rfl (o_ld tk rfl rfl) ?_
      refine wpo_lt H9 (eF 5 e_api_Entry) rfl rfl rfl (o_c tk false rfl (fun _ => rfl)) fun v11 H10 => ?_
      refine wpo_bd H10 eI rfl rfl rfl (fun v13 hv => OpP.of_call rfl rfl (.cons wk_no .nil) (butterylaw06_Light_ok hv)) fun v13 hv13 H12 => ?_
      refine wpo_lt H12 eB rfl rfl rfl (o_ar tk rfl rfl rfl) fun v15 H14 => ?_
      refine wpo_mv (a := (eB v15)) rfl rfl rfl (o_pick_f tk rfl rfl (Wk.refl _)) ?_
      refine wpo_mv (a := (eB v15)) rfl rfl rfl (o_mv tk rfl (Wk.refl _)) ?_
      refine if_split H14 (fun hb H16 => ?_) (fun hb H16 => ?_)
      · subst hb
        refine wpo_skip rfl rfl rfl ?_
        refine wpo_skip rfl rfl rfl ?_
        refine wpo_skip rfl rfl rfl ?_
        refine wpo_mv (a := (eB true)) rfl rfl rfl (o_pick_t tk rfl rfl (Wk.refl _)) ?_
        refine wpo_nil ?_
        have e := Option.some.inj H16
        subst e
        exact ⟨(wkf_cons (.of_eq rfl) (wkf_cons (.of_eq rfl) (wkf_cons (.of_eq rfl) (wkf_nil _)))), hH⟩
      · subst hb
        refine wpo_mv (a := ((eL 5 e_api_Entry) x0)) rfl rfl rfl (o_mv tk rfl (Wk.refl _)) ?_
        refine wpo_bd H16 eB rfl rfl rfl (fun v18 hv => OpP.of_call rfl rfl (.cons (.of_eq rfl) .nil) (butterylaw12_right_ok hv)) fun v18 hv18 H17 => ?_
        refine wpo_lt H17 eB rfl rfl rfl (o_un tk rfl rfl) fun v20 H19 => ?_
        refine wpo_mv (a := (eB v20)) rfl rfl rfl (o_pick_f tk rfl rfl (Wk.refl _)) ?_
        refine wpo_nil ?_
        have e := Option.some.inj H19
        subst e
        exact ⟨(wkf_cons (.of_eq rfl) (wkf_cons (.of_eq rfl) (wkf_cons (.of_eq rfl) (wkf_nil _)))), hH⟩
end Go.Proofs.YtkmlinaofbcbaaaDoor
namespace Go.Va
open Go
set_option linter.unusedVariables false
set_option linter.unusedSimpArgs false
theorem shr64_nat {n m : Nat} (h : m ≤ 64) : shr64 (n : Int) m = ((n / 2 ^ m : Nat) : Int) := by
  unfold shr64
  rw [Nat.min_eq_left h]
  have : (2 : Int) ^ m = ((2 ^ m : Nat) : Int) := by simp
  rw [this, Int.fdiv_eq_ediv_of_nonneg _ (Int.natCast_nonneg _), ← Int.natCast_ediv]
theorem quo64_nat {n m : Nat} (h : n < 9223372036854775808) : quo64 (n : Int) (m : Int) = ((n / m : Nat) : Int) := by
  unfold quo64
  have := Nat.div_le_self n m
  rw [Int.tdiv_eq_ediv_of_nonneg (Int.natCast_nonneg _), ← Int.natCast_ediv]
  generalize n / m = q at *
  exact w64_eq (by omega) (by omega)
theorem tmod_nat (n m : Nat) : Int.tmod (n : Int) (m : Int) = ((n % m : Nat) : Int) := by
  rw [Int.tmod_eq_emod_of_nonneg (Int.natCast_nonneg _)]; rfl
theorem or_low (a b : Nat) (h : b < 128) : a * 128 ||| b = a * 128 + b := by
  have := Nat.two_pow_add_eq_or_of_lt (i := 7) (b := b) (by omega) a
  rw [show 2 ^ 7 * a + b = a * 128 + b by omega, show 2 ^ 7 * a = a * 128 by omega] at this
  exact this.symm
theorem or64_nat {a b : Nat} (ha : a < 9223372036854775808) (hb : b < 9223372036854775808) : or64 (a : Int) (b : Int) = ((a ||| b : Nat) : Int) := by
  have h : a ||| b < 2 ^ 63 := Nat.or_lt_two_pow (by omega) (by omega)
  show w64 ((BitVec.ofInt 64 (a : Int) ||| BitVec.ofInt 64 (b : Int) : BitVec 64).toNat : Int) = _
  rw [BitVec.toNat_or, BitVec.toNat_ofInt, BitVec.toNat_ofInt]
  have e1 : ((a : Int) % ((2 ^ 64 : Nat) : Int)).toNat = a := by omega
  have e2 : ((b : Int) % ((2 ^ 64 : Nat) : Int)).toNat = b := by omega
  rw [e1, e2, w64_eq (by omega) (by omega)]
theorem shl64_7 {a : Nat} (ha : a < 72057594037927936) : shl64 (a : Int) 7 = ((a * 128 : Nat) : Int) := by
  unfold shl64
  rw [w64_eq] <;> simp <;> omega
theorem or64_7 {a b : Nat} (ha : a < 72057594037927936) (hb : b < 128) : or64 (shl64 (a : Int) 7) (b : Int) = ((a * 128 + b : Nat) : Int) := by
  rw [shl64_7 ha, or64_nat (by omega) (by omega), or_low a b hb]
theorem byte_and (x : BitVec 8) : (x &&& 127#8).toNat = x.toNat % 128 := by
  rw [BitVec.toNat_and, show (127#8).toNat = 2 ^ 7 - 1 from rfl, Nat.and_two_pow_sub_one_eq_mod]
theorem byte_or (x : BitVec 8) : x ||| 128#8 = BitVec.ofNat 8 (x.toNat % 128 + 128) := by
  have : ∀ y : Fin 256, (BitVec.ofFin y : BitVec 8) ||| 128#8 = BitVec.ofNat 8 ((BitVec.ofFin y : BitVec 8).toNat % 128 + 128) := by decide +kernel
  exact this x.toFin
theorem byte_and' (x : BitVec 8) : x &&& 127#8 = BitVec.ofNat 8 (x.toNat % 128) := by
  apply BitVec.eq_of_toNat_eq
  rw [byte_and]; simp
  have := x.isLt
  omega
theorem byte_int (n : Nat) : BitVec.ofInt 8 (n : Int) = BitVec.ofNat 8 n := by
  apply BitVec.eq_of_toNat_eq
  simp [BitVec.toNat_ofInt]
theorem byte_hi (n : Nat) : BitVec.ofInt 8 (n : Int) ||| 128#8 = BitVec.ofNat 8 (n % 128 + 128) := by
  rw [byte_int, byte_or]; congr 1; simp
theorem byte_lo (n : Nat) : BitVec.ofInt 8 (n : Int) &&& 127#8 = BitVec.ofNat 8 (n % 128) := by
  rw [byte_int, byte_and']; congr 1; simp
/-! ### seven bits a byte -/
/-- The bytes that go on. -/
def pre (m : Nat) : List (BitVec 8) := if m = 0 then [] else pre (m / 128) ++ [BitVec.ofNat 8 (m % 128 + 128)]
termination_by m
decreasing_by omega
def num7 (n : Nat) : List (BitVec 8) := pre (n / 128) ++ [BitVec.ofNat 8 (n % 128)]
theorem pre_zero : pre 0 = [] := by rw [pre]; rfl
theorem pre_pos {m : Nat} (h : 0 < m) : pre m = pre (m / 128) ++ [BitVec.ofNat 8 (m % 128 + 128)] := by
  rw [pre, if_neg (by omega)]
theorem pre_len : ∀ (k m : Nat), m < 128 ^ k → (pre m).length ≤ k
  | 0, m, h => by
    have : m = 0 := by simpa using h
    subst this; rw [pre_zero]; simp
  | k + 1, m, h => by
    by_cases h0 : m = 0
    · subst h0; rw [pre_zero]; simp
    · rw [pre_pos (by omega)]
      have := pre_len k (m / 128) (by rw [Nat.div_lt_iff_lt_mul (by decide)]; rw [Nat.pow_succ] at h; exact h)
      simp; exact this
theorem num7_len {n : Nat} (h : n < 9223372036854775808) : (num7 n).length ≤ 9 := by
  have := pre_len 8 (n / 128) (by omega)
  simp [num7]; omega
theorem num7_small {n : Nat} (h : n < 128) : num7 n = [BitVec.ofNat 8 n] := by
  rw [num7, show n / 128 = 0 by omega, pre_zero, Nat.mod_eq_of_lt h]; rfl
/-- The same from the highest one on. -/
def seq7 (n : Nat) : Nat → List (BitVec 8)
  | 0 => []
  | c + 1 => BitVec.ofNat 8 (n / 128 ^ (c + 1) % 128 + 128) :: seq7 n c
theorem seq7_snoc (n : Nat) : ∀ c, seq7 n (c + 1) = seq7 (n / 128) c ++ [BitVec.ofNat 8 (n / 128 % 128 + 128)]
  | 0 => by simp [seq7]
  | c + 1 => by
    rw [seq7, seq7_snoc n c, seq7]
    simp only [List.cons_append]
    rw [Nat.div_div_eq_div_mul, ← Nat.pow_succ']
theorem seq7_pre : ∀ (h n : Nat), n / 128 ^ h < 128 → (∀ j, j < h → 128 ≤ n / 128 ^ j) → seq7 n h = pre (n / 128)
  | 0, n, h1, h2 => by
    rw [show n / 128 = 0 by simp at h1; omega, pre_zero]; rfl
  | h + 1, n, h1, h2 => by
    have h0 := h2 0 (by omega)
    simp at h0
    rw [seq7_snoc, pre_pos (by omega), seq7_pre h (n / 128) (by rw [Nat.div_div_eq_div_mul, ← Nat.pow_succ']; exact h1) (fun j hj => by
      rw [Nat.div_div_eq_div_mul, ← Nat.pow_succ']; exact h2 (j + 1) (by omega))]
/-- How many bytes. -/
def nlen (n : Nat) : Nat := if n < 128 then 1 else nlen (n / 128) + 1
termination_by n
decreasing_by omega
theorem nlen_lt {n : Nat} (h : n < 128) : nlen n = 1 := by rw [nlen, if_pos h]
theorem nlen_ge {n : Nat} (h : 128 ≤ n) : nlen n = nlen (n / 128) + 1 := by rw [nlen, if_neg (by omega)]
/-! ### reading -/
def up7 : Int ⊕ (Nat × Nat) → Int ⊕ (Nat × Nat)
  | .inl e => .inl e
  | .inr (m, k) => .inr (m, k + 1)
/-- What a number is that begins here, and how many bytes it has; or what is wrong first. -/
def rd7 (most : Nat) : List (BitVec 8) → Bool → Nat → Int ⊕ (Nat × Nat)
  | [], _, _ => .inl 6
  | c :: l, f, n =>
    if c = 128#8 ∧ f = true then .inl 5 else if most / 128 < n then .inl 2 else
    if 128 ≤ c.toNat then up7 (rd7 most l false (n * 128 + c.toNat % 128))
    else if most < n * 128 + c.toNat then .inl 2 else .inr (n * 128 + c.toNat, 1)
theorem rd7_le {most : Nat} : ∀ {l : List (BitVec 8)} {f : Bool} {n m k : Nat}, rd7 most l f n = .inr (m, k) → m ≤ most ∧ 1 ≤ k ∧ k ≤ l.length
  | [], f, n, m, k, h => by simp [rd7] at h
  | c :: l, f, n, m, k, h => by
    simp only [rd7] at h
    split at h
    · cases h
    · split at h
      · cases h
      · split at h
        · cases hr : rd7 most l false (n * 128 + c.toNat % 128) with
          | inl e => rw [hr] at h; cases h
          | inr p =>
            obtain ⟨m', k'⟩ := p
            rw [hr] at h
            simp only [up7, Sum.inr.injEq, Prod.mk.injEq] at h
            obtain ⟨rfl, rfl⟩ := h
            have := rd7_le hr
            simp; omega
        · split at h
          · cases h
          · simp only [Sum.inr.injEq, Prod.mk.injEq] at h
            obtain ⟨rfl, rfl⟩ := h
            simp; omega
end Go.Va
namespace Go.Proofs.YtkmlinaofbcbaaaDoor
open Go Go.Va
set_option linter.unusedVariables false
set_option linter.unusedSimpArgs false
set_option maxRecDepth 20000
noncomputable def butteryref02_num_b0  (c9 : List (BitVec 8)) (c10 : Int) : Option (((List (BitVec 8)) × Int) ⊕ ((List (BitVec 8)))) :=
  lt (decide (c10 > (0 : Int))) fun v22 =>
  if v22 = true then
    lt (Int.tmod c10 (128 : Int)) fun v25 =>
    lt (w64 (v25 + (128 : Int))) fun v27 =>
    lt (BitVec.ofInt 8 v27) fun v29 =>
    lt (([v29] : List (BitVec 8))) fun v31 =>
    (app 1 v31 c9).bind fun v33 =>
    lt (quo64 c10 (128 : Int)) fun v37 =>
    some (.inl (v33, v37))
  else
    some (.inr c9)
noncomputable def butteryref02_num_l0  (s : (List (BitVec 8)) × Int) : Option ((List (BitVec 8))) := loopO (fun s => butteryref02_num_b0 s.1 s.2) s
noncomputable def butteryref02_num (x0 : Int) : Option ((List (BitVec 8))) :=
  lt (Int.tmod x0 (128 : Int)) fun v2 =>
  lt (BitVec.ofInt 8 v2) fun v4 =>
  lt (([v4] : List (BitVec 8))) fun v6 =>
  lt (quo64 x0 (128 : Int)) fun v8 =>
  (butteryref02_num_l0 (v6, v8)).bind fun s19 =>
    some s19
end Go.Proofs.YtkmlinaofbcbaaaDoor
namespace Go.Proofs.YtkmlinaofbcbaaaDoor
open Go Go.Va
set_option linter.unusedVariables false
set_option linter.unusedSimpArgs false
set_option maxRecDepth 20000
noncomputable def butteryref02_Put_b0 (x1 : List Int) (c5 : List (BitVec 8)) (c6 : Int) : Option (((List (BitVec 8)) × Int) ⊕ ((List (BitVec 8)))) :=
  lt (((x1).length : Int)) fun v17 =>
  lt (decide (c6 < v17)) fun v19 =>
  if v19 = true then
    (ix x1 c6).bind fun v22 =>
    (butteryref02_num v22).bind fun v24 =>
    (app 1 c5 v24).bind fun v26 =>
    lt (w64 (c6 + (1 : Int))) fun v30 =>
    some (.inl (v26, v30))
  else
    some (.inr c5)
noncomputable def butteryref02_Put_l0 (x1 : List Int) (s : (List (BitVec 8)) × Int) : Option ((List (BitVec 8))) := loopO (fun s => butteryref02_Put_b0 x1 s.1 s.2) s
noncomputable def butteryref02_Put (x0 : List (BitVec 8)) (x1 : List Int) : Option ((List (BitVec 8))) :=
  (app 1 ([] : List (BitVec 8)) x0).bind fun v2 =>
  (butteryref02_Put_l0 x1 (v2, (0 : Int))).bind fun s14 =>
    some s14
end Go.Proofs.YtkmlinaofbcbaaaDoor
namespace Go.Proofs.YtkmlinaofbcbaaaDoor
open Go Go.Va
set_option linter.unusedVariables false
set_option linter.unusedSimpArgs false
set_option maxRecDepth 20000
noncomputable def butteryref02_Bytes (x0 : List (BitVec 8)) (x1 : List (BitVec 8)) : Option ((List (BitVec 8))) :=
  lt (((x1).length : Int)) fun v2 =>
  lt (([v2] : List Int)) fun v4 =>
  (butteryref02_Put x0 v4).bind fun v6 =>
  (app 1 v6 x1).bind fun v9 =>
  some v9
end Go.Proofs.YtkmlinaofbcbaaaDoor
namespace Go.Proofs.YtkmlinaofbcbaaaDoor
open Go Go.Va
set_option linter.unusedVariables false
set_option linter.unusedSimpArgs false
theorem same_eq (x y : List (BitVec 8)) (hx : x.length < 9223372036854775807) : butteryref02_Same x y = some (decide (x = y)) := by
  unfold butteryref02_Same
  simp only [lt_eq]
  by_cases hl : x.length = y.length
  · rw [if_neg (by simp [hl])]
    have h := loopO_find (body := fun s => butteryref02_Same_b0 x y s) (fun i : Nat => (i : Int)) x.length (fun i => if x[i]? ≠ y[i]? then some (Sum.inr false) else none) (x := .inl ()) (fun i hi => by
      simp only [butteryref02_Same_b0, lt_eq, ix_nat hi, ix_nat (show i < y.length by omega), Option.bind_some]
      rw [if_pos (by simpa using hi)]
      by_cases he : x[i] = y[i]
      · rw [if_neg (by simp [he]), if_neg (by simp [hi, show i < y.length by omega, he]), w64_nat (by omega)]; rfl
      · rw [if_pos (by simpa using he), if_pos (by simp [hi, show i < y.length by omega, he])]; rfl) (by simp [butteryref02_Same_b0, lt_eq])
    rw [show ((0 : Nat) : Int) = 0 from rfl] at h
    simp only [butteryref02_Same_l0, h, Option.bind_some]
    by_cases he : x = y
    · rw [List.findSome?_eq_none_iff.2 (fun i _ => by rw [if_neg (by simp [he])])]
      simp [he]
    · cases hf : (List.range x.length).findSome? (fun i => if x[i]? ≠ y[i]? then some (Sum.inr (α := Unit) false) else none) with
      | none =>
        refine absurd (List.ext_getElem? fun i => ?_) he
        have h1 := List.findSome?_eq_none_iff.1 hf
        rcases Nat.lt_or_ge i x.length with hi | hi
        · have := h1 i (by simpa using hi)
          by_cases hne : x[i]? = y[i]?
          · exact hne
          · rw [if_pos hne] at this; cases this
        · rw [List.getElem?_eq_none hi, List.getElem?_eq_none (by omega)]
      | some w =>
        obtain ⟨i, _, h2⟩ := List.exists_of_findSome?_eq_some hf
        split at h2
        · cases h2; simp [he]
        · cases h2
  · rw [if_pos (by simpa using fun e => hl (by exact_mod_cast e))]
    rw [decide_eq_false (fun e => hl (by rw [e]))]
theorem refnum_l : ∀ (k m : Nat) (out : List (BitVec 8)), m < 128 ^ k → m < 9223372036854775808 → out.length + k ≤ 1000 → butteryref02_num_l0 (out, (m : Int)) = some (pre m ++ out)
  | 0, m, out, h, h2, hl => by
    have : m = 0 := by simpa using h
    subst this
    rw [pre_zero]
    exact loopO_out (by simp [butteryref02_num_b0, lt_eq])
  | k + 1, m, out, h, h2, hl => by
    by_cases h0 : m = 0
    · subst h0
      rw [pre_zero]
      exact loopO_out (by simp [butteryref02_num_b0, lt_eq])
    · have hb : butteryref02_num_b0 out (m : Int) = some (.inl (BitVec.ofNat 8 (m % 128 + 128) :: out, ((m / 128 : Nat) : Int))) := by
        simp only [butteryref02_num_b0, lt_eq]
        rw [if_pos (by simp; omega)]
        have e1 : Int.tmod (m : Int) 128 = ((m % 128 : Nat) : Int) := tmod_nat m 128
        have e2 : quo64 (m : Int) 128 = ((m / 128 : Nat) : Int) := quo64_nat h2
        rw [e1, e2, w64_eq (by omega) (by omega), app_eq (by simp; omega)]
        rw [show (((m % 128 : Nat) : Int) + 128) = ((m % 128 + 128 : Nat) : Int) by omega, byte_int]
        rfl
      have := loopO_in (body := fun s => butteryref02_num_b0 s.1 s.2) (s := (out, (m : Int))) hb
      rw [butteryref02_num_l0, this]
      have ih := refnum_l k (m / 128) (BitVec.ofNat 8 (m % 128 + 128) :: out) (by rw [Nat.div_lt_iff_lt_mul (by decide)]; rw [Nat.pow_succ] at h; exact h) (by omega) (by simp; omega)
      rw [butteryref02_num_l0] at ih
      rw [ih, pre_pos (m := m) (by omega)]
      simp
theorem refnum_eq {n : Nat} (h : n < 9223372036854775808) : butteryref02_num (n : Int) = some (num7 n) := by
  simp only [butteryref02_num, lt_eq]
  have e1 : Int.tmod (n : Int) 128 = ((n % 128 : Nat) : Int) := tmod_nat n 128
  have e2 : quo64 (n : Int) 128 = ((n / 128 : Nat) : Int) := quo64_nat h
  rw [e1, e2, byte_int, refnum_l 9 (n / 128) _ (by omega) (by omega) (by simp)]
  rfl
/-- Numbers one behind the other. -/
def nums (l : List Int) : List (BitVec 8) := l.flatMap fun n => num7 n.toNat
def okN (l : List Int) : Prop := l.length ≤ 1000 ∧ ∀ n ∈ l, 0 ≤ n ∧ n ≤ 9223372036854775807
theorem nums_len : ∀ {l : List Int}, (∀ n ∈ l, 0 ≤ n ∧ n ≤ 9223372036854775807) → (nums l).length ≤ 9 * l.length
  | [], _ => Nat.le_refl _
  | n :: l, h => by
    have h1 := nums_len (l := l) (fun m hm => h m (List.mem_cons_of_mem _ hm))
    have h2 := h n List.mem_cons_self
    have h3 := num7_len (n := n.toNat) (by omega)
    simp only [nums, List.flatMap_cons, List.length_append, List.length_cons] at h1 ⊢
    omega
theorem nums_snoc (l : List Int) (n : Int) : nums (l ++ [n]) = nums l ++ num7 n.toNat := by simp [nums]
theorem refPut_eq (b : List (BitVec 8)) {l : List Int} (hb : b.length ≤ 1000000) (hl : okN l) : butteryref02_Put b l = some (b ++ nums l) := by
  simp only [butteryref02_Put]
  rw [app_eq (by simp; omega)]
  simp only [List.nil_append, Option.bind_some]
  have h := loopO_up (body := fun s => butteryref02_Put_b0 l s.1 s.2) (fun i => (b ++ nums (l.take i), (i : Int))) l.length (x := b ++ nums l) (fun i hi => by
    obtain ⟨hn0, hn1⟩ := hl.2 _ (List.getElem_mem hi)
    have hn : butteryref02_num l[i] = some (num7 l[i].toNat) := by
      have := refnum_eq (n := l[i].toNat) (by omega)
      rwa [Int.toNat_of_nonneg hn0] at this
    have h1 := nums_len (l := l.take i) (fun m hm => hl.2 m (List.mem_of_mem_take hm))
    have h2 := num7_len (n := l[i].toNat) (by omega)
    have h3 := hl.1
    simp only [List.length_take] at h1
    simp only [butteryref02_Put_b0, lt_eq, ix_nat hi, Option.bind_some, hn]
    rw [if_pos (by simpa using hi), app_eq (by simp only [List.length_append]; omega), w64_nat (by omega)]
    simp only [Option.bind_some]
    rw [List.take_succ_eq_append_getElem hi, nums_snoc, List.append_assoc]) (by simp [butteryref02_Put_b0, lt_eq])
  simp only [butteryref02_Put_l0]
  have h0 : b ++ nums (l.take 0) = b := by simp [nums]
  rw [h0] at h
  rw [show ((0 : Nat) : Int) = 0 from rfl] at h
  rw [h]; rfl
theorem oct_l1 (l : List Int) (v6 : Int) (c7 : List (BitVec 8)) (c8 : Int) {n : Nat} (hn : n < 9223372036854775808) : ∃ h : Nat, octets_Put_l1 l v6 c7 c8 (n : Int) 0 = some (h : Int) ∧ h ≤ 9 ∧ n / 128 ^ h < 128 ∧ ∀ j, j < h → 128 ≤ n / 128 ^ j := by
  have key := loopO_inv (body := fun s => octets_Put_b1 l v6 c7 c8 (n : Int) s) (fun s => ∃ h : Nat, s = (h : Int) ∧ h ≤ 9 ∧ ∀ j, j < h → 128 ≤ n / 128 ^ j) (fun s => 10 - s.toNat) (fun x => ∃ h : Nat, x = (h : Int) ∧ h ≤ 9 ∧ n / 128 ^ h < 128 ∧ ∀ j, j < h → 128 ≤ n / 128 ^ j) (fun s => by
    rintro ⟨h, rfl, h9, hj⟩
    have ew : w64 (7 * (h : Int)) = ((7 * h : Nat) : Int) := by rw [w64_eq (by omega) (by omega)]; omega
    have es : shr64 (n : Int) (7 * h) = ((n / 128 ^ h : Nat) : Int) := by
      rw [shr64_nat (by omega), Nat.pow_mul]
    simp only [octets_Put_b1, lt_eq, ew, sc_eq (Int.natCast_nonneg _), Int.toNat_natCast, Option.map_some, Option.bind_some, es]
    by_cases hc : 128 ≤ n / 128 ^ h
    · left
      have h8 : h ≤ 8 := by
        rcases Nat.lt_or_ge 8 h with h8 | h8
        · have : h = 9 := by omega
          subst this
          omega
        · exact h8
      refine ⟨((h + 1 : Nat) : Int), ?_, ⟨h + 1, rfl, by omega, fun j hj' => ?_⟩, by omega⟩
      · rw [if_pos (decide_eq_true (show ((n / 128 ^ h : Nat) : Int) ≥ 128 by omega)), w64_nat (by omega)]
      · by_cases e : j = h
        · subst e; exact hc
        · exact hj j (by omega)
    · right
      exact ⟨_, by rw [if_neg (by rw [decide_eq_false (show ¬ ((n / 128 ^ h : Nat) : Int) ≥ 128 by omega)]; simp)], h, rfl, h9, by omega, hj⟩) (s := 0) ⟨0, rfl, by omega, fun j hj => by omega⟩
  obtain ⟨x, h1, h, rfl, h2⟩ := key
  exact ⟨h, h1, h2⟩
theorem oct_l2 (l : List Int) (v6 : Int) (c8 : Int) {n : Nat} : ∀ (h : Nat) (out : List (BitVec 8)), h ≤ 9 → out.length + h ≤ 100000000 → octets_Put_l2 l v6 c8 (n : Int) (out, (h : Int)) = some (out ++ seq7 n h)
  | 0, out, h9, hl => by
    simp only [seq7, List.append_nil]
    exact loopO_out (by simp [octets_Put_b2, lt_eq])
  | h + 1, out, h9, hl => by
    have ew : w64 (7 * ((h + 1 : Nat) : Int)) = ((7 * (h + 1) : Nat) : Int) := by rw [w64_eq (by omega) (by omega)]; omega
    have es : shr64 (n : Int) (7 * (h + 1)) = ((n / 128 ^ (h + 1) : Nat) : Int) := by
      rw [shr64_nat (by omega), Nat.pow_mul]
    have hb : octets_Put_b2 l v6 c8 (n : Int) out ((h + 1 : Nat) : Int) = some (.inl (out ++ [BitVec.ofNat 8 (n / 128 ^ (h + 1) % 128 + 128)], (h : Int))) := by
      simp only [octets_Put_b2, lt_eq, ew, sc_eq (Int.natCast_nonneg _), Int.toNat_natCast, Option.map_some, Option.bind_some, es]
      rw [if_pos (decide_eq_true (by omega)), app_eq (by simp; omega), byte_hi, w64_eq (by omega) (by omega)]
      simp only [Option.bind_some]
      rw [show (((h + 1 : Nat) : Int) - 1) = (h : Int) by omega]
    have := loopO_in (body := fun s => octets_Put_b2 l v6 c8 (n : Int) s.1 s.2) (s := (out, ((h + 1 : Nat) : Int))) hb
    rw [octets_Put_l2, this]
    have ih := oct_l2 l v6 c8 (n := n) h (out ++ [BitVec.ofNat 8 (n / 128 ^ (h + 1) % 128 + 128)]) (by omega) (by simp; omega)
    rw [octets_Put_l2] at ih
    rw [ih, seq7, List.append_assoc]; rfl
theorem octPut_eq (b : List (BitVec 8)) {l : List Int} (hb : b.length ≤ 1000000) (hl : okN l) : octets_Put b l = some (b ++ nums l) := by
  simp only [octets_Put]
  rw [app_eq (by simp; omega)]
  simp only [List.nil_append, Option.bind_some, lt_eq]
  have h := loopO_up (body := fun s => octets_Put_b0 l (l.length : Int) s.1 s.2) (fun i => (b ++ nums (l.take i), (i : Int))) l.length (x := b ++ nums l) (fun i hi => by
    obtain ⟨hn0, hn1⟩ := hl.2 _ (List.getElem_mem hi)
    obtain ⟨n, hn⟩ : ∃ n : Nat, l[i] = (n : Int) := ⟨l[i].toNat, by omega⟩
    have hlt : n < 9223372036854775808 := by omega
    have h1 := nums_len (l := l.take i) (fun m hm => hl.2 m (List.mem_of_mem_take hm))
    have h3 := hl.1
    simp only [List.length_take] at h1
    obtain ⟨h, k1, k2, k3, k4⟩ := oct_l1 l (l.length : Int) (b ++ nums (l.take i)) (i : Int) hlt
    have h2 := num7_len hlt
    have hs := seq7_pre h n k3 k4
    simp only [octets_Put_b0, lt_eq, ix_nat hi, Option.bind_some, hn, k1]
    rw [oct_l2 l _ _ h _ k2 (by simp only [List.length_append]; omega), hs]
    have h2' : (pre (n / 128)).length ≤ 9 := by simp [num7] at h2; omega
    simp only [Option.bind_some, byte_lo]
    rw [if_pos (by simpa using hi), app_eq (by simp only [List.length_append, List.length_cons, List.length_nil]; omega), w64_nat (by omega)]
    simp only [Option.bind_some]
    rw [List.take_succ_eq_append_getElem hi, nums_snoc, hn, Int.toNat_natCast, num7]
    simp only [List.append_assoc]) (by simp [octets_Put_b0, lt_eq])
  simp only [octets_Put_l0]
  have h0 : b ++ nums (l.take 0) = b := by simp [nums]
  rw [h0] at h
  rw [show ((0 : Nat) : Int) = 0 from rfl] at h
  rw [h]; rfl
theorem okN_one {n : Nat} (h : n < 9223372036854775808) : okN [(n : Int)] := ⟨by simp, fun m hm => by simp at hm; omega⟩
theorem octBytes_eq (b t : List (BitVec 8)) (hb : b.length ≤ 1000000) (ht : t.length ≤ 1000000) : octets_Bytes b t = some (b ++ num7 t.length ++ t) := by
  have h2 := num7_len (n := t.length) (by omega)
  simp only [octets_Bytes, lt_eq, octPut_eq b hb (okN_one (n := t.length) (by omega)), Option.bind_some, nums, List.flatMap_cons, List.flatMap_nil, List.append_nil, Int.toNat_natCast]
  rw [app_eq (by simp only [List.length_append]; omega)]; rfl
theorem refBytes_eq (b t : List (BitVec 8)) (hb : b.length ≤ 1000000) (ht : t.length ≤ 1000000) : butteryref02_Bytes b t = some (b ++ num7 t.length ++ t) := by
  have h2 := num7_len (n := t.length) (by omega)
  simp only [butteryref02_Bytes, lt_eq, refPut_eq b hb (okN_one (n := t.length) (by omega)), Option.bind_some, nums, List.flatMap_cons, List.flatMap_nil, List.append_nil, Int.toNat_natCast]
  rw [app_eq (by simp only [List.length_append]; omega)]; rfl
end Go.Proofs.YtkmlinaofbcbaaaDoor
namespace Go.Proofs.YtkmlinaofbcbaaaDoor
open Go Go.Va
set_option linter.unusedVariables false
set_option linter.unusedSimpArgs false
/-- The first i bytes of a word. -/
def wd (n : BitVec 64) (i : Nat) : List (BitVec 8) := (List.range i).map fun j => (n >>> (56 - 8 * j)).setWidth 8
theorem wd_succ (n : BitVec 64) (i : Nat) : wd n (i + 1) = wd n i ++ [(n >>> (56 - 8 * i)).setWidth 8] := by
  simp [wd, List.range_succ]
theorem wd_len (n : BitVec 64) (i : Nat) : (wd n i).length = i := by simp [wd]
theorem shr35 {n : Nat} : shr64 (n : Int) 35 = ((n / 34359738368 : Nat) : Int) := by rw [shr64_nat (by omega)]
theorem octLen_n {n : Nat} (h : n < 9223372036854775808) : ∀ k, octets_Len_n (k + 3) (n : Int) = some (nlen n : Int) := by
  have hs : ∀ (rec : Int → Option Int) {n : Nat}, n < 34359738368 → octets_Len_F rec (n : Int) = some (nlen n : Int) := by
    intro rec n hn
    simp only [octets_Len_F, lt_eq]
    rw [if_neg (by rw [decide_eq_false (by omega)]; simp)]
    by_cases h4 : 268435456 ≤ n
    · rw [if_pos (decide_eq_true (by omega)), nlen_ge (by omega), nlen_ge (by omega), nlen_ge (by omega), nlen_ge (by omega), nlen_lt (by omega)]; rfl
    rw [if_neg (by rw [decide_eq_false (by omega)]; simp)]
    by_cases h3 : 2097152 ≤ n
    · rw [if_pos (decide_eq_true (by omega)), nlen_ge (by omega), nlen_ge (by omega), nlen_ge (by omega), nlen_lt (by omega)]; rfl
    rw [if_neg (by rw [decide_eq_false (by omega)]; simp)]
    by_cases h2 : 16384 ≤ n
    · rw [if_pos (decide_eq_true (by omega)), nlen_ge (by omega), nlen_ge (by omega), nlen_lt (by omega)]; rfl
    rw [if_neg (by rw [decide_eq_false (by omega)]; simp)]
    by_cases h1 : 128 ≤ n
    · rw [if_pos (decide_eq_true (by omega)), nlen_ge (by omega), nlen_lt (by omega)]; rfl
    rw [if_neg (by rw [decide_eq_false (by omega)]; simp), nlen_lt (by omega)]; rfl
  intro k
  by_cases hn : n < 34359738368
  · exact hs (octets_Len_n (k + 2)) hn
  · show octets_Len_F (octets_Len_n (k + 2)) (n : Int) = _
    simp only [octets_Len_F, lt_eq]
    rw [if_pos (decide_eq_true (by omega)), shr35]
    have : octets_Len_n (k + 2) ((n / 34359738368 : Nat) : Int) = _ := hs (octets_Len_n (k + 1)) (by omega)
    rw [this, Option.bind_some]
    have hq : nlen n = nlen (n / 34359738368) + 5 := by
      rw [nlen_ge (n := n) (by omega), nlen_ge (n := n / 128) (by omega), nlen_ge (n := n / 128 / 128) (by omega), nlen_ge (n := n / 128 / 128 / 128) (by omega), nlen_ge (n := n / 128 / 128 / 128 / 128) (by omega)]
      rw [show n / 128 / 128 / 128 / 128 / 128 = n / 34359738368 by omega]
    have hb : nlen (n / 34359738368) ≤ 10 := by
      have : n / 34359738368 < 268435456 := by omega
      generalize n / 34359738368 = m at this
      rcases Nat.lt_or_ge m 128 with h1 | h1
      · rw [nlen_lt h1]; omega
      rw [nlen_ge h1]
      rcases Nat.lt_or_ge (m / 128) 128 with h2 | h2
      · rw [nlen_lt h2]; omega
      rw [nlen_ge h2]
      rcases Nat.lt_or_ge (m / 128 / 128) 128 with h3 | h3
      · rw [nlen_lt h3]; omega
      rw [nlen_ge h3, nlen_lt (by omega)]; omega
    rw [w64_eq (by omega) (by omega), hq]
    congr 1; omega
theorem octLen_eq {n : Nat} (h : n < 9223372036854775808) : octets_Len (n : Int) = some (nlen n : Int) := octLen_n h 999997
theorem key_eq (x : List (BitVec 8)) : octets_Key x = butteryref02_Key x := by
  simp only [octets_Key, butteryref02_Key, lt_eq]
  cases x with
  | nil => rfl
  | cons a x => rw [if_neg (show ¬ ((((a :: x).length : Int) == 0) = true) by simp; omega), if_neg (show ¬ ((a :: x == []) = true) by simp)]
theorem key_some (x : List (BitVec 8)) : ∃ v, octets_Key x = some v := by
  simp only [octets_Key, lt_eq]
  split
  · exact ⟨_, rfl⟩
  · split <;> exact ⟨_, rfl⟩
end Go.Proofs.YtkmlinaofbcbaaaDoor
namespace Go.Proofs.YtkmlinaofbcbaaaDoor
open Go Go.Va
set_option linter.unusedVariables false
set_option linter.unusedSimpArgs false
set_option maxRecDepth 20000
noncomputable def octets_Reader_End (x0 : octets_Reader) : Option (Int × octets_Reader) :=
  (octets_Reader_Left x0).bind fun v2 =>
  lt (decide (v2 > (0 : Int))) fun v4 =>
  (
    if v4 = true then
      (octets_Reader_Fail x0 (5 : Int)).bind fun v11 =>
      some v11
    else
      some x0
   : Option (octets_Reader)).bind fun s5 =>
    some (s5.code, s5)
end Go.Proofs.YtkmlinaofbcbaaaDoor
namespace Go.Proofs.YtkmlinaofbcbaaaDoor
open Go Go.Va
set_option linter.unusedVariables false
set_option linter.unusedSimpArgs false
set_option maxRecDepth 20000
noncomputable def butteryref02_fail (x0 : butteryref02_Reader) (x1 : Int) : Option (butteryref02_Reader) :=
  lt (x0.Code == (0 : Int)) fun v7 =>
  if v7 = true then
    lt (({ (x0 : butteryref02_Reader) with Code := x1 } : butteryref02_Reader)) fun c10 =>
    some (c10 : butteryref02_Reader)
  else
    some ((x0 : butteryref02_Reader) : butteryref02_Reader)
end Go.Proofs.YtkmlinaofbcbaaaDoor
namespace Go.Proofs.YtkmlinaofbcbaaaDoor
open Go Go.Va
set_option linter.unusedVariables false
set_option linter.unusedSimpArgs false
set_option maxRecDepth 20000
noncomputable def butteryref02_Number_b0 (x0 : butteryref02_Reader) (x1 : Int) (c7 : Int) (c8 : Int) : Option ((Int × Int) ⊕ (Unit ⊕ (butteryref02_Reader × Int))) :=
  lt (((x0.B).length : Int)) fun v19 =>
  lt (decide (c8 < v19)) fun v21 =>
  if v21 = true then
    (ix x0.B c8).bind fun v24 =>
    lt ((BitVec.toNat v24 : Int)) fun v26 =>
    (
      lt (v26 == (128 : Int)) fun v32 =>
      if v32 = true then
        lt (c8 == x0.At) fun v35 =>
        some v35
      else
        some false
     : Option (Bool)).bind fun s27 =>
      if s27 = true then
        (butteryref02_fail x0 (5 : Int)).bind fun v39 =>
        some (.inr (.inr ((v39 : butteryref02_Reader), (0 : Int))))
      else
        lt (quo64 x1 (128 : Int)) fun v43 =>
        lt (decide (c7 > v43)) fun v45 =>
        if v45 = true then
          (butteryref02_fail x0 (2 : Int)).bind fun v48 =>
          some (.inr (.inr ((v48 : butteryref02_Reader), (0 : Int))))
        else
          lt (w64 (c7 * (128 : Int))) fun v52 =>
          lt (Int.tmod v26 (128 : Int)) fun v54 =>
          lt (w64 (v52 + v54)) fun v56 =>
          lt (decide (v26 ≥ (128 : Int))) fun v58 =>
          if v58 = true then
            lt (w64 (c8 + (1 : Int))) fun v61 =>
            some (.inl (v56, v61))
          else
            lt (decide (v56 > x1)) fun v63 =>
            if v63 = true then
              (butteryref02_fail x0 (2 : Int)).bind fun v66 =>
              some (.inr (.inr ((v66 : butteryref02_Reader), (0 : Int))))
            else
              lt (w64 (c8 + (1 : Int))) fun v73 =>
              lt (({ (x0 : butteryref02_Reader) with At := v73 } : butteryref02_Reader)) fun c75 =>
              some (.inr (.inr ((c75 : butteryref02_Reader), v56)))
  else
    some (.inr (.inl ()))
noncomputable def butteryref02_Number_l0 (x0 : butteryref02_Reader) (x1 : Int) (s : Int × Int) : Option (Unit ⊕ (butteryref02_Reader × Int)) := loopO (fun s => butteryref02_Number_b0 x0 x1 s.1 s.2) s
noncomputable def butteryref02_Number (x0 : butteryref02_Reader) (x1 : Int) : Option (butteryref02_Reader × Int) :=
  lt (x0.Code != (0 : Int)) fun v4 =>
  if v4 = true then
    some ((x0 : butteryref02_Reader), (0 : Int))
  else
    (butteryref02_Number_l0 x0 x1 ((0 : Int), x0.At)).bind fun o9 =>
      Sum.elim (fun s16 : Unit =>
        (butteryref02_fail x0 (6 : Int)).bind fun v81 =>
        some ((v81 : butteryref02_Reader), (0 : Int))
        ) (fun y => some y) o9
end Go.Proofs.YtkmlinaofbcbaaaDoor
namespace Go.Proofs.YtkmlinaofbcbaaaDoor
open Go Go.Va
set_option linter.unusedVariables false
set_option linter.unusedSimpArgs false
set_option maxRecDepth 20000
noncomputable def butteryref02_Text (x0 : butteryref02_Reader) (x1 : Int) : Option (butteryref02_Reader × (List (BitVec 8))) :=
  (butteryref02_Number x0 x1).bind fun v4 =>
  lt (((v4.1 : butteryref02_Reader).Code) != (0 : Int)) fun v9 =>
  if v9 = true then
    some (((v4.1 : butteryref02_Reader) : butteryref02_Reader), [])
  else
    lt ((((v4.1 : butteryref02_Reader).B).length : Int)) fun v13 =>
    lt (w64 (v13 - ((v4.1 : butteryref02_Reader).At))) fun v15 =>
    lt (decide (v4.2 > v15)) fun v17 =>
    if v17 = true then
      (butteryref02_fail x0 (6 : Int)).bind fun v20 =>
      some ((v20 : butteryref02_Reader), [])
    else
      lt (w64 (((v4.1 : butteryref02_Reader).At) + v4.2)) fun v23 =>
      (cutO ((v4.1 : butteryref02_Reader).B) ((v4.1 : butteryref02_Reader).At) v23).bind fun v25 =>
      (app 1 ([] : List (BitVec 8)) v25).bind fun v27 =>
      lt (w64 (((v4.1 : butteryref02_Reader).At) + v4.2)) fun v31 =>
      lt (({ (v4.1 : butteryref02_Reader) with At := v31 } : butteryref02_Reader)) fun c33 =>
      some ((c33 : butteryref02_Reader), v27)
end Go.Proofs.YtkmlinaofbcbaaaDoor
namespace Go.Proofs.YtkmlinaofbcbaaaDoor
open Go Go.Va
set_option linter.unusedVariables false
set_option linter.unusedSimpArgs false
set_option maxRecDepth 20000
noncomputable def butteryref02_End (x0 : butteryref02_Reader) : Option (Int) :=
  (
    lt (x0.Code == (0 : Int)) fun v6 =>
    if v6 = true then
      lt (((x0.B).length : Int)) fun v9 =>
      lt (decide (x0.At < v9)) fun v11 =>
      some v11
    else
      some false
   : Option (Bool)).bind fun s1 =>
    if s1 = true then
      some (5 : Int)
    else
      some x0.Code
end Go.Proofs.YtkmlinaofbcbaaaDoor
namespace Go.Proofs.YtkmlinaofbcbaaaDoor
open Go Go.Va
set_option linter.unusedVariables false
set_option linter.unusedSimpArgs false
theorem drop_cons {b l : List (BitVec 8)} {c : BitVec 8} {pos : Nat} (h : b.drop pos = c :: l) : ∃ hp : pos < b.length, b[pos] = c ∧ b.drop (pos + 1) = l := by
  have hp : pos < b.length := by
    rcases Nat.lt_or_ge pos b.length with h1 | h1
    · exact h1
    · rw [List.drop_of_length_le h1] at h; cases h
  rw [List.drop_eq_getElem_cons hp] at h
  simp only [List.cons.injEq] at h
  exact ⟨hp, h.1, h.2⟩
theorem fail_eq (b : List (BitVec 8)) (a e : Int) : octets_Reader_Fail ⟨b, a, 0⟩ e = some ⟨b, a, e⟩ := rfl
theorem rfail_eq (b : List (BitVec 8)) (a e : Int) : butteryref02_fail ⟨b, a, 0⟩ e = some ⟨b, a, e⟩ := rfl
def oOut (b : List (BitVec 8)) (a pos : Nat) : Int ⊕ (Nat × Nat) → octets_Reader ⊕ (Int × octets_Reader)
  | .inl e => .inl ⟨b, a, e⟩
  | .inr (m, k) => .inr ((m : Int), ⟨b, ((pos + k : Nat) : Int), 0⟩)
theorem oOut_go (b : List (BitVec 8)) (a pos : Nat) (r : Int ⊕ (Nat × Nat)) : oOut b a pos (up7 r) = oOut b a (pos + 1) r := by
  cases r with
  | inl e => rfl
  | inr p => simp only [up7, oOut]; rw [show pos + (p.2 + 1) = pos + 1 + p.2 by omega]
theorem rd7_err {most : Nat} : ∀ {l : List (BitVec 8)} {f : Bool} {n : Nat} {e : Int}, rd7 most l f n = .inl e → e = 2 ∨ e = 5 ∨ e = 6
  | [], f, n, e, h => by simp [rd7] at h; omega
  | c :: l, f, n, e, h => by
    simp only [rd7] at h
    split at h
    · cases h; simp
    · split at h
      · cases h; simp
      · split at h
        · cases hr : rd7 most l false (n * 128 + c.toNat % 128) with
          | inl e' => rw [hr] at h; cases h; exact rd7_err hr
          | inr p => rw [hr] at h; cases h
        · split at h
          · cases h; simp
          · cases h
theorem octNum_stop (most : Int) (b : List (BitVec 8)) (n pos a e : Int) (he : e ≠ 0) : octets_Reader_Number_l0 most (n, pos, ⟨b, a, e⟩) = some (.inl ⟨b, a, e⟩) :=
  loopO_out (by simp [octets_Reader_Number_b0, lt_eq, he])
theorem le_byte (c : BitVec 8) : (128#8 ≤ c) ↔ 128 ≤ c.toNat := by rw [BitVec.le_def]; rfl
theorem octNum_l {b : List (BitVec 8)} {most a : Nat} (hb : b.length ≤ 1000000) (hm : most < 9223372036854775808) : ∀ (l : List (BitVec 8)) (pos n : Nat) (f : Bool), b.drop pos = l → pos ≤ b.length → (f = true → n = 0 ∧ pos = a) → (f = false → a < pos) → n < 9223372036854775808 →
    octets_Reader_Number_l0 (most : Int) ((n : Int), (pos : Int), ⟨b, (a : Int), 0⟩) = some (oOut b a pos (rd7 most l f n))
  | [], pos, n, f, hl, hp, _, _, _ => by
    have hlen : pos = b.length := by
      have := congrArg List.length hl
      simp at this; omega
    refine loopO_out ?_
    simp only [octets_Reader_Number_b0, lt_eq]
    rw [if_pos (by rfl), if_pos (decide_eq_true (by omega)), fail_eq]
    rfl
  | c :: l, pos, n, f, hl, hp, hf, hg, hn => by
    obtain ⟨hlt, hc, hd⟩ := drop_cons hl
    have e0 : w64 ((pos : Int) + 1) = ((pos + 1 : Nat) : Int) := w64_nat (by omega)
    have e1 : w64 ((a : Int) + 1) = ((a + 1 : Nat) : Int) := by
      have : a ≤ pos := by cases f with | true => have := (hf rfl).2; omega | false => have := hg rfl; omega
      exact w64_nat (by omega)
    have e2 : shr64 (most : Int) 7 = ((most / 128 : Nat) : Int) := by rw [shr64_nat (by omega)]
    have hcl := c.isLt
    have hcond : (if (c == 128#8) = true then (if ((n : Int) == 0) = true then some (((pos + 1 : Nat) : Int) == ((a + 1 : Nat) : Int)) else some false) else some false) = some (decide (c = 128#8 ∧ f = true)) := by
      by_cases h1 : c = 128#8
      · rw [if_pos (by simp [h1])]
        cases f with
        | true =>
          obtain ⟨rfl, rfl⟩ := hf rfl
          simp [h1]
        | false =>
          have := hg rfl
          split
          · have : (((pos + 1 : Nat) : Int) == ((a + 1 : Nat) : Int)) = false := by simp; omega
            rw [this]; simp
          · simp
      · rw [if_neg (by simpa using h1)]; simp [h1]
    have hb0 : octets_Reader_Number_b0 (most : Int) (n : Int) (pos : Int) ⟨b, (a : Int), 0⟩ =
        if c = 128#8 ∧ f = true then some (.inl ((n : Int), ((pos + 1 : Nat) : Int), ⟨b, (a : Int), 5⟩)) else if most / 128 < n then some (.inl ((n : Int), ((pos + 1 : Nat) : Int), ⟨b, (a : Int), 2⟩)) else
        if 128 ≤ c.toNat then some (.inl (((n * 128 + c.toNat % 128 : Nat) : Int), ((pos + 1 : Nat) : Int), ⟨b, (a : Int), 0⟩)) else
        if most < n * 128 + c.toNat then some (.inl (((n * 128 + c.toNat : Nat) : Int), ((pos + 1 : Nat) : Int), ⟨b, (a : Int), 2⟩)) else some (.inr (.inr (((n * 128 + c.toNat : Nat) : Int), ⟨b, ((pos + 1 : Nat) : Int), 0⟩))) := by
      simp only [octets_Reader_Number_b0, lt_eq]
      rw [if_pos (by rfl), if_neg (by rw [decide_eq_false (by omega)]; simp), ix_nat hlt, hc]
      simp only [Option.bind_some, e0, e1, e2]
      rw [hcond]
      simp only [Option.bind_some, decide_eq_true_eq]
      by_cases h1 : c = 128#8 ∧ f = true
      · rw [if_pos h1, if_pos h1, fail_eq]; rfl
      · rw [if_neg h1, if_neg h1]
        by_cases h2 : most / 128 < n
        · rw [if_pos (by omega), if_pos h2, fail_eq]; rfl
        · rw [if_neg (by omega), if_neg h2]
          by_cases h3 : 128 ≤ c.toNat
          · rw [if_pos ((le_byte c).2 h3), if_pos h3, byte_and, or64_7 (by omega) (by omega)]
          · rw [if_neg (fun h => h3 ((le_byte c).1 h)), if_neg h3, or64_7 (by omega) (by omega)]
            by_cases h4 : most < n * 128 + c.toNat
            · rw [if_pos (by omega), if_pos h4, fail_eq]; rfl
            · rw [if_neg (by omega), if_neg h4]
    have step : ∀ (s' : Int × Int × octets_Reader), octets_Reader_Number_b0 (most : Int) (n : Int) (pos : Int) ⟨b, (a : Int), 0⟩ = some (.inl s') → octets_Reader_Number_l0 (most : Int) ((n : Int), (pos : Int), ⟨b, (a : Int), 0⟩) = octets_Reader_Number_l0 (most : Int) s' := fun s' h => loopO_in (body := fun s => octets_Reader_Number_b0 (most : Int) s.1 s.2.1 s.2.2) h
    simp only [rd7]
    by_cases h1 : c = 128#8 ∧ f = true
    · rw [if_pos h1] at hb0 ⊢
      rw [step _ hb0, octNum_stop _ _ _ _ _ _ (by decide)]; rfl
    · rw [if_neg h1] at hb0 ⊢
      by_cases h2 : most / 128 < n
      · rw [if_pos h2] at hb0 ⊢
        rw [step _ hb0, octNum_stop _ _ _ _ _ _ (by decide)]; rfl
      · rw [if_neg h2] at hb0 ⊢
        by_cases h3 : 128 ≤ c.toNat
        · rw [if_pos h3] at hb0 ⊢
          rw [step _ hb0, octNum_l hb hm l (pos + 1) (n * 128 + c.toNat % 128) false hd (by omega) (by simp) (fun _ => by cases f with | true => have := (hf rfl).2; omega | false => have := hg rfl; omega) (by omega), oOut_go]
        · rw [if_neg h3] at hb0 ⊢
          by_cases h4 : most < n * 128 + c.toNat
          · rw [if_pos h4] at hb0 ⊢
            rw [step _ hb0, octNum_stop _ _ _ _ _ _ (by decide)]; rfl
          · rw [if_neg h4] at hb0 ⊢
            exact loopO_out (body := fun s => octets_Reader_Number_b0 (most : Int) s.1 s.2.1 s.2.2) hb0
def rOut (b : List (BitVec 8)) (a pos : Nat) : Int ⊕ (Nat × Nat) → Unit ⊕ (butteryref02_Reader × Int)
  | .inl e => if e = 6 then .inl () else .inr (⟨b, a, e⟩, 0)
  | .inr (m, k) => .inr (⟨b, ((pos + k : Nat) : Int), 0⟩, (m : Int))
theorem rOut_go (b : List (BitVec 8)) (a pos : Nat) (r : Int ⊕ (Nat × Nat)) : rOut b a pos (up7 r) = rOut b a (pos + 1) r := by
  cases r with
  | inl e => rfl
  | inr p => simp only [up7, rOut]; rw [show pos + (p.2 + 1) = pos + 1 + p.2 by omega]
theorem refNum_l {b : List (BitVec 8)} {most a : Nat} (hb : b.length ≤ 1000000) (hm : most < 9223372036854775808) : ∀ (l : List (BitVec 8)) (pos n : Nat) (f : Bool), b.drop pos = l → pos ≤ b.length → (f = true → n = 0 ∧ pos = a) → (f = false → a < pos) → n < 9223372036854775808 →
    butteryref02_Number_l0 ⟨b, (a : Int), 0⟩ (most : Int) ((n : Int), (pos : Int)) = some (rOut b a pos (rd7 most l f n))
  | [], pos, n, f, hl, hp, _, _, _ => by
    have hlen : pos = b.length := by
      have := congrArg List.length hl
      simp at this; omega
    refine loopO_out ?_
    simp only [butteryref02_Number_b0, lt_eq]
    rw [if_neg (by rw [decide_eq_false (by omega)]; simp)]
    rfl
  | c :: l, pos, n, f, hl, hp, hf, hg, hn => by
    obtain ⟨hlt, hc, hd⟩ := drop_cons hl
    have e0 : w64 ((pos : Int) + 1) = ((pos + 1 : Nat) : Int) := w64_nat (by omega)
    have e2 : quo64 (most : Int) 128 = ((most / 128 : Nat) : Int) := quo64_nat hm
    have e3 : Int.tmod (c.toNat : Int) 128 = ((c.toNat % 128 : Nat) : Int) := tmod_nat _ 128
    have hcl := c.isLt
    have e4 : ((c.toNat : Int) == 128) = decide (c = 128#8) := by
      rw [Bool.eq_iff_iff]; simp only [beq_iff_eq, decide_eq_true_eq]
      constructor
      · intro h; apply BitVec.eq_of_toNat_eq; show _ = 128; omega
      · rintro rfl; rfl
    have hcond : (if decide (c = 128#8) = true then some ((pos : Int) == (a : Int)) else some false) = some (decide (c = 128#8 ∧ f = true)) := by
      by_cases h1 : c = 128#8
      · rw [if_pos (by simp [h1])]
        cases f with
        | true =>
          obtain ⟨rfl, rfl⟩ := hf rfl
          simp [h1]
        | false =>
          have := hg rfl
          have : ((pos : Int) == (a : Int)) = false := by simp; omega
          rw [this]; simp
      · rw [if_neg (by simpa using h1)]; simp [h1]
    have hb0 : butteryref02_Number_b0 ⟨b, (a : Int), 0⟩ (most : Int) (n : Int) (pos : Int) =
        if c = 128#8 ∧ f = true then some (.inr (.inr (⟨b, (a : Int), 5⟩, 0))) else if most / 128 < n then some (.inr (.inr (⟨b, (a : Int), 2⟩, 0))) else
        if 128 ≤ c.toNat then some (.inl (((n * 128 + c.toNat % 128 : Nat) : Int), ((pos + 1 : Nat) : Int))) else
        if most < n * 128 + c.toNat then some (.inr (.inr (⟨b, (a : Int), 2⟩, 0))) else some (.inr (.inr (⟨b, ((pos + 1 : Nat) : Int), 0⟩, ((n * 128 + c.toNat : Nat) : Int)))) := by
      simp only [butteryref02_Number_b0, lt_eq]
      rw [if_pos (decide_eq_true (by omega)), ix_nat hlt, hc]
      simp only [Option.bind_some, e0, e2, e3, e4]
      rw [hcond]
      simp only [Option.bind_some, decide_eq_true_eq]
      by_cases h1 : c = 128#8 ∧ f = true
      · rw [if_pos h1, if_pos h1, rfail_eq]; rfl
      · rw [if_neg h1, if_neg h1]
        by_cases h2 : most / 128 < n
        · rw [if_pos (by omega), if_pos h2, rfail_eq]; rfl
        · rw [if_neg (by omega), if_neg h2, w64_eq (n := (n : Int) * 128) (by omega) (by omega), w64_eq (by omega) (by omega)]
          by_cases h3 : 128 ≤ c.toNat
          · rw [if_pos (by omega), if_pos h3]
            rw [show ((n : Int) * 128 + ((c.toNat % 128 : Nat) : Int)) = ((n * 128 + c.toNat % 128 : Nat) : Int) by omega]
          · rw [if_neg (by omega), if_neg h3]
            rw [show ((n : Int) * 128 + ((c.toNat % 128 : Nat) : Int)) = ((n * 128 + c.toNat : Nat) : Int) by omega]
            by_cases h4 : most < n * 128 + c.toNat
            · rw [if_pos (by omega), if_pos h4, rfail_eq]; rfl
            · rw [if_neg (by omega), if_neg h4]
    have hout : ∀ x, butteryref02_Number_b0 ⟨b, (a : Int), 0⟩ (most : Int) (n : Int) (pos : Int) = some (.inr x) → butteryref02_Number_l0 ⟨b, (a : Int), 0⟩ (most : Int) ((n : Int), (pos : Int)) = some x := fun x h => loopO_out (body := fun s => butteryref02_Number_b0 ⟨b, (a : Int), 0⟩ (most : Int) s.1 s.2) h
    have step : ∀ (s' : Int × Int), butteryref02_Number_b0 ⟨b, (a : Int), 0⟩ (most : Int) (n : Int) (pos : Int) = some (.inl s') → butteryref02_Number_l0 ⟨b, (a : Int), 0⟩ (most : Int) ((n : Int), (pos : Int)) = butteryref02_Number_l0 ⟨b, (a : Int), 0⟩ (most : Int) s' := fun s' h => loopO_in (body := fun s => butteryref02_Number_b0 ⟨b, (a : Int), 0⟩ (most : Int) s.1 s.2) h
    simp only [rd7]
    by_cases h1 : c = 128#8 ∧ f = true
    · rw [if_pos h1] at hb0 ⊢
      exact hout _ hb0
    · rw [if_neg h1] at hb0 ⊢
      by_cases h2 : most / 128 < n
      · rw [if_pos h2] at hb0 ⊢
        exact hout _ hb0
      · rw [if_neg h2] at hb0 ⊢
        by_cases h3 : 128 ≤ c.toNat
        · rw [if_pos h3] at hb0 ⊢
          rw [step _ hb0, refNum_l hb hm l (pos + 1) (n * 128 + c.toNat % 128) false hd (by omega) (by simp) (fun _ => by cases f with | true => have := (hf rfl).2; omega | false => have := hg rfl; omega) (by omega), rOut_go]
        · rw [if_neg h3] at hb0 ⊢
          by_cases h4 : most < n * 128 + c.toNat
          · rw [if_pos h4] at hb0 ⊢
            exact hout _ hb0
          · rw [if_neg h4] at hb0 ⊢
            exact hout _ hb0
/-- What is read, and where the reader stands then. -/
def rdN (b : List (BitVec 8)) (a most : Nat) : Nat × Nat × Int := match rd7 most (b.drop a) true 0 with
  | .inl e => (0, a, e)
  | .inr (m, k) => (m, a + k, 0)
theorem octNum_eq {b : List (BitVec 8)} {a most : Nat} (hb : b.length ≤ 1000000) (ha : a ≤ b.length) (hm : most < 9223372036854775808) : octets_Reader_Number ⟨b, a, 0⟩ most = some (((rdN b a most).1 : Int), ⟨b, ((rdN b a most).2.1 : Int), (rdN b a most).2.2⟩) := by
  simp only [octets_Reader_Number]
  have := octNum_l hb hm (b.drop a) a 0 true rfl ha (fun _ => ⟨rfl, rfl⟩) (fun h => by cases h) (by omega)
  rw [show ((0 : Nat) : Int) = 0 from rfl] at this
  rw [this]
  unfold rdN
  cases rd7 most (b.drop a) true 0 with
  | inl e => rfl
  | inr p => rfl
theorem refNum_eq {b : List (BitVec 8)} {a most : Nat} (hb : b.length ≤ 1000000) (ha : a ≤ b.length) (hm : most < 9223372036854775808) : butteryref02_Number ⟨b, a, 0⟩ most = some (⟨b, ((rdN b a most).2.1 : Int), (rdN b a most).2.2⟩, ((rdN b a most).1 : Int)) := by
  simp only [butteryref02_Number, lt_eq]
  rw [if_neg (by simp)]
  have := refNum_l hb hm (b.drop a) a 0 true rfl ha (fun _ => ⟨rfl, rfl⟩) (fun h => by cases h) (by omega)
  rw [show ((0 : Nat) : Int) = 0 from rfl] at this
  rw [this]
  unfold rdN
  cases h : rd7 most (b.drop a) true 0 with
  | inl e =>
    rcases rd7_err h with rfl | rfl | rfl <;> rfl
  | inr p => rfl
theorem rdN_le {b : List (BitVec 8)} {a most : Nat} (ha : a ≤ b.length) : (rdN b a most).2.1 ≤ b.length ∧ a ≤ (rdN b a most).2.1 ∧ (rdN b a most).1 ≤ most ∧ ((rdN b a most).2.2 ≠ 0 → (rdN b a most).1 = 0 ∧ (rdN b a most).2.1 = a) := by
  unfold rdN
  cases h : rd7 most (b.drop a) true 0 with
  | inl e => exact ⟨ha, Nat.le_refl _, Nat.zero_le _, fun _ => ⟨rfl, rfl⟩⟩
  | inr p =>
    have := rd7_le h
    simp only [List.length_drop] at this
    exact ⟨by simp only; omega, by simp only; omega, this.1, fun h => absurd rfl h⟩
theorem rdN_off {b : List (BitVec 8)} {a : Int} {most e : Int} (he : e ≠ 0) : octets_Reader_Number ⟨b, a, e⟩ most = some (0, ⟨b, a, e⟩) := by
  simp only [octets_Reader_Number, octNum_stop _ _ _ _ _ _ he]; rfl
theorem refN_off {b : List (BitVec 8)} {a : Int} {most e : Int} (he : e ≠ 0) : butteryref02_Number ⟨b, a, e⟩ most = some (⟨b, a, e⟩, 0) := by
  simp [butteryref02_Number, lt_eq, he]
theorem left_eq {b : List (BitVec 8)} {a : Nat} {e : Int} (hb : b.length ≤ 1000000) (ha : a ≤ b.length) : octets_Reader_Left ⟨b, a, e⟩ = some ((b.length - a : Nat) : Int) := by
  simp only [octets_Reader_Left, lt_eq]
  rw [w64_eq (by omega) (by omega)]
  congr 1; omega
end Go.Proofs.YtkmlinaofbcbaaaDoor
namespace Go.Proofs.YtkmlinaofbcbaaaDoor
open Go Go.Va
set_option linter.unusedVariables false
set_option linter.unusedSimpArgs false
def stp (a : BitVec 64) (c : BitVec 8) : BitVec 64 := a <<< 8 ||| c.setWidth 64
def word (l : List (BitVec 8)) : BitVec 64 := l.foldl stp 0#64
theorem stp_add (a : BitVec 64) (c : BitVec 8) : a * 256#64 + c.setWidth 64 = stp a c := by
  have h1 : a * 256#64 = a <<< 8 := by
    apply BitVec.eq_of_toNat_eq
    simp [Nat.shiftLeft_eq]
  have h2 : a <<< 8 &&& c.setWidth 64 = 0#64 := by
    apply BitVec.eq_of_getLsbD_eq
    intro i hi
    simp only [BitVec.getLsbD_and, BitVec.getLsbD_shiftLeft, BitVec.getLsbD_setWidth, BitVec.getLsbD_zero]
    by_cases h : i < 8
    · simp [h]
    · rw [BitVec.getLsbD_of_ge c i (by omega)]; simp
  rw [h1, BitVec.add_eq_or_of_and_eq_zero _ _ h2]; rfl
theorem word_wd (n : BitVec 64) : ∀ i, i ≤ 8 → word (wd n i) = n >>> (64 - 8 * i)
  | 0, _ => by
    apply BitVec.eq_of_getLsbD_eq
    intro j hj
    rw [BitVec.getLsbD_ushiftRight, BitVec.getLsbD_of_ge n _ (by omega)]; simp [word, wd]
  | i + 1, h => by
    rw [wd_succ, word, List.foldl_append]
    have ih := word_wd n i (by omega)
    rw [word] at ih
    rw [ih]
    simp only [List.foldl_cons, List.foldl_nil, stp]
    apply BitVec.eq_of_getLsbD_eq
    intro j hj
    simp only [BitVec.getLsbD_or, BitVec.getLsbD_shiftLeft, BitVec.getLsbD_ushiftRight, BitVec.getLsbD_setWidth]
    by_cases h8 : j < 8
    · simp [h8, hj, show 64 - 8 * (i + 1) = 56 - 8 * i by omega]
    · simp only [h8, hj, decide_true, decide_false, Bool.not_false, Bool.and_true, Bool.true_and, Bool.false_and, Bool.and_false, Bool.or_false]
      congr 1; omega
theorem word_full (n : BitVec 64) : word (wd n 8) = n := by
  rw [word_wd n 8 (by omega)]; simp
/-- Eight bytes. -/
def cut8 (b : List (BitVec 8)) (a : Nat) : List (BitVec 8) := (b.take (a + 8)).drop a
theorem cut8_len {b : List (BitVec 8)} {a : Nat} (h : a + 8 ≤ b.length) : (cut8 b a).length = 8 := by simp [cut8]; omega
/-- What bytes are read: they, where the reader stands then, what is wrong. -/
def rdB (b : List (BitVec 8)) (a most : Nat) : List (BitVec 8) × Nat × Int :=
  if (rdN b a most).2.2 ≠ 0 then ([], (rdN b a most).2.1, (rdN b a most).2.2) else
  if b.length < (rdN b a most).2.1 + (rdN b a most).1 then ([], a, 6) else ((b.take ((rdN b a most).2.1 + (rdN b a most).1)).drop (rdN b a most).2.1, (rdN b a most).2.1 + (rdN b a most).1, 0)
theorem octBytesR_eq {b : List (BitVec 8)} {a most : Nat} (hb : b.length ≤ 1000000) (ha : a ≤ b.length) (hm : most < 9223372036854775808) : octets_Reader_Bytes ⟨b, a, 0⟩ most = some ((rdB b a most).1, ⟨b, ((rdB b a most).2.1 : Int), (rdB b a most).2.2⟩) := by
  simp only [octets_Reader_Bytes, octNum_eq hb ha hm, Option.bind_some, lt_eq]
  obtain ⟨h1, h2, h3, h4⟩ := rdN_le (most := most) ha
  unfold rdB
  generalize rdN b a most = z at *
  obtain ⟨n, p, e⟩ := z
  simp only at *
  by_cases he : e = 0
  · subst he
    rw [if_neg (by simp), if_neg (by simp), left_eq hb h1]
    simp only [Option.bind_some]
    by_cases hc : b.length < p + n
    · rw [if_pos hc, if_pos (decide_eq_true (by omega)), fail_eq]; rfl
    · rw [if_neg hc, if_neg (by rw [decide_eq_false (by omega)]; simp), w64_eq (by omega) (by omega), show (p : Int) + (n : Int) = ((p + n : Nat) : Int) by omega, cutO_eq (by omega) (by omega)]
      simp only [Option.bind_some]
      rw [app_eq (by simp; omega)]; rfl
  · rw [if_pos (by simpa using he), if_pos he]
theorem octBytesR_off {b : List (BitVec 8)} {a e most : Int} (he : e ≠ 0) : octets_Reader_Bytes ⟨b, a, e⟩ most = some ([], ⟨b, a, e⟩) := by
  simp [octets_Reader_Bytes, rdN_off he, lt_eq, he]
theorem text_eq {b : List (BitVec 8)} {a most : Nat} (hb : b.length ≤ 1000000) (ha : a ≤ b.length) (hm : most < 9223372036854775808) : butteryref02_Text ⟨b, a, 0⟩ most = some (⟨b, ((rdB b a most).2.1 : Int), (rdB b a most).2.2⟩, (rdB b a most).1) := by
  simp only [butteryref02_Text, refNum_eq hb ha hm, Option.bind_some, lt_eq]
  obtain ⟨h1, h2, h3, h4⟩ := rdN_le (most := most) ha
  unfold rdB
  generalize rdN b a most = z at *
  obtain ⟨n, p, e⟩ := z
  simp only at *
  by_cases he : e = 0
  · subst he
    rw [if_neg (show ¬ (((0 : Int) != 0) = true) by simp), if_neg (show ¬ ((0 : Int) ≠ 0) by simp), w64_eq (n := (b.length : Int) - (p : Int)) (by omega) (by omega)]
    by_cases hc : b.length < p + n
    · rw [if_pos hc, if_pos (decide_eq_true (by omega)), rfail_eq]; rfl
    · rw [if_neg hc, if_neg (by rw [decide_eq_false (by omega)]; simp), w64_eq (by omega) (by omega), show (p : Int) + (n : Int) = ((p + n : Nat) : Int) by omega, cutO_eq (by omega) (by omega)]
      simp only [Option.bind_some]
      rw [app_eq (by simp; omega)]; rfl
  · rw [if_pos (by simpa using he), if_pos he]
theorem text_off {b : List (BitVec 8)} {a e most : Int} (he : e ≠ 0) : butteryref02_Text ⟨b, a, e⟩ most = some (⟨b, a, e⟩, []) := by
  simp [butteryref02_Text, refN_off he, lt_eq, he]
theorem rdB_le {b : List (BitVec 8)} {a most : Nat} (ha : a ≤ b.length) : (rdB b a most).2.1 ≤ b.length ∧ a ≤ (rdB b a most).2.1 ∧ (rdB b a most).1.length ≤ b.length := by
  obtain ⟨h1, h2, h3, h4⟩ := rdN_le (most := most) ha
  unfold rdB
  generalize rdN b a most = z at *
  obtain ⟨n, p, e⟩ := z
  simp only at *
  split
  · exact ⟨h1, h2, by simp⟩
  · split
    · exact ⟨ha, Nat.le_refl _, by simp⟩
    · exact ⟨by simp only; omega, by simp only; omega, by simp; omega⟩
theorem end_eq {b : List (BitVec 8)} {a : Nat} {e : Int} (hb : b.length ≤ 1000000) (ha : a ≤ b.length) : octets_Reader_End ⟨b, a, e⟩ = some (if e = 0 ∧ a < b.length then 5 else e, ⟨b, a, if e = 0 ∧ a < b.length then 5 else e⟩) := by
  simp only [octets_Reader_End, left_eq hb ha, Option.bind_some, lt_eq]
  by_cases h : a < b.length
  · rw [if_pos (decide_eq_true (by omega))]
    by_cases he : e = 0
    · subst he; rw [fail_eq]; simp [h]
    · simp [octets_Reader_Fail, lt_eq, he]
  · rw [if_neg (by rw [decide_eq_false (by omega)]; simp)]; simp [h]
theorem rend_eq {b : List (BitVec 8)} {a : Nat} {e : Int} : butteryref02_End ⟨b, a, e⟩ = some (if e = 0 ∧ a < b.length then 5 else e) := by
  simp only [butteryref02_End, lt_eq]
  by_cases he : e = 0
  · subst he
    rw [if_pos (by rfl)]
    by_cases h : a < b.length
    · simp [h]
    · simp [h]
  · simp [he]
theorem read_eq {b : List (BitVec 8)} (hb : b.length ≤ 1000000) : octets_Read b = some ⟨b, 0, 0⟩ := by
  simp only [octets_Read, lt_eq]
  rw [app_eq (by simp; omega)]; rfl
end Go.Proofs.YtkmlinaofbcbaaaDoor
namespace Go.Proofs.YtkmlinaofbcbaaaDoor
open Go Go.Va
set_option linter.unusedVariables false
set_option linter.unusedSimpArgs false
def upN (k : Nat) : Int ⊕ (Nat × Nat) → Int ⊕ (Nat × Nat)
  | .inl e => .inl e
  | .inr (m, j) => .inr (m, k + j)
theorem upN_up (k : Nat) (r : Int ⊕ (Nat × Nat)) : upN k (up7 r) = upN (k + 1) r := by
  cases r with
  | inl e => rfl
  | inr p => simp only [up7, upN]; rw [show k + (p.2 + 1) = k + 1 + p.2 by omega]
theorem rd7_pre {most : Nat} : ∀ (k q : Nat), q < 128 ^ k → q ≤ most / 128 → ∀ l, rd7 most (pre q ++ l) true 0 = upN (pre q).length (rd7 most l (decide (q = 0)) q)
  | 0, q, h, hq, l => by
    have : q = 0 := by simpa using h
    subst this
    rw [pre_zero]
    simp only [List.nil_append, List.length_nil, decide_true]
    cases rd7 most l true 0 with
    | inl e => rfl
    | inr p => simp [upN]
  | k + 1, q, h, hq, l => by
    by_cases h0 : q = 0
    · subst h0
      rw [pre_zero]
      simp only [List.nil_append, List.length_nil, decide_true]
      cases rd7 most l true 0 with
      | inl e => rfl
      | inr p => simp [upN]
    · rw [pre_pos (by omega), List.append_assoc, rd7_pre k (q / 128) (by rw [Nat.div_lt_iff_lt_mul (by decide)]; rw [Nat.pow_succ] at h; exact h) (by omega)]
      have hc : (BitVec.ofNat 8 (q % 128 + 128)).toNat = q % 128 + 128 := by simp; omega
      simp only [List.singleton_append, rd7]
      rw [if_neg (by
        rintro ⟨h1, h2⟩
        have h1 := congrArg BitVec.toNat h1
        rw [hc] at h1
        have h1 : q % 128 + 128 = 128 := h1
        have h2 : q / 128 = 0 := by simpa using h2
        omega), if_neg (by omega), if_pos (by omega), hc, upN_up]
      rw [show q / 128 * 128 + (q % 128 + 128) % 128 = q by omega, decide_eq_false h0]
      simp
theorem rd7_num {most m : Nat} (hm : m ≤ most) (hm2 : m < 9223372036854775808) (l : List (BitVec 8)) : rd7 most (num7 m ++ l) true 0 = .inr (m, (num7 m).length) := by
  rw [num7, List.append_assoc, rd7_pre 9 (m / 128) (by omega) (by omega)]
  have hc : (BitVec.ofNat 8 (m % 128)).toNat = m % 128 := by simp; omega
  simp only [List.singleton_append, rd7]
  rw [if_neg (by
    rintro ⟨h1, h2⟩
    have h1 := congrArg BitVec.toNat h1
    rw [hc] at h1
    have h1 : m % 128 = 128 := h1
    omega), if_neg (by omega), if_neg (by omega), if_neg (by omega), hc, show m / 128 * 128 + m % 128 = m by omega]
  simp [upN]
theorem rdN_num {b l : List (BitVec 8)} {a most m : Nat} (h : b.drop a = num7 m ++ l) (hm : m ≤ most) (hm2 : m < 9223372036854775808) : rdN b a most = (m, a + (num7 m).length, 0) := by
  rw [rdN, h, rd7_num hm hm2]
/-- Bytes that are read as a number, all but the first ones: they are its last bytes. -/
theorem rd7_one {most : Nat} (hm : most < 9223372036854775808) : ∀ {l : List (BitVec 8)} {f : Bool} {n m k : Nat}, (f = true → n = 0) → (f = false → 0 < n) → rd7 most l f n = .inr (m, k) → num7 m = pre n ++ l.take k
  | [], f, n, m, k, _, _, h => by simp [rd7] at h
  | c :: l, f, n, m, k, hf, hg, h => by
    have hc := c.isLt
    simp only [rd7] at h
    split at h
    · cases h
    · rename_i h1
      split at h
      · cases h
      · split at h
        · rename_i h3
          cases hr : rd7 most l false (n * 128 + c.toNat % 128) with
          | inl e => rw [hr] at h; cases h
          | inr p =>
            obtain ⟨m', k'⟩ := p
            rw [hr] at h
            simp only [up7, Sum.inr.injEq, Prod.mk.injEq] at h
            obtain ⟨rfl, rfl⟩ := h
            have hpos : 0 < n * 128 + c.toNat % 128 := by
              cases f with
              | true =>
                have : c ≠ 128#8 := fun e => h1 ⟨e, rfl⟩
                have : c.toNat ≠ 128 := fun e => this (BitVec.eq_of_toNat_eq e)
                omega
              | false => have := hg rfl; omega
            have ih := rd7_one hm (f := false) (fun e => by cases e) (fun _ => hpos) hr
            rw [ih, pre_pos hpos]
            rw [show (n * 128 + c.toNat % 128) / 128 = n by omega, show (n * 128 + c.toNat % 128) % 128 + 128 = c.toNat by omega]
            simp
        · rename_i h3
          split at h
          · cases h
          · simp only [Sum.inr.injEq, Prod.mk.injEq] at h
            obtain ⟨rfl, rfl⟩ := h
            rw [num7, show (n * 128 + c.toNat) / 128 = n by omega, show (n * 128 + c.toNat) % 128 = c.toNat by omega]
            simp
/-- What a reader is, and the program's reader beside it. -/
structure rdr where
  a : Nat
  e : Int
def rdr.x (r : rdr) (b : List (BitVec 8)) : butteryref02_Reader := ⟨b, r.a, r.e⟩
def rdr.o (r : rdr) (b : List (BitVec 8)) : octets_Reader := ⟨b, r.a, r.e⟩
theorem num_both {b : List (BitVec 8)} (hb : b.length ≤ 1000000) (r : rdr) (hr : r.a ≤ b.length) {m : Int} (h0 : 0 ≤ m) (h1 : m ≤ 9223372036854775807) : ∃ (s : rdr) (n : Int), s.a ≤ b.length ∧ butteryref02_Number (r.x b) m = some (s.x b, n) ∧ octets_Reader_Number (r.o b) m = some (n, s.o b) := by
  obtain ⟨m, rfl⟩ : ∃ n : Nat, m = (n : Int) := ⟨m.toNat, by omega⟩
  obtain ⟨a, e⟩ := r
  by_cases he : e = 0
  · subst he
    exact ⟨⟨(rdN b a m).2.1, (rdN b a m).2.2⟩, _, (rdN_le hr).1, refNum_eq hb hr (by omega), octNum_eq hb hr (by omega)⟩
  · exact ⟨⟨a, e⟩, 0, hr, refN_off he, rdN_off he⟩
theorem text_both {b : List (BitVec 8)} (hb : b.length ≤ 1000000) (r : rdr) (hr : r.a ≤ b.length) {m : Int} (h0 : 0 ≤ m) (h1 : m ≤ 9223372036854775807) : ∃ (s : rdr) (n : List (BitVec 8)), s.a ≤ b.length ∧ n.length ≤ b.length ∧ butteryref02_Text (r.x b) m = some (s.x b, n) ∧ octets_Reader_Bytes (r.o b) m = some (n, s.o b) := by
  obtain ⟨m, rfl⟩ : ∃ n : Nat, m = (n : Int) := ⟨m.toNat, by omega⟩
  obtain ⟨a, e⟩ := r
  by_cases he : e = 0
  · subst he
    exact ⟨⟨(rdB b a m).2.1, (rdB b a m).2.2⟩, _, (rdB_le hr).1, (rdB_le hr).2.2, text_eq hb hr (by omega), octBytesR_eq hb hr (by omega)⟩
  · exact ⟨⟨a, e⟩, [], hr, by simp, text_off he, octBytesR_off he⟩
/-- What is read as a number. -/
def rN (b : List (BitVec 8)) (r : rdr) (m : Nat) : Nat × rdr := if r.e = 0 then ((rdN b r.a m).1, ⟨(rdN b r.a m).2.1, (rdN b r.a m).2.2⟩) else (0, r)
def rB (b : List (BitVec 8)) (r : rdr) (m : Nat) : List (BitVec 8) × rdr := if r.e = 0 then ((rdB b r.a m).1, ⟨(rdB b r.a m).2.1, (rdB b r.a m).2.2⟩) else ([], r)
theorem octN_r {b : List (BitVec 8)} (hb : b.length ≤ 1000000) {r : rdr} (hr : r.a ≤ b.length) {m : Nat} (hm : m < 9223372036854775808) : octets_Reader_Number (r.o b) (m : Int) = some (((rN b r m).1 : Int), (rN b r m).2.o b) := by
  obtain ⟨a, e⟩ := r
  unfold rN
  by_cases he : e = 0
  · subst he; rw [if_pos rfl]; exact octNum_eq hb hr hm
  · rw [if_neg he]; exact rdN_off he
theorem refN_r {b : List (BitVec 8)} (hb : b.length ≤ 1000000) {r : rdr} (hr : r.a ≤ b.length) {m : Nat} (hm : m < 9223372036854775808) : butteryref02_Number (r.x b) (m : Int) = some ((rN b r m).2.x b, ((rN b r m).1 : Int)) := by
  obtain ⟨a, e⟩ := r
  unfold rN
  by_cases he : e = 0
  · subst he; rw [if_pos rfl]; exact refNum_eq hb hr hm
  · rw [if_neg he]; exact refN_off he
theorem octB_r {b : List (BitVec 8)} (hb : b.length ≤ 1000000) {r : rdr} (hr : r.a ≤ b.length) {m : Nat} (hm : m < 9223372036854775808) : octets_Reader_Bytes (r.o b) (m : Int) = some ((rB b r m).1, (rB b r m).2.o b) := by
  obtain ⟨a, e⟩ := r
  unfold rB
  by_cases he : e = 0
  · subst he; rw [if_pos rfl]; exact octBytesR_eq hb hr hm
  · rw [if_neg he]; exact octBytesR_off he
theorem refB_r {b : List (BitVec 8)} (hb : b.length ≤ 1000000) {r : rdr} (hr : r.a ≤ b.length) {m : Nat} (hm : m < 9223372036854775808) : butteryref02_Text (r.x b) (m : Int) = some ((rB b r m).2.x b, (rB b r m).1) := by
  obtain ⟨a, e⟩ := r
  unfold rB
  by_cases he : e = 0
  · subst he; rw [if_pos rfl]; exact text_eq hb hr hm
  · rw [if_neg he]; exact text_off he
theorem rN_le {b : List (BitVec 8)} {r : rdr} (hr : r.a ≤ b.length) (m : Nat) : (rN b r m).2.a ≤ b.length ∧ r.a ≤ (rN b r m).2.a ∧ (rN b r m).1 ≤ m := by
  unfold rN
  split
  · have := rdN_le (most := m) hr; exact ⟨this.1, this.2.1, this.2.2.1⟩
  · exact ⟨hr, Nat.le_refl _, Nat.zero_le _⟩
theorem rB_le {b : List (BitVec 8)} {r : rdr} (hr : r.a ≤ b.length) (m : Nat) : (rB b r m).2.a ≤ b.length ∧ r.a ≤ (rB b r m).2.a ∧ (rB b r m).1.length ≤ b.length := by
  unfold rB
  split
  · exact rdB_le hr
  · exact ⟨hr, Nat.le_refl _, by simp⟩
theorem rN_off {b : List (BitVec 8)} {r : rdr} {m : Nat} (h : (rN b r m).2.e = 0) : r.e = 0 := by
  unfold rN at h
  split at h
  · assumption
  · exact h
theorem rB_off {b : List (BitVec 8)} {r : rdr} {m : Nat} (h : (rB b r m).2.e = 0) : r.e = 0 := by
  unfold rB at h
  split at h
  · assumption
  · exact h
/-- A number that is there is read. -/
theorem rN_is {b l : List (BitVec 8)} {r : rdr} {m n : Nat} (he : r.e = 0) (h : b.drop r.a = num7 n ++ l) (hm : n ≤ m) (hn : n < 9223372036854775808) : rN b r m = (n, ⟨r.a + (num7 n).length, 0⟩) := by
  unfold rN
  rw [if_pos he, rdN_num h hm hn]
theorem drop_app {b x l : List (BitVec 8)} {a : Nat} (h : b.drop a = x ++ l) : b.drop (a + x.length) = l := by
  rw [← List.drop_drop, h, List.drop_left' rfl]
/-- Bytes that are there are read. -/
theorem rB_is {b t l : List (BitVec 8)} {r : rdr} {m : Nat} (he : r.e = 0) (hr : r.a ≤ b.length) (h : b.drop r.a = num7 t.length ++ (t ++ l)) (hm : t.length ≤ m) (hn : t.length < 9223372036854775808) : rB b r m = (t, ⟨r.a + (num7 t.length).length + t.length, 0⟩) := by
  have h2 := drop_app h
  have h3 := congrArg List.length h2
  have h4 := congrArg List.length h
  simp only [List.length_drop, List.length_append] at h3 h4
  unfold rB rdB
  rw [if_pos he, rdN_num h hm hn]
  simp only
  rw [if_neg (by simp), if_neg (by omega)]
  refine Prod.ext ?_ rfl
  simp only
  rw [List.drop_take, h2, show r.a + (num7 t.length).length + t.length - (r.a + (num7 t.length).length) = t.length by omega, List.take_left' rfl]
/-- What was read as a number is its bytes. -/
theorem rN_one {b : List (BitVec 8)} {r : rdr} {m : Nat} (hm : m < 9223372036854775808) (h : (rN b r m).2.e = 0) : b.drop r.a = num7 (rN b r m).1 ++ b.drop (rN b r m).2.a ∧ r.a < (rN b r m).2.a := by
  have he := rN_off h
  unfold rN at h ⊢
  rw [if_pos he] at h ⊢
  unfold rdN at h ⊢
  cases hr : rd7 m (b.drop r.a) true 0 with
  | inl e =>
    rw [hr] at h
    simp only at h
    rcases rd7_err hr with rfl | rfl | rfl <;> cases h
  | inr p =>
    obtain ⟨n, k⟩ := p
    have h1 := rd7_one hm (fun _ => rfl) (fun h => by cases h) hr
    rw [pre_zero, List.nil_append] at h1
    have h2 := rd7_le hr
    simp only
    rw [h1, ← List.drop_drop, List.take_append_drop]
    exact ⟨rfl, by omega⟩
/-- What was read as bytes is their number and they. -/
theorem rB_one {b : List (BitVec 8)} {r : rdr} {m : Nat} (hr : r.a ≤ b.length) (hm : m < 9223372036854775808) (h : (rB b r m).2.e = 0) : b.drop r.a = num7 (rB b r m).1.length ++ ((rB b r m).1 ++ b.drop (rB b r m).2.a) ∧ r.a < (rB b r m).2.a ∧ (rB b r m).1.length ≤ m := by
  have he := rB_off h
  have hN := rN_one (b := b) (r := r) hm
  have hle := rN_le hr m
  unfold rN at hN hle
  rw [if_pos he] at hN hle
  simp only at hN hle
  unfold rB at h ⊢
  rw [if_pos he] at h ⊢
  unfold rdB at h ⊢
  generalize rdN b r.a m = z at *
  obtain ⟨n, p, e⟩ := z
  simp only at *
  by_cases h1 : e = 0
  · subst h1
    rw [if_neg (by simp)] at h ⊢
    by_cases h2 : b.length < p + n
    · rw [if_pos h2] at h; cases h
    · rw [if_neg h2]
      obtain ⟨k1, k2⟩ := hN rfl
      have hl : ((b.take (p + n)).drop p).length = n := by simp; omega
      simp only
      rw [hl]
      refine ⟨?_, by omega, hle.2.2⟩
      rw [k1, List.drop_take, show p + n - p = n by omega, ← List.drop_drop, List.take_append_drop]
  · rw [if_pos h1] at h; exact absurd h h1
end Go.Proofs.YtkmlinaofbcbaaaDoor
namespace Go.Proofs.YtkmlinaofbcbaaaDoor
open Go Go.Va
set_option linter.unusedVariables false
set_option linter.unusedSimpArgs false
set_option maxRecDepth 20000
noncomputable def item_Same (x0 : api_Entry) (x1 : api_Entry) : Option (Bool) :=
  lt (x0.Key == x1.Key) fun v2 =>
  if v2 = true then
    lt (x0.Version == x1.Version) fun v5 =>
    if v5 = true then
      lt (x0.AsOf == x1.AsOf) fun v8 =>
      if v8 = true then
        lt (x0.Ends == x1.Ends) fun v11 =>
        if v11 = true then
          lt (x0.Value == x1.Value) fun v14 =>
          some v14
        else
          some false
      else
        some false
    else
      some false
  else
    some false
end Go.Proofs.YtkmlinaofbcbaaaDoor
namespace Go.Proofs.YtkmlinaofbcbaaaDoor
open Go Go.Va
set_option linter.unusedVariables false
set_option linter.unusedSimpArgs false
set_option maxRecDepth 20000
noncomputable def butteryref06_From (x0 : butteryref02_Reader) : Option (butteryref02_Reader × api_Entry) :=
  (butteryref02_Text x0 (40 : Int)).bind fun v6 =>
  (butteryref02_Number (v6.1 : butteryref02_Reader) (1099511627776 : Int)).bind fun v11 =>
  (butteryref02_Number (v11.1 : butteryref02_Reader) (1099511627776 : Int)).bind fun v16 =>
  (butteryref02_Number (v16.1 : butteryref02_Reader) (1099511627776 : Int)).bind fun v21 =>
  (butteryref02_Text (v21.1 : butteryref02_Reader) (4096 : Int)).bind fun v26 =>
  lt ((⟨v6.2, v11.2, v16.2, v21.2, v26.2⟩ : api_Entry)) fun v31 =>
  lt (((v26.1 : butteryref02_Reader).Code) == (0 : Int)) fun v36 =>
  (
    if v36 = true then
      (butteryref06_Check (v31 : api_Entry)).bind fun v43 =>
      lt (({ (v26.1 : butteryref02_Reader) with Code := v43 } : butteryref02_Reader)) fun c45 =>
      some c45
    else
      some (v26.1 : butteryref02_Reader)
   : Option (butteryref02_Reader)).bind fun s37 =>
    lt (s37.Code != (0 : Int)) fun v49 =>
    if v49 = true then
      some ((s37 : butteryref02_Reader), ((⟨([] : List (BitVec 8)), (0 : Int), (0 : Int), (0 : Int), ([] : List (BitVec 8))⟩ : api_Entry) : api_Entry))
    else
      some ((s37 : butteryref02_Reader), ((v31 : api_Entry) : api_Entry))
end Go.Proofs.YtkmlinaofbcbaaaDoor
namespace Go.Proofs.YtkmlinaofbcbaaaDoor
open Go Go.Va
set_option linter.unusedVariables false
set_option linter.unusedSimpArgs false
set_option maxRecDepth 20000
noncomputable def butteryref06_Put (x0 : List (BitVec 8)) (x1 : api_Entry) : Option ((List (BitVec 8))) :=
  (toBytes x1.Key).bind fun v2 =>
  (butteryref02_Bytes x0 v2).bind fun v4 =>
  lt (([x1.Version, x1.AsOf, x1.Ends] : List Int)) fun v6 =>
  (butteryref02_Put v4 v6).bind fun v8 =>
  (butteryref02_Bytes v8 x1.Value).bind fun v10 =>
  some v10
end Go.Proofs.YtkmlinaofbcbaaaDoor
namespace Go.Proofs.YtkmlinaofbcbaaaDoor
open Go Go.Va
set_option linter.unusedVariables false
set_option linter.unusedSimpArgs false
set_option maxRecDepth 20000
noncomputable def butteryref06_Size (x0 : api_Entry) : Option (Int) :=
  (butteryref06_Put [] x0).bind fun v2 =>
  lt (((v2).length : Int)) fun v4 =>
  some v4
end Go.Proofs.YtkmlinaofbcbaaaDoor
namespace Go.Proofs.YtkmlinaofbcbaaaDoor
open Go Go.Va
set_option linter.unusedVariables false
set_option linter.unusedSimpArgs false
set_option maxRecDepth 20000
noncomputable def butteryref06_Read_b0 (x0 : List (BitVec 8)) (c6 : List api_Entry) (c7 : butteryref02_Reader) : Option (((List api_Entry) × butteryref02_Reader) ⊕ (((List api_Entry) × butteryref02_Reader) ⊕ ((List api_Entry) × Int))) :=
  lt (((x0).length : Int)) fun v19 =>
  lt (decide (c7.At < v19)) fun v21 =>
  if v21 = true then
    (butteryref06_From c7).bind fun v24 =>
    lt (((v24.1 : butteryref02_Reader).Code) != (0 : Int)) fun v32 =>
    if v32 = true then
      some (.inr (.inr ([], (v24.1 : butteryref02_Reader).Code)))
    else
      lt (((v24.1 : butteryref02_Reader) : butteryref02_Reader)) fun c36 =>
      lt (([(v24.2 : api_Entry)] : List api_Entry)) fun v39 =>
      (app 64 c6 v39).bind fun v41 =>
      some (.inl (v41, c36))
  else
    some (.inr (.inl (c6, c7)))
noncomputable def butteryref06_Read_l0 (x0 : List (BitVec 8)) (s : (List api_Entry) × butteryref02_Reader) : Option (((List api_Entry) × butteryref02_Reader) ⊕ ((List api_Entry) × Int)) := loopO (fun s => butteryref06_Read_b0 x0 s.1 s.2) s
noncomputable def butteryref06_Read (x0 : List (BitVec 8)) : Option ((List api_Entry) × Int) :=
  lt ((⟨x0, (0 : Int), (0 : Int)⟩ : butteryref02_Reader)) fun v2 =>
  (butteryref06_Read_l0 x0 ([], (v2 : butteryref02_Reader))).bind fun o9 =>
    Sum.elim (fun s16 : (List api_Entry) × butteryref02_Reader =>
      some (s16.1, (0 : Int))
      ) (fun y => some y) o9
end Go.Proofs.YtkmlinaofbcbaaaDoor
namespace Go.Proofs.YtkmlinaofbcbaaaDoor
open Go Go.Va
set_option linter.unusedVariables false
set_option linter.unusedSimpArgs false
set_option maxRecDepth 20000
noncomputable def butteryref06_All_b0 (x0 : List api_Entry) (c1 : List (BitVec 8)) (c2 : Int) : Option (((List (BitVec 8)) × Int) ⊕ ((List (BitVec 8)))) :=
  lt (((x0).length : Int)) fun v14 =>
  lt (decide (c2 < v14)) fun v16 =>
  if v16 = true then
    (ix x0 c2).bind fun v19 =>
    (butteryref06_Put c1 v19).bind fun v21 =>
    lt (w64 (c2 + (1 : Int))) fun v24 =>
    some (.inl (v21, v24))
  else
    some (.inr c1)
noncomputable def butteryref06_All_l0 (x0 : List api_Entry) (s : (List (BitVec 8)) × Int) : Option ((List (BitVec 8))) := loopO (fun s => butteryref06_All_b0 x0 s.1 s.2) s
noncomputable def butteryref06_All (x0 : List api_Entry) : Option ((List (BitVec 8))) :=
  (butteryref06_All_l0 x0 ([], (0 : Int))).bind fun s11 =>
    some s11
end Go.Proofs.YtkmlinaofbcbaaaDoor
namespace Go.Proofs.YtkmlinaofbcbaaaDoor
open Go Go.Va
set_option linter.unusedVariables false
set_option linter.unusedSimpArgs false
/-- What is wrong with an entry. -/
def ckK (k : List (BitVec 8)) : Int := if k.length = 0 then 1 else if 40 < k.length then 3 else 0
def ckE (x : api_Entry) : Int :=
  if ckK x.Key ≠ 0 then ckK x.Key else
  if (x.Version < 1 ∨ x.Version > 1099511627776) ∨ (x.AsOf < x.Version ∨ x.AsOf > 1099511627776) ∨ (x.Ends < 0 ∨ x.Ends > 1099511627776) then 2 else
  if 4096 < x.Value.length then 3 else 0
theorem octKey_eq (k : List (BitVec 8)) : octets_Key k = some (ckK k) := by
  unfold octets_Key ckK
  simp only [lt_eq]
  by_cases h0 : k.length = 0
  · rw [if_pos h0, if_pos (by simp [h0])]
  · rw [if_neg h0, if_neg (by simp; intro h; subst h; simp at h0)]
    by_cases h1 : 40 < k.length
    · rw [if_pos h1, if_pos (decide_eq_true (by omega))]
    · rw [if_neg h1, if_neg (by rw [decide_eq_false (by omega)]; simp)]
theorem refKey_eq (k : List (BitVec 8)) : butteryref02_Key k = some (ckK k) := by rw [← key_eq, octKey_eq]
theorem new_eq (op : List (BitVec 8)) (n c : Int) (hc : c ≠ 0) : trouble_New op n c = some (.fault op n c .nil) := by
  simp [trouble_New, lt_eq, hc]
theorem wrap_eq (op : List (BitVec 8)) (n : Int) (e : Err) (he : e.isNil = false) : trouble_Wrap op n e = some (.fault op n 0 e) := by
  simp [trouble_Wrap, lt_eq, he]
theorem num_ck (op : List (BitVec 8)) (n low : Int) (e : Err) : ∃ e', item_Check_1_c op n low e = some e' ∧ (e.isNil = false → e' = e) ∧ (e = .nil → (n < low ∨ n > 1099511627776) → ∃ o a, e' = .fault o a 2 .nil) ∧ (e = .nil → ¬ (n < low ∨ n > 1099511627776) → e' = .nil) := by
  unfold item_Check_1_c
  simp only [lt_eq]
  cases e with
  | fault o a c u => exact ⟨_, rfl, fun _ => rfl, (fun h => by cases h), (fun h => by cases h)⟩
  | nil =>
    simp only [Err.isNil, if_true]
    by_cases h1 : n < low
    · rw [if_pos (decide_eq_true h1)]
      exact ⟨_, rfl, (fun h => by cases h), fun _ _ => ⟨_, _, rfl⟩, fun _ h => absurd (.inl h1) h⟩
    · rw [if_neg (by rw [decide_eq_false h1]; simp)]
      by_cases h2 : n > 1099511627776
      · rw [decide_eq_true h2]
        exact ⟨_, rfl, (fun h => by cases h), fun _ _ => ⟨_, _, rfl⟩, fun _ h => absurd (.inr h2) h⟩
      · rw [decide_eq_false h2]
        exact ⟨_, rfl, (fun h => by cases h), fun _ h => absurd h (by omega), fun _ _ => rfl⟩
theorem check_eq (x : api_Entry) : ∃ e, item_Check x = some e ∧ codeOf e = ckE x ∧ e.isNil = decide (ckE x = 0) := by
  unfold item_Check ckE
  rw [octKey_eq]
  simp only [Option.bind_some, lt_eq]
  by_cases hk : ckK x.Key = 0
  · rw [if_neg (show ¬ ((ckK x.Key != 0) = true) by simpa using hk), if_neg (show ¬ (ckK x.Key ≠ 0) by simpa using hk)]
    obtain ⟨e1, a1, a2, a3, a4⟩ := num_ck [118#8, 101#8, 114#8, 115#8, 105#8, 111#8, 110#8] x.Version 1 .nil
    obtain ⟨e2, b1, b2, b3, b4⟩ := num_ck [97#8, 115#8, 111#8, 102#8] x.AsOf x.Version e1
    obtain ⟨e3, c1, c2, c3, c4⟩ := num_ck [101#8, 110#8, 100#8, 115#8] x.Ends 0 e2
    simp only [a1, b1, c1, Option.bind_some]
    by_cases h : (x.Version < 1 ∨ x.Version > 1099511627776) ∨ (x.AsOf < x.Version ∨ x.AsOf > 1099511627776) ∨ (x.Ends < 0 ∨ x.Ends > 1099511627776)
    · rw [if_pos h]
      have key : ∃ o a, e3 = .fault o a 2 .nil := by
        by_cases h1 : x.Version < 1 ∨ x.Version > 1099511627776
        · obtain ⟨o, a, rfl⟩ := a3 rfl h1
          have := b2 rfl; subst this
          have := c2 rfl; subst this
          exact ⟨o, a, rfl⟩
        · have := a4 rfl h1; subst this
          by_cases h2 : x.AsOf < x.Version ∨ x.AsOf > 1099511627776
          · obtain ⟨o, a, rfl⟩ := b3 rfl h2
            have := c2 rfl; subst this
            exact ⟨o, a, rfl⟩
          · have := b4 rfl h2; subst this
            have h3 : x.Ends < 0 ∨ x.Ends > 1099511627776 := by
              rcases h with h | h | h
              · exact absurd h h1
              · exact absurd h h2
              · exact h
            exact c3 rfl h3
      obtain ⟨o, a, rfl⟩ := key
      exact ⟨_, rfl, rfl, rfl⟩
    · rw [if_neg h]
      simp only [not_or] at h
      have := a4 rfl (by omega); subst this
      have := b4 rfl (by omega); subst this
      have := c4 rfl (by omega); subst this
      simp only [Err.isNil, if_true, Option.bind_some]
      by_cases hv : 4096 < x.Value.length
      · rw [if_pos (decide_eq_true (by omega)), if_pos hv, new_eq _ _ _ (by decide)]
        exact ⟨_, rfl, rfl, rfl⟩
      · rw [if_neg (by rw [decide_eq_false (by omega)]; simp), if_neg hv]
        exact ⟨_, rfl, rfl, rfl⟩
  · rw [if_pos (by simpa using hk), if_pos hk, new_eq _ _ _ hk]
    exact ⟨_, rfl, by simp [codeOf, hk], by simp [Err.isNil, hk]⟩
theorem refCheck_eq (x : api_Entry) : butteryref06_Check x = some (ckE x) := by
  unfold butteryref06_Check ckE
  rw [refKey_eq]
  simp only [Option.bind_some, lt_eq]
  by_cases hk : ckK x.Key = 0
  · rw [if_neg (show ¬ ((ckK x.Key != 0) = true) by simpa using hk), if_neg (show ¬ (ckK x.Key ≠ 0) by simpa using hk)]
    have hb : (if decide (x.Version < 1) = true then some true else if decide (x.Version > 1099511627776) = true then some true else if decide (x.AsOf < x.Version) = true then some true else if decide (x.AsOf > 1099511627776) = true then some true else if decide (x.Ends < 0) = true then some true else some (decide (x.Ends > 1099511627776))) = some (decide ((x.Version < 1 ∨ x.Version > 1099511627776) ∨ (x.AsOf < x.Version ∨ x.AsOf > 1099511627776) ∨ (x.Ends < 0 ∨ x.Ends > 1099511627776))) := by
      by_cases h1 : x.Version < 1
      · simp [h1]
      by_cases h2 : x.Version > 1099511627776
      · simp [h1, h2]
      by_cases h3 : x.AsOf < x.Version
      · simp [h1, h2, h3]
      by_cases h4 : x.AsOf > 1099511627776
      · simp [h1, h2, h3, h4]
      by_cases h5 : x.Ends < 0
      · simp [h1, h2, h3, h4, h5]
      · simp [h1, h2, h3, h4, h5]
    rw [hb]
    simp only [Option.bind_some, decide_eq_true_eq]
    split
    · rfl
    · by_cases hv : 4096 < x.Value.length
      · rw [if_pos (by omega), if_pos hv]
      · rw [if_neg (by omega), if_neg hv]
  · rw [if_pos (show (ckK x.Key != 0) = true by simpa using hk), if_pos (show ckK x.Key ≠ 0 from hk)]
/-- An entry that may be. -/
theorem ck_ok {x : api_Entry} (h : ckE x = 0) : 1 ≤ x.Key.length ∧ x.Key.length ≤ 40 ∧ 1 ≤ x.Version ∧ x.Version ≤ 1099511627776 ∧ x.Version ≤ x.AsOf ∧ x.AsOf ≤ 1099511627776 ∧ 0 ≤ x.Ends ∧ x.Ends ≤ 1099511627776 ∧ x.Value.length ≤ 4096 := by
  unfold ckE ckK at h
  by_cases h1 : x.Key.length = 0
  · simp [h1] at h
  by_cases h2 : 40 < x.Key.length
  · simp [h1, h2] at h
  simp only [if_neg h1, if_neg h2] at h
  rw [if_neg (by simp)] at h
  by_cases h3 : (x.Version < 1 ∨ x.Version > 1099511627776) ∨ (x.AsOf < x.Version ∨ x.AsOf > 1099511627776) ∨ (x.Ends < 0 ∨ x.Ends > 1099511627776)
  · rw [if_pos h3] at h; cases h
  rw [if_neg h3] at h
  by_cases h4 : 4096 < x.Value.length
  · rw [if_pos h4] at h; cases h
  omega
/-- The bytes of an entry. -/
def encE (x : api_Entry) : List (BitVec 8) := num7 x.Key.length ++ (x.Key ++ (num7 x.Version.toNat ++ (num7 x.AsOf.toNat ++ (num7 x.Ends.toNat ++ (num7 x.Value.length ++ x.Value)))))
theorem okN_ck {x : api_Entry} (h : ckE x = 0) : okN [x.Version, x.AsOf, x.Ends] := by
  obtain ⟨h1, h2, h3, h4, h5, h6, h7, h8, h9⟩ := ck_ok h
  refine ⟨by simp, fun n hn => ?_⟩
  simp only [List.mem_cons, List.not_mem_nil, or_false] at hn
  rcases hn with rfl | rfl | rfl <;> omega
theorem num7_le {n : Nat} (h : n < 9223372036854775808) : (num7 n).length ≤ 9 := num7_len h
theorem encE_len {x : api_Entry} (h : ckE x = 0) : (encE x).length ≤ 4181 ∧ 1 ≤ (encE x).length := by
  obtain ⟨h1, h2, h3, h4, h5, h6, h7, h8, h9⟩ := ck_ok h
  have a1 := num7_len (n := x.Key.length) (by omega)
  have a2 := num7_len (n := x.Version.toNat) (by omega)
  have a3 := num7_len (n := x.AsOf.toNat) (by omega)
  have a4 := num7_len (n := x.Ends.toNat) (by omega)
  have a5 := num7_len (n := x.Value.length) (by omega)
  simp only [encE, List.length_append]
  omega
theorem put_eq {b : List (BitVec 8)} {x : api_Entry} (hb : b.length ≤ 900000) (h : ckE x = 0) : item_Put b x = some (b ++ encE x) := by
  obtain ⟨h1, h2, h3, h4, h5, h6, h7, h8, h9⟩ := ck_ok h
  have a1 := num7_len (n := x.Key.length) (by omega)
  have a2 := num7_len (n := x.Version.toNat) (by omega)
  have a3 := num7_len (n := x.AsOf.toNat) (by omega)
  have a4 := num7_len (n := x.Ends.toNat) (by omega)
  unfold item_Put
  rw [show toBytes x.Key = some x.Key by unfold toBytes; rw [if_pos (by omega)]]
  simp only [Option.bind_some, lt_eq]
  rw [octBytes_eq _ _ (by omega) (by omega)]
  simp only [Option.bind_some]
  rw [octPut_eq _ (by simp only [List.length_append]; omega) (okN_ck h)]
  simp only [Option.bind_some]
  rw [octBytes_eq _ _ (by simp only [List.length_append, nums, List.flatMap_cons, List.flatMap_nil, List.length_nil]; omega) (by omega)]
  simp [encE, nums]
theorem refPutE_eq {b : List (BitVec 8)} {x : api_Entry} (hb : b.length ≤ 900000) (h : ckE x = 0) : butteryref06_Put b x = some (b ++ encE x) := by
  obtain ⟨h1, h2, h3, h4, h5, h6, h7, h8, h9⟩ := ck_ok h
  have a1 := num7_len (n := x.Key.length) (by omega)
  have a2 := num7_len (n := x.Version.toNat) (by omega)
  have a3 := num7_len (n := x.AsOf.toNat) (by omega)
  have a4 := num7_len (n := x.Ends.toNat) (by omega)
  unfold butteryref06_Put
  rw [show toBytes x.Key = some x.Key by unfold toBytes; rw [if_pos (by omega)]]
  simp only [Option.bind_some, lt_eq]
  rw [refBytes_eq _ _ (by omega) (by omega)]
  simp only [Option.bind_some]
  rw [refPut_eq _ (by simp only [List.length_append]; omega) (okN_ck h)]
  simp only [Option.bind_some]
  rw [refBytes_eq _ _ (by simp only [List.length_append, nums, List.flatMap_cons, List.flatMap_nil, List.length_nil]; omega) (by omega)]
  simp [encE, nums]
theorem nlen_num7 : ∀ (k n : Nat), n < 128 ^ k → (num7 n).length = nlen n
  | 0, n, h => by
    have : n = 0 := by simpa using h
    subst this
    rw [num7_small (by omega), nlen_lt (by omega)]; rfl
  | k + 1, n, h => by
    by_cases h1 : n < 128
    · rw [num7_small h1, nlen_lt h1]; rfl
    · rw [nlen_ge (by omega), ← nlen_num7 k (n / 128) (by rw [Nat.div_lt_iff_lt_mul (by decide)]; rw [Nat.pow_succ] at h; exact h)]
      simp only [num7, List.length_append, List.length_cons, List.length_nil]
      rw [pre_pos (m := n / 128) (by omega)]
      simp
theorem nlen_eq {n : Nat} (h : n < 9223372036854775808) : (num7 n).length = nlen n := nlen_num7 9 n (by omega)
theorem size_eq6 {x : api_Entry} (h : ckE x = 0) : item_Size x = some ((encE x).length : Int) := by
  obtain ⟨h1, h2, h3, h4, h5, h6, h7, h8, h9⟩ := ck_ok h
  have a1 := num7_len (n := x.Key.length) (by omega)
  have a2 := num7_len (n := x.Version.toNat) (by omega)
  have a3 := num7_len (n := x.AsOf.toNat) (by omega)
  have a4 := num7_len (n := x.Ends.toNat) (by omega)
  have a5 := num7_len (n := x.Value.length) (by omega)
  have e2 : x.Version = (x.Version.toNat : Int) := by omega
  have e3 : x.AsOf = (x.AsOf.toNat : Int) := by omega
  have e4 : x.Ends = (x.Ends.toNat : Int) := by omega
  have hl : (encE x).length = (num7 x.Key.length).length + (x.Key.length + ((num7 x.Version.toNat).length + ((num7 x.AsOf.toNat).length + ((num7 x.Ends.toNat).length + ((num7 x.Value.length).length + x.Value.length))))) := by simp [encE]
  rw [hl]
  rw [nlen_eq (by omega), nlen_eq (by omega), nlen_eq (by omega), nlen_eq (by omega), nlen_eq (by omega)] at *
  unfold item_Size
  rw [e2, e3, e4]
  simp only [lt_eq, octLen_eq (n := x.Key.length) (by omega), octLen_eq (n := x.Value.length) (by omega), octLen_eq (n := x.Version.toNat) (by omega), octLen_eq (n := x.AsOf.toNat) (by omega), octLen_eq (n := x.Ends.toNat) (by omega), Option.bind_some, Int.toNat_natCast]
  generalize nlen x.Key.length = n1 at *
  generalize nlen x.Value.length = n2 at *
  generalize nlen x.Version.toNat = n3 at *
  generalize nlen x.AsOf.toNat = n4 at *
  generalize nlen x.Ends.toNat = n5 at *
  rw [w64_eq (n := (n1 : Int) + (x.Key.length : Int)) (by omega) (by omega), w64_eq (n := (n1 : Int) + (x.Key.length : Int) + (n2 : Int)) (by omega) (by omega), w64_eq (n := (n1 : Int) + (x.Key.length : Int) + (n2 : Int) + (x.Value.length : Int)) (by omega) (by omega)]
  rw [w64_eq (n := (n1 : Int) + (x.Key.length : Int) + (n2 : Int) + (x.Value.length : Int) + (n3 : Int)) (by omega) (by omega), w64_eq (n := (n1 : Int) + (x.Key.length : Int) + (n2 : Int) + (x.Value.length : Int) + (n3 : Int) + (n4 : Int)) (by omega) (by omega), w64_eq (n := (n1 : Int) + (x.Key.length : Int) + (n2 : Int) + (x.Value.length : Int) + (n3 : Int) + (n4 : Int) + (n5 : Int)) (by omega) (by omega)]
  congr 1
  omega
theorem refSize_eq6 {x : api_Entry} (h : ckE x = 0) : butteryref06_Size x = some ((encE x).length : Int) := by
  unfold butteryref06_Size
  rw [refPutE_eq (b := []) (by simp) h]
  simp [lt_eq]
def zeroE : api_Entry := ⟨[], 0, 0, 0, []⟩
/-- What is read as an entry. -/
def frE (b : List (BitVec 8)) (r : rdr) : api_Entry × rdr :=
  let k := rB b r 40
  let v := rN b k.2 1099511627776
  let a := rN b v.2 1099511627776
  let n := rN b a.2 1099511627776
  let w := rB b n.2 4096
  let x : api_Entry := ⟨k.1, v.1, a.1, n.1, w.1⟩
  if w.2.e = 0 then (if ckE x = 0 then (x, w.2) else (zeroE, ⟨w.2.a, ckE x⟩)) else (zeroE, w.2)
theorem from_eq {b : List (BitVec 8)} (hb : b.length ≤ 1000000) {r : rdr} (hr : r.a ≤ b.length) : item_From (r.o b) = some ((frE b r).1, (frE b r).2.o b) := by
  unfold item_From frE
  have h1 := rB_le hr 40
  rw [show (40 : Int) = ((40 : Nat) : Int) from rfl, octB_r hb hr (by omega)]
  simp only [Option.bind_some]
  have h2 := rN_le h1.1 1099511627776
  rw [show (1099511627776 : Int) = ((1099511627776 : Nat) : Int) from rfl, octN_r hb h1.1 (by omega)]
  simp only [Option.bind_some]
  have h3 := rN_le h2.1 1099511627776
  rw [octN_r hb h2.1 (by omega)]
  simp only [Option.bind_some]
  have h4 := rN_le h3.1 1099511627776
  rw [octN_r hb h3.1 (by omega)]
  simp only [Option.bind_some]
  rw [show (4096 : Int) = ((4096 : Nat) : Int) from rfl, octB_r hb h4.1 (by omega)]
  simp only [Option.bind_some, lt_eq]
  generalize rN b (rN b (rN b (rB b r 40).2 1099511627776).2 1099511627776).2 1099511627776 = n at *
  generalize rN b (rN b (rB b r 40).2 1099511627776).2 1099511627776 = a at *
  generalize rN b (rB b r 40).2 1099511627776 = v at *
  generalize rB b r 40 = k at *
  generalize rB b n.2 4096 = w
  obtain ⟨wv, wa, we⟩ := w
  simp only [octets_Reader_Code, rdr.o, Option.bind_some]
  by_cases he : we = 0
  · subst he
    obtain ⟨e, c1, c2, c3⟩ := check_eq ⟨k.1, v.1, a.1, n.1, wv⟩
    rw [if_pos (by rfl), c1, if_pos rfl]
    simp only [Option.bind_some, c3]
    by_cases hc : ckE ⟨k.1, v.1, a.1, n.1, wv⟩ = 0
    · rw [if_pos hc]
      simp [hc]
    · rw [if_neg hc]
      simp only [hc, decide_false, Bool.not_false, if_true, trouble_Of, c2, Option.bind_some, fail_eq]
      rw [if_pos (by simpa using hc)]
      rfl
  · rw [if_neg (by simpa using he), if_neg he]
    simp only [Option.bind_some]
    rw [if_pos (by simpa using he)]
    rfl
theorem refFrom_eq {b : List (BitVec 8)} (hb : b.length ≤ 1000000) {r : rdr} (hr : r.a ≤ b.length) : butteryref06_From (r.x b) = some ((frE b r).2.x b, (frE b r).1) := by
  unfold butteryref06_From frE
  have h1 := rB_le hr 40
  rw [show (40 : Int) = ((40 : Nat) : Int) from rfl, refB_r hb hr (by omega)]
  simp only [Option.bind_some]
  have h2 := rN_le h1.1 1099511627776
  rw [show (1099511627776 : Int) = ((1099511627776 : Nat) : Int) from rfl, refN_r hb h1.1 (by omega)]
  simp only [Option.bind_some]
  have h3 := rN_le h2.1 1099511627776
  rw [refN_r hb h2.1 (by omega)]
  simp only [Option.bind_some]
  have h4 := rN_le h3.1 1099511627776
  rw [refN_r hb h3.1 (by omega)]
  simp only [Option.bind_some]
  rw [show (4096 : Int) = ((4096 : Nat) : Int) from rfl, refB_r hb h4.1 (by omega)]
  simp only [Option.bind_some, lt_eq]
  generalize rN b (rN b (rN b (rB b r 40).2 1099511627776).2 1099511627776).2 1099511627776 = n at *
  generalize rN b (rN b (rB b r 40).2 1099511627776).2 1099511627776 = a at *
  generalize rN b (rB b r 40).2 1099511627776 = v at *
  generalize rB b r 40 = k at *
  generalize rB b n.2 4096 = w
  obtain ⟨wv, wa, we⟩ := w
  simp only [rdr.x]
  by_cases he : we = 0
  · subst he
    rw [refCheck_eq]
    simp only [Option.bind_some, beq_self_eq_true, if_true]
    by_cases hc : ckE ⟨k.1, v.1, a.1, n.1, wv⟩ = 0
    · rw [if_pos hc]
      simp [hc]
    · rw [if_neg hc]
      rw [if_pos (by simpa using hc)]
      rfl
  · have hf : (we == 0) = false := by simpa using he
    simp only [hf, if_neg he, Option.bind_some, Bool.false_eq_true, if_false]
    simp [he]
    rfl
theorem frE_le {b : List (BitVec 8)} {r : rdr} (hr : r.a ≤ b.length) : (frE b r).2.a ≤ b.length := by
  unfold frE
  have h1 := rB_le hr 40
  have h2 := rN_le h1.1 1099511627776
  have h3 := rN_le h2.1 1099511627776
  have h4 := rN_le h3.1 1099511627776
  have h5 := rB_le h4.1 4096
  simp only
  split
  · split
    · exact h5.1
    · exact h5.1
  · exact h5.1
/-- An entry that is there is read. -/
theorem frE_is {b l : List (BitVec 8)} {r : rdr} {x : api_Entry} (he : r.e = 0) (hr : r.a ≤ b.length) (h : b.drop r.a = encE x ++ l) (hc : ckE x = 0) : frE b r = (x, ⟨r.a + (encE x).length, 0⟩) := by
  obtain ⟨h1, h2, h3, h4, h5, h6, h7, h8, h9⟩ := ck_ok hc
  simp only [encE, List.append_assoc] at h
  have k1 := rB_is he hr h (m := 40) (by omega) (by omega)
  have d1 : b.drop (r.a + (num7 x.Key.length).length + x.Key.length) = _ := drop_app (drop_app h)
  have l1 : r.a + (num7 x.Key.length).length + x.Key.length ≤ b.length := by have := (rB_le hr 40).1; rw [k1] at this; exact this
  have k2 := rN_is (r := ⟨r.a + (num7 x.Key.length).length + x.Key.length, 0⟩) rfl d1 (m := 1099511627776) (by omega) (by omega)
  have d2 := drop_app d1
  have l2 := (rN_le (b := b) (r := ⟨r.a + (num7 x.Key.length).length + x.Key.length, 0⟩) l1 1099511627776).1
  rw [k2] at l2
  have k3 := rN_is (r := ⟨r.a + (num7 x.Key.length).length + x.Key.length + (num7 x.Version.toNat).length, 0⟩) rfl d2 (m := 1099511627776) (by omega) (by omega)
  have d3 := drop_app d2
  have l3 := (rN_le (b := b) (r := ⟨r.a + (num7 x.Key.length).length + x.Key.length + (num7 x.Version.toNat).length, 0⟩) l2 1099511627776).1
  rw [k3] at l3
  have k4 := rN_is (r := ⟨r.a + (num7 x.Key.length).length + x.Key.length + (num7 x.Version.toNat).length + (num7 x.AsOf.toNat).length, 0⟩) rfl d3 (m := 1099511627776) (by omega) (by omega)
  have d4 := drop_app d3
  have l4 := (rN_le (b := b) (r := ⟨r.a + (num7 x.Key.length).length + x.Key.length + (num7 x.Version.toNat).length + (num7 x.AsOf.toNat).length, 0⟩) l3 1099511627776).1
  rw [k4] at l4
  have k5 := rB_is (r := ⟨r.a + (num7 x.Key.length).length + x.Key.length + (num7 x.Version.toNat).length + (num7 x.AsOf.toNat).length + (num7 x.Ends.toNat).length, 0⟩) rfl l4 d4 (m := 4096) (by omega) (by omega)
  have e2 : (x.Version.toNat : Int) = x.Version := by omega
  have e3 : (x.AsOf.toNat : Int) = x.AsOf := by omega
  have e4 : (x.Ends.toNat : Int) = x.Ends := by omega
  unfold frE
  simp only [k1, k2, k3, k4, k5, if_true, e2, e3, e4]
  rw [if_pos hc]
  refine Prod.ext rfl ?_
  simp only [encE, List.length_append, rdr.mk.injEq, and_true]
  omega
/-- What was read as an entry is its bytes. -/
theorem frE_one {b : List (BitVec 8)} {r : rdr} (hr : r.a ≤ b.length) (h : (frE b r).2.e = 0) : ckE (frE b r).1 = 0 ∧ b.drop r.a = encE (frE b r).1 ++ b.drop (frE b r).2.a ∧ r.a < (frE b r).2.a := by
  unfold frE at h ⊢
  have h1 := rB_le hr 40
  have h2 := rN_le h1.1 1099511627776
  have h3 := rN_le h2.1 1099511627776
  have h4 := rN_le h3.1 1099511627776
  have h5 := rB_le h4.1 4096
  have o5 := rB_one (b := b) h4.1 (m := 4096) (by omega)
  have f5 := rB_off (b := b) (r := (rN b (rN b (rN b (rB b r 40).2 1099511627776).2 1099511627776).2 1099511627776).2) (m := 4096)
  have o4 := rN_one (b := b) (r := (rN b (rN b (rB b r 40).2 1099511627776).2 1099511627776).2) (m := 1099511627776) (by omega)
  have f4 := rN_off (b := b) (r := (rN b (rN b (rB b r 40).2 1099511627776).2 1099511627776).2) (m := 1099511627776)
  have o3 := rN_one (b := b) (r := (rN b (rB b r 40).2 1099511627776).2) (m := 1099511627776) (by omega)
  have f3 := rN_off (b := b) (r := (rN b (rB b r 40).2 1099511627776).2) (m := 1099511627776)
  have o2 := rN_one (b := b) (r := (rB b r 40).2) (m := 1099511627776) (by omega)
  have f2 := rN_off (b := b) (r := (rB b r 40).2) (m := 1099511627776)
  have o1 := rB_one (b := b) hr (m := 40) (by omega)
  simp only at h ⊢
  generalize rB b (rN b (rN b (rN b (rB b r 40).2 1099511627776).2 1099511627776).2 1099511627776).2 4096 = w at *
  generalize rN b (rN b (rN b (rB b r 40).2 1099511627776).2 1099511627776).2 1099511627776 = n at *
  generalize rN b (rN b (rB b r 40).2 1099511627776).2 1099511627776 = a at *
  generalize rN b (rB b r 40).2 1099511627776 = v at *
  generalize rB b r 40 = k at *
  by_cases he : w.2.e = 0
  · rw [if_pos he] at h ⊢
    by_cases hc : ckE ⟨k.1, v.1, a.1, n.1, w.1⟩ = 0
    · rw [if_pos hc]
      have g4 := f5 he
      have g3 := f4 g4
      have g2 := f3 g3
      have g1 := f2 g2
      refine ⟨hc, ?_, ?_⟩
      · simp only [encE, Int.toNat_natCast, List.append_assoc]
        rw [(o1 g1).1, (o2 g2).1, (o3 g3).1, (o4 g4).1, (o5 he).1]
      · have := (o1 g1).2.1
        simp only
        omega
    · rw [if_neg hc] at h
      exact absurd h hc
  · rw [if_neg he] at h
    exact absurd h he
end Go.Proofs.YtkmlinaofbcbaaaDoor
namespace Go.Proofs.YtkmlinaofbcbaaaDoor
open Go Go.Va
set_option linter.unusedVariables false
set_option linter.unusedSimpArgs false
/-- What bytes are as entries, from a place on; or what is wrong first. -/
def rdE (b : List (BitVec 8)) : Nat → Nat → List api_Entry ⊕ Int
  | 0, _ => .inl []
  | k + 1, a => if a < b.length then (if (frE b ⟨a, 0⟩).2.e = 0 then (match rdE b k (frE b ⟨a, 0⟩).2.a with
      | .inl l => .inl ((frE b ⟨a, 0⟩).1 :: l)
      | .inr c => .inr c) else .inr (frE b ⟨a, 0⟩).2.e) else .inl []
theorem rdE_ne {b : List (BitVec 8)} : ∀ {k a : Nat} {c : Int}, rdE b k a = .inr c → c ≠ 0
  | 0, a, c, h => by simp [rdE] at h
  | k + 1, a, c, h => by
    simp only [rdE] at h
    split at h
    · split at h
      · split at h
        · cases h
        · rename_i hc; cases h; exact rdE_ne hc
      · rename_i he; cases h; exact he
    · cases h
theorem rdE_len {b : List (BitVec 8)} : ∀ {k a : Nat} {l : List api_Entry}, rdE b k a = .inl l → l.length ≤ k
  | 0, a, l, h => by simp [rdE] at h; subst h; simp
  | k + 1, a, l, h => by
    simp only [rdE] at h
    split at h
    · split at h
      · split at h
        · rename_i l' hl; cases h; have := rdE_len hl; simp; omega
        · cases h
      · cases h
    · cases h; simp
theorem frE_val {b : List (BitVec 8)} {r : rdr} (hr : r.a ≤ b.length) : (frE b r).1.Value.length ≤ b.length := by
  unfold frE
  have h1 := rB_le hr 40
  have h2 := rN_le h1.1 1099511627776
  have h3 := rN_le h2.1 1099511627776
  have h4 := rN_le h3.1 1099511627776
  have h5 := rB_le h4.1 4096
  simp only
  split
  · split
    · exact h5.2.2
    · simp [zeroE]
  · simp [zeroE]
theorem rdE_val {b : List (BitVec 8)} : ∀ {k a : Nat} {l : List api_Entry}, a ≤ b.length → rdE b k a = .inl l → ∀ x ∈ l, x.Value.length ≤ b.length
  | 0, a, l, ha, h, x, hx => by simp [rdE] at h; subst h; simp at hx
  | k + 1, a, l, ha, h, x, hx => by
    simp only [rdE] at h
    split at h
    · split at h
      · split at h
        · rename_i l' hl
          cases h
          rcases List.mem_cons.1 hx with rfl | hx
          · exact frE_val (r := ⟨a, 0⟩) ha
          · exact rdE_val (frE_le (r := ⟨a, 0⟩) ha) hl x hx
        · cases h
      · cases h
    · cases h; simp at hx
theorem o_code (r : rdr) (b : List (BitVec 8)) : (r.o b).code = r.e := rfl
theorem o_at (r : rdr) (b : List (BitVec 8)) : (r.o b).at_ = r.a := rfl
theorem x_code (r : rdr) (b : List (BitVec 8)) : (r.x b).Code = r.e := rfl
theorem x_at (r : rdr) (b : List (BitVec 8)) : (r.x b).At = r.a := rfl
theorem read_l {b : List (BitVec 8)} (hb : b.length ≤ 900000) : ∀ (k a : Nat) (acc : List api_Entry), b.length < k + a → a ≤ b.length → acc.length + k ≤ 1000000 →
    ∃ y, item_Read_l0 (acc, (⟨a, 0⟩ : rdr).o b) = some y ∧ (∀ l, rdE b k a = .inl l → ∃ r, y = .inl (acc ++ l, r)) ∧ (∀ c, rdE b k a = .inr c → ∃ e, y = .inr ([], e) ∧ codeOf e = c ∧ e.isNil = false)
  | 0, a, acc, h1, h2, h3 => absurd h1 (by omega)
  | k + 1, a, acc, h1, h2, h3 => by
    have hL : octets_Reader_Left (rdr.o ⟨a, 0⟩ b) = some ((b.length - a : Nat) : Int) := left_eq (by omega) h2
    have hf := from_eq (b := b) (r := ⟨a, 0⟩) (by omega) h2
    have hle := frE_le (b := b) (r := ⟨a, 0⟩) h2
    by_cases ha : a < b.length
    · by_cases he : (frE b ⟨a, 0⟩).2.e = 0
      · obtain ⟨c1, c2, c3⟩ := frE_one (b := b) (r := ⟨a, 0⟩) h2 he
        simp only at c3
        obtain ⟨y, i1, i2, i3⟩ := read_l hb k (frE b ⟨a, 0⟩).2.a (acc ++ [(frE b ⟨a, 0⟩).1]) (by omega) hle (by simp; omega)
        have e1 : item_Read_l0 (acc, (⟨a, 0⟩ : rdr).o b) = item_Read_l0 (acc ++ [(frE b ⟨a, 0⟩).1], (⟨(frE b ⟨a, 0⟩).2.a, 0⟩ : rdr).o b) := by
          refine loopO_in (body := fun s => item_Read_b0 s.1 s.2) ?_
          have hd : decide (((b.length - a : Nat) : Int) > 0) = true := decide_eq_true (by omega)
          simp only [item_Read_b0, hL, hf, octets_Reader_Code, octets_Reader_At, Option.bind_some, lt_eq, o_code, o_at, beq_self_eq_true, if_true, hd, he, bne_self_eq_false, Bool.false_eq_true, if_false]
          rw [app_eq (by simp; omega)]
          simp only [Option.bind_some, rdr.o, he]
        refine ⟨y, by rw [e1]; exact i1, fun l hl => ?_, fun c hc => ?_⟩
        · simp only [rdE, if_pos ha, if_pos he] at hl
          split at hl
          · rename_i l' hl'
            cases hl
            obtain ⟨r, hr⟩ := i2 _ hl'
            exact ⟨r, by rw [hr]; simp⟩
          · cases hl
        · simp only [rdE, if_pos ha, if_pos he] at hc
          split at hc
          · cases hc
          · rename_i c' hc'
            cases hc
            exact i3 _ hc'
      · refine ⟨.inr ([], .fault [101#8, 110#8, 116#8, 114#8, 105#8, 101#8, 115#8] acc.length 0 (.fault [101#8, 110#8, 116#8, 114#8, 121#8] a (frE b ⟨a, 0⟩).2.e .nil)), ?_, fun l hl => ?_, fun c hc => ?_⟩
        · refine loopO_out ?_
          have hd : decide (((b.length - a : Nat) : Int) > 0) = true := decide_eq_true (by omega)
          simp only [item_Read_b0, hL, hf, octets_Reader_Code, octets_Reader_At, Option.bind_some, lt_eq, o_code, o_at, beq_self_eq_true, if_true, hd]
          show (if ((frE b ⟨a, 0⟩).2.e != 0) = true then _ else _) = _
          rw [if_pos (by simpa using he), new_eq _ _ _ he]
          simp only [Option.bind_some]
          rw [wrap_eq _ _ _ rfl]
          rfl
        · simp only [rdE, if_pos ha, if_neg he] at hl
          cases hl
        · simp only [rdE, if_pos ha, if_neg he] at hc
          cases hc
          exact ⟨_, rfl, by simp [codeOf, he], rfl⟩
    · refine ⟨.inl (acc, (⟨a, 0⟩ : rdr).o b), ?_, fun l hl => ?_, fun c hc => ?_⟩
      · refine loopO_out ?_
        have hd : decide (((b.length - a : Nat) : Int) > 0) = false := decide_eq_false (by omega)
        simp only [item_Read_b0, hL, octets_Reader_Code, Option.bind_some, lt_eq, o_code, beq_self_eq_true, if_true, hd, Bool.false_eq_true, if_false]
      · simp only [rdE, if_neg ha] at hl
        cases hl
        exact ⟨_, by simp; rfl⟩
      · simp only [rdE, if_neg ha] at hc
        cases hc
theorem read_eq6 {b : List (BitVec 8)} (hb : b.length ≤ 900000) : (∀ l, rdE b (b.length + 1) 0 = .inl l → item_Read b = some (l, .nil)) ∧ (∀ c, rdE b (b.length + 1) 0 = .inr c → ∃ e, item_Read b = some ([], e) ∧ codeOf e = c ∧ e.isNil = false) := by
  obtain ⟨y, h1, h2, h3⟩ := read_l hb (b.length + 1) 0 [] (by omega) (by omega) (by simp; omega)
  unfold item_Read
  rw [read_eq (by omega)]
  have h1' : item_Read_l0 ([], ⟨b, 0, 0⟩) = some y := h1
  simp only [Option.bind_some, h1']
  refine ⟨fun l hl => ?_, fun c hc => ?_⟩
  · obtain ⟨r, rfl⟩ := h2 l hl
    rfl
  · obtain ⟨e, rfl, he⟩ := h3 c hc
    exact ⟨e, rfl, he⟩
theorem refRead_l {b : List (BitVec 8)} (hb : b.length ≤ 900000) : ∀ (k a : Nat) (acc : List api_Entry), b.length < k + a → a ≤ b.length → acc.length + k ≤ 1000000 →
    ∃ y, butteryref06_Read_l0 b (acc, (⟨a, 0⟩ : rdr).x b) = some y ∧ (∀ l, rdE b k a = .inl l → ∃ r, y = .inl (acc ++ l, r)) ∧ (∀ c, rdE b k a = .inr c → y = .inr ([], c))
  | 0, a, acc, h1, h2, h3 => absurd h1 (by omega)
  | k + 1, a, acc, h1, h2, h3 => by
    have hf := refFrom_eq (b := b) (r := ⟨a, 0⟩) (by omega) h2
    have hle := frE_le (b := b) (r := ⟨a, 0⟩) h2
    by_cases ha : a < b.length
    · by_cases he : (frE b ⟨a, 0⟩).2.e = 0
      · obtain ⟨c1, c2, c3⟩ := frE_one (b := b) (r := ⟨a, 0⟩) h2 he
        simp only at c3
        obtain ⟨y, i1, i2, i3⟩ := refRead_l hb k (frE b ⟨a, 0⟩).2.a (acc ++ [(frE b ⟨a, 0⟩).1]) (by omega) hle (by simp; omega)
        have e1 : butteryref06_Read_l0 b (acc, (⟨a, 0⟩ : rdr).x b) = butteryref06_Read_l0 b (acc ++ [(frE b ⟨a, 0⟩).1], (⟨(frE b ⟨a, 0⟩).2.a, 0⟩ : rdr).x b) := by
          refine loopO_in (body := fun s => butteryref06_Read_b0 b s.1 s.2) ?_
          have hd : decide ((a : Int) < (b.length : Int)) = true := decide_eq_true (by omega)
          simp only [butteryref06_Read_b0, hf, lt_eq, Option.bind_some]
          show (if decide ((a : Int) < (b.length : Int)) = true then (if ((frE b ⟨a, 0⟩).2.e != 0) = true then _ else _) else _) = _
          rw [if_pos hd, if_neg (by simp [he]), app_eq (by simp; omega)]
          simp only [Option.bind_some, rdr.x, he]
        refine ⟨y, by rw [e1]; exact i1, fun l hl => ?_, fun c hc => ?_⟩
        · simp only [rdE, if_pos ha, if_pos he] at hl
          split at hl
          · rename_i l' hl'
            cases hl
            obtain ⟨r, hr⟩ := i2 _ hl'
            exact ⟨r, by rw [hr]; simp⟩
          · cases hl
        · simp only [rdE, if_pos ha, if_pos he] at hc
          split at hc
          · cases hc
          · rename_i c' hc'
            cases hc
            exact i3 _ hc'
      · refine ⟨.inr ([], (frE b ⟨a, 0⟩).2.e), ?_, fun l hl => ?_, fun c hc => ?_⟩
        · refine loopO_out ?_
          have hd : decide ((a : Int) < (b.length : Int)) = true := decide_eq_true (by omega)
          simp only [butteryref06_Read_b0, hf, lt_eq, Option.bind_some]
          show (if decide ((a : Int) < (b.length : Int)) = true then (if ((frE b ⟨a, 0⟩).2.e != 0) = true then _ else _) else _) = _
          rw [if_pos hd, if_pos (by simpa using he)]
          rfl
        · simp only [rdE, if_pos ha, if_neg he] at hl
          cases hl
        · simp only [rdE, if_pos ha, if_neg he] at hc
          cases hc
          rfl
    · refine ⟨.inl (acc, (⟨a, 0⟩ : rdr).x b), ?_, fun l hl => ?_, fun c hc => ?_⟩
      · refine loopO_out ?_
        have hd : ¬decide ((a : Int) < (b.length : Int)) = true := by simpa using (by omega : b.length ≤ a)
        simp only [butteryref06_Read_b0, lt_eq]
        show (if decide ((a : Int) < (b.length : Int)) = true then _ else _) = _
        rw [if_neg hd]
      · simp only [rdE, if_neg ha] at hl
        cases hl
        exact ⟨_, by simp; rfl⟩
      · simp only [rdE, if_neg ha] at hc
        cases hc
theorem refRead_eq6 {b : List (BitVec 8)} (hb : b.length ≤ 900000) : (∀ l, rdE b (b.length + 1) 0 = .inl l → butteryref06_Read b = some (l, 0)) ∧ (∀ c, rdE b (b.length + 1) 0 = .inr c → butteryref06_Read b = some ([], c)) := by
  obtain ⟨y, h1, h2, h3⟩ := refRead_l hb (b.length + 1) 0 [] (by omega) (by omega) (by simp; omega)
  unfold butteryref06_Read
  have h1' : butteryref06_Read_l0 b ([], ⟨b, 0, 0⟩) = some y := h1
  simp only [lt_eq, h1', Option.bind_some]
  refine ⟨fun l hl => ?_, fun c hc => ?_⟩
  · obtain ⟨r, rfl⟩ := h2 l hl
    rfl
  · obtain rfl := h3 c hc
    rfl
/-- Entries that were read are their bytes. -/
theorem rdE_one {b : List (BitVec 8)} : ∀ {k a : Nat} {l : List api_Entry}, b.length < k + a → a ≤ b.length → rdE b k a = .inl l → b.drop a = l.flatMap encE ∧ ∀ x ∈ l, ckE x = 0
  | 0, a, l, h1, h2, h => absurd h1 (by omega)
  | k + 1, a, l, h1, h2, h => by
    simp only [rdE] at h
    split at h
    · rename_i ha
      split at h
      · rename_i he
        obtain ⟨c1, c2, c3⟩ := frE_one (b := b) (r := ⟨a, 0⟩) h2 he
        simp only at c2 c3
        split at h
        · rename_i l' hl
          cases h
          obtain ⟨i1, i2⟩ := rdE_one (by omega) (frE_le (b := b) (r := ⟨a, 0⟩) h2) hl
          refine ⟨by rw [c2, i1]; simp, fun x hx => ?_⟩
          rcases List.mem_cons.1 hx with rfl | hx
          · exact c1
          · exact i2 x hx
        · cases h
      · cases h
    · cases h
      exact ⟨by rw [List.drop_of_length_le (by omega)]; rfl, fun x hx => by cases hx⟩
/-- Entries that may be are read from their bytes. -/
theorem rdE_is {b : List (BitVec 8)} : ∀ {k a : Nat} {l : List api_Entry}, b.length < k + a → a ≤ b.length → b.drop a = l.flatMap encE → (∀ x ∈ l, ckE x = 0) → rdE b k a = .inl l
  | 0, a, l, h1, h2, _, _ => absurd h1 (by omega)
  | k + 1, a, [], h1, h2, h3, h4 => by
    have h5 := congrArg List.length h3
    simp at h5
    rw [rdE, if_neg (by omega)]
  | k + 1, a, x :: l, h1, h2, h3, h4 => by
    have hx := h4 x List.mem_cons_self
    rw [List.flatMap_cons] at h3
    have hr := frE_is (r := ⟨a, 0⟩) rfl h2 h3 hx
    have h5 := congrArg List.length h3
    have hp := (encE_len hx).2
    simp only [List.length_drop, List.length_append] at h5
    have ih := rdE_is (k := k) (a := a + (encE x).length) (l := l) (by omega) (by omega) (drop_app h3) (fun y hy => h4 y (List.mem_cons_of_mem _ hy))
    rw [rdE, if_pos (by omega), hr]
    simp only [if_true, ih]
theorem all_len {l : List api_Entry} (h : ∀ x ∈ l, ckE x = 0) : (l.flatMap encE).length ≤ 4181 * l.length := by
  induction l with
  | nil => simp
  | cons x l ih =>
    have := ih (fun y hy => h y (List.mem_cons_of_mem _ hy))
    have := (encE_len (h x List.mem_cons_self)).1
    simp only [List.flatMap_cons, List.length_append, List.length_cons]
    omega
theorem all_eq6' {l : List api_Entry} (hl : l.length ≤ 1000000) (hn : (l.flatMap encE).length ≤ 900000) (h : ∀ x ∈ l, ckE x = 0) : item_All l = some (l.flatMap encE) := by
  have k := loopO_up (body := fun s => item_All_b0 l (l.length : Int) s.1 s.2) (fun i : Nat => ((l.take i).flatMap encE, (i : Int))) l.length (x := l.flatMap encE) (fun i hi => by
    simp only [item_All_b0, lt_eq]
    have hb : ((l.take i).flatMap encE).length ≤ 900000 := by
      have e : l.flatMap encE = (l.take i).flatMap encE ++ (l.drop i).flatMap encE := by rw [← List.flatMap_append, List.take_append_drop]
      rw [e, List.length_append] at hn
      omega
    rw [if_pos (decide_eq_true (by omega)), ix_nat hi]
    simp only [Option.bind_some]
    rw [put_eq (by omega) (h _ (List.getElem_mem hi))]
    simp only [Option.bind_some]
    rw [w64_nat (by omega), List.take_add_one, List.getElem?_eq_getElem hi, List.flatMap_append]
    simp) (by
    simp only [item_All_b0, lt_eq, List.take_length]
    rw [if_neg (by rw [decide_eq_false (by omega)]; simp)])
  have k' : item_All_l0 l (l.length : Int) ([], 0) = some (l.flatMap encE) := k
  unfold item_All
  simp only [lt_eq, k', Option.bind_some]
theorem all_eq6 {l : List api_Entry} (hl : l.length ≤ 200) (h : ∀ x ∈ l, ckE x = 0) : item_All l = some (l.flatMap encE) :=
  all_eq6' (by omega) (by have := all_len h; omega) h
theorem refAll_eq6 {l : List api_Entry} (hl : l.length ≤ 200) (h : ∀ x ∈ l, ckE x = 0) : butteryref06_All l = some (l.flatMap encE) := by
  have k := loopO_up (body := fun s => butteryref06_All_b0 l s.1 s.2) (fun i : Nat => ((l.take i).flatMap encE, (i : Int))) l.length (x := l.flatMap encE) (fun i hi => by
    simp only [butteryref06_All_b0, lt_eq]
    have hb := all_len (l := l.take i) (fun x hx => h x (List.mem_of_mem_take hx))
    rw [List.length_take] at hb
    rw [if_pos (decide_eq_true (by omega)), ix_nat hi]
    simp only [Option.bind_some]
    rw [refPutE_eq (by omega) (h _ (List.getElem_mem hi))]
    simp only [Option.bind_some]
    rw [w64_nat (by omega), List.take_add_one, List.getElem?_eq_getElem hi, List.flatMap_append]
    simp) (by
    simp only [butteryref06_All_b0, lt_eq, List.take_length]
    rw [if_neg (by rw [decide_eq_false (by omega)]; simp)])
  have k' : butteryref06_All_l0 l ([], 0) = some (l.flatMap encE) := k
  unfold butteryref06_All
  simp only [k', Option.bind_some]
theorem same_eq6 (x y : api_Entry) (hx : x.Value.length < 9223372036854775807) : butteryref06_Same x y = some (decide (x = y)) := by
  obtain ⟨k, v, a, n, w⟩ := x
  obtain ⟨k', v', a', n', w'⟩ := y
  simp only at hx
  simp only [butteryref06_Same, lt_eq, same_eq _ _ hx, Option.bind_some, beq_iff_eq, api_Entry.mk.injEq]
  by_cases h1 : k = k'
  · by_cases h2 : v = v'
    · by_cases h3 : a = a'
      · by_cases h4 : n = n'
        · simp [h1, h2, h3, h4]
        · simp [h1, h2, h3, h4]
      · simp [h1, h2, h3]
    · simp [h1, h2]
  · simp [h1]
theorem isame_eq6 (x y : api_Entry) : item_Same x y = some (decide (x = y)) := by
  obtain ⟨k, v, a, n, w⟩ := x
  obtain ⟨k', v', a', n', w'⟩ := y
  simp only [item_Same, lt_eq, beq_iff_eq, api_Entry.mk.injEq]
  by_cases h1 : k = k'
  · by_cases h2 : v = v'
    · by_cases h3 : a = a'
      · by_cases h4 : n = n'
        · by_cases h5 : w = w'
          · simp [h1, h2, h3, h4, h5]
          · simp [h1, h2, h3, h4, h5]
        · simp [h1, h2, h3, h4]
      · simp [h1, h2, h3]
    · simp [h1, h2]
  · simp [h1]
theorem sameAll_refl {l : List api_Entry} (hl : l.length ≤ 1000000) (h : ∀ x ∈ l, x.Value.length < 9223372036854775807) : butteryref06_SameAll l l = some true := by
  have k := loopO_up (body := fun s => butteryref06_SameAll_b0 l l s) (fun i : Nat => (i : Int)) l.length (x := .inl ()) (fun i hi => by
    simp only [butteryref06_SameAll_b0, lt_eq]
    rw [if_pos (decide_eq_true (by omega)), ix_nat hi]
    simp only [Option.bind_some]
    rw [same_eq6 _ _ (h _ (List.getElem_mem hi))]
    simp only [Option.bind_some, decide_true, Bool.not_true, Bool.false_eq_true, if_false]
    rw [w64_nat (by omega)]) (by
    simp only [butteryref06_SameAll_b0, lt_eq]
    rw [if_neg (by rw [decide_eq_false (by omega)]; simp)])
  have k' : butteryref06_SameAll_l0 l l 0 = some (.inl ()) := k
  simp only [butteryref06_SameAll, lt_eq, bne_self_eq_false, Bool.false_eq_true, if_false, k', Option.bind_some, Sum.elim_inl]
theorem copy_eq6 {x : api_Entry} (h : x.Value.length ≤ 100000) : item_Copy x = some x := by
  unfold item_Copy
  rw [app_eq (by simp; omega)]
  simp [lt_eq]
/-- What is light. -/
theorem light_l {l : List api_Entry} (hl : l.length ≤ 40) : ∀ (k i : Nat) (n : Nat), k + i = l.length → n ≤ 12000 → ∃ y, butterylaw06_Light_l0 l ((n : Int), (i : Int)) = some y ∧ (y = .inr 1 ∨ (y = .inl () ∧ ∀ j, i ≤ j → (h : j < l.length) → l[j].Key.length ≤ 200 ∧ l[j].Value.length ≤ 5000))
  | 0, i, n, hk, hn => by
    refine ⟨.inl (), loopO_out ?_, .inr ⟨rfl, fun j h1 h2 => by omega⟩⟩
    simp only [butterylaw06_Light_b0, lt_eq]
    rw [if_neg (by rw [decide_eq_false (by omega)]; simp)]
  | k + 1, i, n, hk, hn => by
    have hi : i < l.length := by omega
    by_cases h1 : l[i].Key.length > 200
    · refine ⟨.inr 1, loopO_out ?_, .inl rfl⟩
      simp only [butterylaw06_Light_b0, lt_eq, ix_nat hi, Option.bind_some]
      rw [if_pos (decide_eq_true (by omega)), if_pos (decide_eq_true (by omega))]
      rfl
    · by_cases h2 : l[i].Value.length > 5000
      · refine ⟨.inr 1, loopO_out ?_, .inl rfl⟩
        simp only [butterylaw06_Light_b0, lt_eq, ix_nat hi, Option.bind_some]
        rw [if_pos (decide_eq_true (by omega)), if_neg (by rw [decide_eq_false (by omega)]; simp), decide_eq_true (by omega)]
        rfl
      · have hw : w64 ((n : Int) + (l[i].Value.length : Int)) = ((n + l[i].Value.length : Nat) : Int) := by rw [w64_eq (by omega) (by omega)]; omega
        by_cases h3 : n + l[i].Value.length > 12000
        · refine ⟨.inr 1, loopO_out ?_, .inl rfl⟩
          simp only [butterylaw06_Light_b0, lt_eq, ix_nat hi, Option.bind_some]
          rw [if_pos (decide_eq_true (by omega)), if_neg (by rw [decide_eq_false (by omega)]; simp), decide_eq_false (by omega)]
          simp only [Option.bind_some, Bool.false_eq_true, if_false, hw]
          rw [if_pos (decide_eq_true (by omega))]
        · obtain ⟨y, i1, i2⟩ := light_l hl k (i + 1) (n + l[i].Value.length) (by omega) (by omega)
          have e : butterylaw06_Light_l0 l ((n : Int), (i : Int)) = butterylaw06_Light_l0 l (((n + l[i].Value.length : Nat) : Int), ((i + 1 : Nat) : Int)) := by
            refine loopO_in (body := fun s => butterylaw06_Light_b0 l s.1 s.2) ?_
            simp only [butterylaw06_Light_b0, lt_eq, ix_nat hi, Option.bind_some]
            rw [if_pos (decide_eq_true (by omega)), if_neg (by rw [decide_eq_false (by omega)]; simp), decide_eq_false (by omega)]
            simp only [Option.bind_some, Bool.false_eq_true, if_false, hw]
            rw [if_neg (by rw [decide_eq_false (by omega)]; simp), w64_nat (by omega)]
          refine ⟨y, by rw [e]; exact i1, ?_⟩
          rcases i2 with rfl | ⟨rfl, i3⟩
          · exact .inl rfl
          · refine .inr ⟨rfl, fun j h4 h5 => ?_⟩
            by_cases hj : j = i
            · subst hj; omega
            · exact i3 j (by omega) h5
theorem light_eq (l : List api_Entry) : butterylaw06_Light l = some 1 ∨ (butterylaw06_Light l = some 0 ∧ l.length ≤ 40 ∧ ∀ x ∈ l, x.Key.length ≤ 200 ∧ x.Value.length ≤ 5000) := by
  unfold butterylaw06_Light
  simp only [lt_eq]
  by_cases h : l.length > 40
  · left; rw [if_pos (decide_eq_true (by omega))]
  · rw [if_neg (by rw [decide_eq_false (by omega)]; simp)]
    obtain ⟨y, h1, h2⟩ := light_l (l := l) (by omega) l.length 0 0 (by omega) (by omega)
    have h1' : butterylaw06_Light_l0 l (0, 0) = some y := h1
    rw [h1']
    rcases h2 with rfl | ⟨rfl, h3⟩
    · exact .inl rfl
    · refine .inr ⟨rfl, by omega, fun x hx => ?_⟩
      obtain ⟨j, hj, rfl⟩ := List.mem_iff_getElem.1 hx
      exact h3 j (by omega) hj
end Go.Proofs.YtkmlinaofbcbaaaDoor
namespace Go.Proofs.YtkmlinaofbcbaaaDoor
open Go Go.Va
set_option linter.unusedVariables false
set_option linter.unusedSimpArgs false
set_option maxRecDepth 20000
noncomputable def butteryref07_fold (x0 : BitVec 64) : Option ((BitVec 64)) :=
  lt (x0 / 8589934592#64) fun v2 =>
  lt (x0 ^^^ v2) fun v4 =>
  some v4
end Go.Proofs.YtkmlinaofbcbaaaDoor
namespace Go.Proofs.YtkmlinaofbcbaaaDoor
open Go Go.Va
set_option linter.unusedVariables false
set_option linter.unusedSimpArgs false
set_option maxRecDepth 20000
noncomputable def butteryref07_Mix (x0 : BitVec 64) : Option ((BitVec 64)) :=
  (butteryref07_fold x0).bind fun v2 =>
  lt (v2 * 18397679294719823053#64) fun v4 =>
  (butteryref07_fold v4).bind fun v6 =>
  lt (v6 * 14181476777654086739#64) fun v8 =>
  (butteryref07_fold v8).bind fun v10 =>
  some v10
end Go.Proofs.YtkmlinaofbcbaaaDoor
namespace Go.Proofs.YtkmlinaofbcbaaaDoor
open Go Go.Va
set_option linter.unusedVariables false
set_option linter.unusedSimpArgs false
set_option maxRecDepth 20000
noncomputable def butteryref07_Hash_b0 (x0 : List (BitVec 8)) (c1 : BitVec 64) (c2 : Int) : Option (((BitVec 64) × Int) ⊕ ((BitVec 64))) :=
  lt (((x0).length : Int)) fun v13 =>
  lt (decide (c2 < v13)) fun v15 =>
  if v15 = true then
    (ix x0 c2).bind fun v18 =>
    lt (BitVec.setWidth 64 v18) fun v20 =>
    lt (c1 ^^^ v20) fun v22 =>
    lt (v22 * 1099511628211#64) fun v24 =>
    lt (w64 (c2 + (1 : Int))) fun v26 =>
    some (.inl (v24, v26))
  else
    some (.inr c1)
noncomputable def butteryref07_Hash_l0 (x0 : List (BitVec 8)) (s : (BitVec 64) × Int) : Option ((BitVec 64)) := loopO (fun s => butteryref07_Hash_b0 x0 s.1 s.2) s
noncomputable def butteryref07_Hash (x0 : List (BitVec 8)) : Option ((BitVec 64)) :=
  (butteryref07_Hash_l0 x0 (14695981039346656037#64, (0 : Int))).bind fun s10 =>
    (butteryref07_Mix s10).bind fun v29 =>
    some v29
end Go.Proofs.YtkmlinaofbcbaaaDoor
namespace Go.Proofs.YtkmlinaofbcbaaaDoor
open Go Go.Va
set_option linter.unusedVariables false
set_option linter.unusedSimpArgs false
def fold (h : BitVec 64) : BitVec 64 := h ^^^ (h >>> 33)
def mix0 (h : BitVec 64) : BitVec 64 := fold (fold (fold h * 18397679294719823053#64) * 14181476777654086739#64)
/-- A name that nothing looks behind (a great product would be unfolded number by number). -/
theorem mix_ex : ∃ f : BitVec 64 → BitVec 64, ∀ h, f h = mix0 h := ⟨mix0, fun _ => rfl⟩
noncomputable def mix : BitVec 64 → BitVec 64 := Classical.choose mix_ex
theorem mix_def (h : BitVec 64) : mix h = mix0 h := Classical.choose_spec mix_ex h
theorem bloom_Mix_eq (h : BitVec 64) : bloom_Mix h = some (mix h) := by rw [mix_def]; simp only [bloom_Mix, lt_eq, mix0, fold]
theorem div33 (h : BitVec 64) : h / 8589934592#64 = h >>> 33 := by
  apply BitVec.eq_of_toNat_eq
  simp [Nat.shiftRight_eq_div_pow]
theorem fold_eq (h : BitVec 64) : butteryref07_fold h = some (fold h) := by simp only [butteryref07_fold, lt_eq, div33, fold]
theorem refMix_eq (h : BitVec 64) : butteryref07_Mix h = some (mix h) := by rw [mix_def]; simp only [butteryref07_Mix, lt_eq, fold_eq, Option.bind_some, mix0]
theorem fold_fold (h : BitVec 64) : fold (fold h) = h := by
  apply BitVec.eq_of_getLsbD_eq
  intro i hi
  simp only [fold, BitVec.getLsbD_xor, BitVec.getLsbD_ushiftRight]
  have : h.getLsbD (33 + (33 + i)) = false := BitVec.getLsbD_of_ge _ _ (by omega)
  rw [this]
  cases h.getLsbD i <;> cases h.getLsbD (33 + i) <;> rfl
theorem mul1 (h : BitVec 64) : h * 18397679294719823053#64 * 5725274745694666757#64 = h := by
  rw [BitVec.mul_assoc, show 18397679294719823053#64 * 5725274745694666757#64 = 1#64 by decide, BitVec.mul_one]
theorem mul2 (h : BitVec 64) : h * 14181476777654086739#64 * 11291846944257947611#64 = h := by
  rw [BitVec.mul_assoc, show 14181476777654086739#64 * 11291846944257947611#64 = 1#64 by decide, BitVec.mul_one]
def unmix (h : BitVec 64) : BitVec 64 := fold (fold (fold h * 11291846944257947611#64) * 5725274745694666757#64)
theorem unmix_mix (h : BitVec 64) : unmix (mix h) = h := by rw [mix_def]; simp only [unmix, mix0, fold_fold, mul1, mul2]
theorem mix_inj (a b : BitVec 64) : (mix a == mix b) = (a == b) := by
  rw [Bool.eq_iff_iff]
  simp only [beq_iff_eq]
  exact ⟨fun h => by rw [← unmix_mix a, h, unmix_mix], fun h => by rw [h]⟩

def stir (h : BitVec 64) (c : BitVec 8) : BitVec 64 := (h ^^^ c.setWidth 64) * 1099511628211#64
def hash0 (k : List (BitVec 8)) : BitVec 64 := mix0 (k.foldl stir 14695981039346656037#64)
theorem hash_ex : ∃ f : List (BitVec 8) → BitVec 64, ∀ h, f h = hash0 h := ⟨hash0, fun _ => rfl⟩
noncomputable def hash : List (BitVec 8) → BitVec 64 := Classical.choose hash_ex
theorem hash_def (h : List (BitVec 8)) : hash h = hash0 h := Classical.choose_spec hash_ex h
theorem bloom_Hash_eq (k : List (BitVec 8)) (hk : k.length ≤ 1000000) : bloom_Hash k = some (hash k) := by
  have h := loopO_foldl k stir id (body := fun s => bloom_Hash_b0 k k.length s.1 s.2) (fun s i hi => by
    simp only [bloom_Hash_b0, lt_eq, ix_nat hi, Option.bind_some, w64_nat (show i < 9223372036854775807 by omega)]
    rw [if_pos (by simpa using hi)]; rfl) (fun s => by simp [bloom_Hash_b0, lt_eq]) 14695981039346656037#64
  simp only [bloom_Hash, lt_eq, bloom_Hash_l0, h, Option.bind_some, bloom_Mix_eq, hash_def, hash0, mix_def, id]
theorem refHash_eq (k : List (BitVec 8)) (hk : k.length ≤ 1000000) : butteryref07_Hash k = some (hash k) := by
  have h := loopO_foldl k stir id (body := fun s => butteryref07_Hash_b0 k s.1 s.2) (fun s i hi => by
    simp only [butteryref07_Hash_b0, lt_eq, ix_nat hi, Option.bind_some, w64_nat (show i < 9223372036854775807 by omega)]
    rw [if_pos (by simpa using hi)]; rfl) (fun s => by simp [butteryref07_Hash_b0, lt_eq]) 14695981039346656037#64
  simp only [butteryref07_Hash, lt_eq, butteryref07_Hash_l0, h, Option.bind_some, refMix_eq, hash_def, hash0, mix_def, id]

/-! ### filters -/
def plc (h : BitVec 64) : List (BitVec 64) := [h &&& 127#64, (h >>> 21) &&& 127#64, (h >>> 42) &&& 127#64]
theorem toInt127 (h : BitVec 64) : (h &&& 127#64).toInt = ((h &&& 127#64).toNat : Int) := by
  have : (h &&& 127#64).toNat ≤ 127 := by rw [BitVec.toNat_and]; exact Nat.and_le_right
  rw [BitVec.toInt_eq_toNat_of_lt (by omega)]
def plN (h : BitVec 64) : List Nat := (plc h).map (·.toNat)
def plI (h : BitVec 64) : List Int := (plN h).map (fun n : Nat => (n : Int))
theorem plN_lt (h : BitVec 64) : ∀ n ∈ plN h, n < 128 := by
  have key : ∀ x : BitVec 64, (x &&& 127#64).toNat < 128 := fun x => by
    have : (x &&& 127#64).toNat ≤ 127 := by rw [BitVec.toNat_and]; exact Nat.and_le_right
    omega
  simp only [plN, plc, List.map_cons, List.map_nil, List.mem_cons, List.not_mem_nil, or_false]
  rintro n (rfl | rfl | rfl) <;> exact key _
theorem bits_eq (h : BitVec 64) : bloom_bits h = some (plI h) := by
  simp only [bloom_bits, lt_eq, toInt127]
  rw [stW_eq (by simp) (by simp), Option.bind_some, whole_eq (by simp)]; rfl
theorem shr6 {n : Nat} (h : n < 128) : shr64 (n : Int) 6 = ((n / 64 : Nat) : Int) := by
  unfold shr64
  rw [Int.fdiv_eq_ediv_of_nonneg _ (by decide)]
  show (n : Int) / 64 = _
  omega
theorem and63 {n : Nat} (h : n < 128) : and64 (n : Int) 63 = ((n % 64 : Nat) : Int) := by
  have : ∀ m : Fin 128, and64 (m.val : Int) 63 = ((m.val % 64 : Nat) : Int) := by decide
  exact this ⟨n, h⟩
/-- A filter with a place more; whether a place is set. -/
def putN (f : List (BitVec 64)) (n : Nat) : List (BitVec 64) := f.set (n / 64) (f.getD (n / 64) 0 ||| (1#64 <<< (n % 64)))
def hasN (f : List (BitVec 64)) (n : Nat) : Bool := !((f.getD (n / 64) 0 >>> (n % 64)) &&& 1#64 == 0#64)
def addF (f : List (BitVec 64)) (h : BitVec 64) : List (BitVec 64) := (plN h).foldl putN f
def mayF (f : List (BitVec 64)) (h : BitVec 64) : Bool := (plN h).all (hasN f)
noncomputable def ofF (l : List (List (BitVec 8))) : List (BitVec 64) := l.foldl (fun f k => addF f (hash k)) [0#64, 0#64]
def bothF (f g : List (BitVec 64)) : List (BitVec 64) := [f.getD 0 0 ||| g.getD 0 0, f.getD 1 0 ||| g.getD 1 0]
theorem putN_len (f : List (BitVec 64)) (n : Nat) : (putN f n).length = f.length := by simp [putN]
theorem addF_len {f : List (BitVec 64)} (hf : f.length = 2) (h : BitVec 64) : (addF f h).length = 2 :=
  map_len_foldl (fun f : List (BitVec 64) => f.length = 2) putN (fun s a hs => by rw [putN_len]; exact hs) _ _ hf
theorem ofF_len (l : List (List (BitVec 8))) : (ofF l).length = 2 := map_len_foldl (fun f : List (BitVec 64) => f.length = 2) _ (fun s a hs => addF_len hs _) _ _ rfl
theorem ixF {f : List (BitVec 64)} (hf : f.length = 2) {n : Nat} (h : n < 128) : ixA 2 f ((n / 64 : Nat) : Int) = some (f.getD (n / 64) 0) := by
  rw [ixA_nat (by omega) (by omega), List.getD_eq_getElem?_getD, List.getElem?_eq_getElem (by omega)]; rfl
theorem May_eq {f : List (BitVec 64)} (hf : f.length = 2) (h : BitVec 64) : bloom_Filter_May f h = some (mayF f h) := by
  have hl : (plI h).length = 3 := rfl
  have hb : ∀ i : Nat, i < 3 → bloom_Filter_May_b0 f (plI h) (i : Int) = some (nx (if hasN f ((plN h).getD i 0) then none else some (Sum.inr false : Unit ⊕ Bool)) ((i + 1 : Nat) : Int)) := fun i hi => by
    have hn : (plN h).getD i 0 < 128 := by
      rw [List.getD_eq_getElem?_getD, List.getElem?_eq_getElem (show i < (plN h).length from hi)]
      exact plN_lt h _ (List.getElem_mem _)
    have hx : ixA 3 (plI h) (i : Int) = some (((plN h).getD i 0 : Nat) : Int) := by
      rw [ixA_nat hi (by rw [hl]; exact hi)]
      simp only [plI, List.getElem_map, List.getD_eq_getElem?_getD, List.getElem?_eq_getElem (show i < (plN h).length from hi), Option.getD_some]
    simp only [bloom_Filter_May_b0, lt_eq]
    rw [if_pos (by simpa using (by omega : (i : Int) < 3)), hx, Option.bind_some, shr6 hn, ixF hf hn, Option.bind_some, and63 hn, sc_eq (by omega), Option.map_some, Option.bind_some, w64_nat (by omega)]
    simp only [hasN, Int.toNat_natCast]
    by_cases hc : (f.getD ((plN h).getD i 0 / 64) 0 >>> ((plN h).getD i 0 % 64) &&& 1#64 == 0#64) = true
    · simp only [hc, if_true, Bool.not_true, Bool.false_eq_true, if_false, nx]
    · simp only [hc, if_false, Bool.not_eq_true _ ▸ hc]; simp [nx]
  have := loopO_find (body := bloom_Filter_May_b0 f (plI h)) (fun i => (i : Int)) 3 _ hb (x := .inl ()) (by simp [bloom_Filter_May_b0, lt_eq])
  simp only [bloom_Filter_May, bits_eq, Option.bind_some, bloom_Filter_May_l0]
  have e0 : (0 : Int) = ((0 : Nat) : Int) := rfl
  rw [e0, this]
  simp only [Option.bind_some, mayF]
  rw [show plN h = [(plN h).getD 0 0, (plN h).getD 1 0, (plN h).getD 2 0] from rfl]
  simp only [show List.range 3 = [0, 1, 2] from rfl, List.findSome?_cons, List.findSome?_nil, List.all_cons, List.all_nil, List.getD_cons_zero, List.getD_cons_succ]
  cases hasN f ((plN h).getD 0 0) <;> cases hasN f ((plN h).getD 1 0) <;> cases hasN f ((plN h).getD 2 0) <;> rfl
theorem Add_eq {f : List (BitVec 64)} (hf : f.length = 2) (h : BitVec 64) : bloom_Filter_Add f h = some (addF f h) := by
  have hl : (plI h).length = 3 := rfl
  have hb : ∀ i : Nat, i < 3 → ∀ s : List (BitVec 64), s.length = 2 → bloom_Filter_Add_b0 (plI h) (i : Int) s = some (.inl (((i + 1 : Nat) : Int), putN s ((plN h).getD i 0))) := fun i hi s hs => by
    have hn : (plN h).getD i 0 < 128 := by
      rw [List.getD_eq_getElem?_getD, List.getElem?_eq_getElem (show i < (plN h).length from hi)]
      exact plN_lt h _ (List.getElem_mem _)
    have hx : ixA 3 (plI h) (i : Int) = some (((plN h).getD i 0 : Nat) : Int) := by
      rw [ixA_nat hi (by rw [hl]; exact hi)]
      simp only [plI, List.getElem_map, List.getD_eq_getElem?_getD, List.getElem?_eq_getElem (show i < (plN h).length from hi), Option.getD_some]
    have hc : chk 2 (((plN h).getD i 0 / 64 : Nat) : Int) = some () := by unfold chk; rw [if_pos (by omega)]
    simp only [bloom_Filter_Add_b0, lt_eq]
    rw [if_pos (by simpa using (by omega : (i : Int) < 3)), hx, Option.bind_some, shr6 hn, hc, Option.bind_some, ixF hs hn, Option.bind_some, and63 hn, sc_eq (by omega), Option.map_some, Option.bind_some, w64_nat (by omega)]
    simp only [hc, Option.bind_some, updA, ixF hs hn, Option.map_some, Int.toNat_natCast, putN]
  have := loopO_up (body := fun s => bloom_Filter_Add_b0 (plI h) s.1 s.2) (fun i => ((i : Int), ((plN h).take i).foldl putN f)) 3 (x := addF f h) (fun i hi => by
    have hlen : (((plN h).take i).foldl putN f).length = 2 := map_len_foldl (fun f : List (BitVec 64) => f.length = 2) putN (fun s a hs => by rw [putN_len]; exact hs) _ _ hf
    simp only [hb i hi _ hlen]
    have hi' : i < (plN h).length := hi
    rw [List.take_succ_eq_append_getElem hi', List.foldl_append]
    simp [List.getD_eq_getElem?_getD, List.getElem?_eq_getElem hi']) (by
    simp only [bloom_Filter_Add_b0, lt_eq]
    rw [if_neg (by simp)]
    rfl)
  simp only [bloom_Filter_Add, bits_eq, Option.bind_some, bloom_Filter_Add_l0]
  have e0 : ((0 : Int), f) = ((((0 : Nat) : Int)), ((plN h).take 0).foldl putN f) := rfl
  rw [e0, this, Option.bind_some, whole_eq (addF_len hf h), Option.bind_some, stW_eq (by simp) (addF_len hf h), Option.bind_some, whole_eq (addF_len hf h), Option.bind_some]
theorem Of_eq (l : List (List (BitVec 8))) (hl : l.length ≤ 1000000) (hk : ∀ k ∈ l, k.length ≤ 1000000) : bloom_Of l = some (ofF l) := by
  have := loopO_up (body := fun s => bloom_Of_b0 l l.length s.1 s.2) (fun i => ((i : Int), (l.take i).foldl (fun f k => addF f (hash k)) [0#64, 0#64])) l.length (x := ofF l) (fun i hi => by
    have hlen := ofF_len (l.take i)
    simp only [ofF] at hlen
    simp only [bloom_Of_b0, lt_eq]
    rw [if_pos (by simpa using hi), ix_nat hi, Option.bind_some, whole_eq hlen, Option.bind_some, bloom_Hash_eq _ (hk _ (List.getElem_mem hi)), Option.bind_some, Add_eq hlen, Option.bind_some, stW_eq hlen (addF_len hlen _), Option.bind_some, w64_nat (by omega), List.take_succ_eq_append_getElem hi, List.foldl_append]
    rfl) (by
    simp only [bloom_Of_b0, lt_eq]
    rw [if_neg (by simp), List.take_length]; rfl)
  simp only [bloom_Of, lt_eq, bloom_Of_l0]
  have e0 : ((0 : Int), List.replicate 2 0#64) = ((((0 : Nat) : Int)), (l.take 0).foldl (fun f k => addF f (hash k)) [0#64, 0#64]) := rfl
  rw [e0, this, Option.bind_some, whole_eq (ofF_len l), Option.bind_some, stW_eq (by simp) (ofF_len l), Option.bind_some, whole_eq (ofF_len l), Option.bind_some]
end Go.Proofs.YtkmlinaofbcbaaaDoor
namespace Go.Proofs.YtkmlinaofbcbaaaDoor
open Go Go.Va
set_option linter.unusedVariables false
set_option linter.unusedSimpArgs false
set_option maxRecDepth 20000
noncomputable def butteryref07_Places (x0 : BitVec 64) : Option ((List Int)) :=
  lt (x0 % 128#64) fun v2 =>
  lt (BitVec.toInt v2) fun v4 =>
  lt (x0 / 2097152#64) fun v6 =>
  lt (v6 % 128#64) fun v8 =>
  lt (BitVec.toInt v8) fun v10 =>
  lt (x0 / 4398046511104#64) fun v12 =>
  lt (v12 % 128#64) fun v14 =>
  lt (BitVec.toInt v14) fun v16 =>
  lt (([v4, v10, v16] : List Int)) fun v18 =>
  some v18
end Go.Proofs.YtkmlinaofbcbaaaDoor
namespace Go.Proofs.YtkmlinaofbcbaaaDoor
open Go Go.Va
set_option linter.unusedVariables false
set_option linter.unusedSimpArgs false
set_option maxRecDepth 20000
noncomputable def butteryref07_Set_b2 (x0 : List (BitVec 64)) (c2 : Int) (v21 : List Int) (c22 : List Int) (c23 : Int) (c36 : Bool) (c37 : Int) : Option ((Bool × Int) ⊕ (Bool)) :=
  lt (((c22).length : Int)) fun v48 =>
  lt (decide (c37 < v48)) fun v50 =>
  if v50 = true then
    if c36 = true then
      lt (w64 (c37 + (1 : Int))) fun v54 =>
      some (.inl (true, v54))
    else
      (ix c22 c37).bind fun v56 =>
      (ix v21 c23).bind fun v58 =>
      lt (v56 == v58) fun v60 =>
      lt (w64 (c37 + (1 : Int))) fun v62 =>
      some (.inl (v60, v62))
  else
    some (.inr c36)
noncomputable def butteryref07_Set_l2 (x0 : List (BitVec 64)) (c2 : Int) (v21 : List Int) (c22 : List Int) (c23 : Int) (s : Bool × Int) : Option (Bool) := loopO (fun s => butteryref07_Set_b2 x0 c2 v21 c22 c23 s.1 s.2) s
noncomputable def butteryref07_Set_b1 (x0 : List (BitVec 64)) (c2 : Int) (v21 : List Int) (c22 : List Int) (c23 : Int) : Option (((List Int) × Int) ⊕ ((List Int))) :=
  lt (decide (c23 < (3 : Int))) fun v34 =>
  if v34 = true then
    (butteryref07_Set_l2 x0 c2 v21 c22 c23 (false, (0 : Int))).bind fun s45 =>
      lt (!s45) fun v65 =>
      if v65 = true then
        (ix v21 c23).bind fun v68 =>
        lt (([v68] : List Int)) fun v70 =>
        (app 8 c22 v70).bind fun v72 =>
        lt (w64 (c23 + (1 : Int))) fun v76 =>
        some (.inl (v72, v76))
      else
        lt (w64 (c23 + (1 : Int))) fun v78 =>
        some (.inl (c22, v78))
  else
    some (.inr c22)
noncomputable def butteryref07_Set_l1 (x0 : List (BitVec 64)) (c2 : Int) (v21 : List Int) (s : (List Int) × Int) : Option ((List Int)) := loopO (fun s => butteryref07_Set_b1 x0 c2 v21 s.1 s.2) s
noncomputable def butteryref07_Set_b0 (x0 : List (BitVec 64)) (c1 : List Int) (c2 : Int) : Option (((List Int) × Int) ⊕ ((List Int))) :=
  lt (((x0).length : Int)) fun v14 =>
  lt (decide (c2 < v14)) fun v16 =>
  if v16 = true then
    (ix x0 c2).bind fun v19 =>
    (butteryref07_Places v19).bind fun v21 =>
    (butteryref07_Set_l1 x0 c2 v21 (c1, (0 : Int))).bind fun s31 =>
      lt (w64 (c2 + (1 : Int))) fun v81 =>
      some (.inl (s31, v81))
  else
    some (.inr c1)
noncomputable def butteryref07_Set_l0 (x0 : List (BitVec 64)) (s : (List Int) × Int) : Option ((List Int)) := loopO (fun s => butteryref07_Set_b0 x0 s.1 s.2) s
noncomputable def butteryref07_Set (x0 : List (BitVec 64)) : Option ((List Int)) :=
  (butteryref07_Set_l0 x0 ([], (0 : Int))).bind fun s11 =>
    some s11
end Go.Proofs.YtkmlinaofbcbaaaDoor
namespace Go.Proofs.YtkmlinaofbcbaaaDoor
open Go Go.Va
set_option linter.unusedVariables false
set_option linter.unusedSimpArgs false
set_option maxRecDepth 20000
noncomputable def butteryref07_May_b1 (v2 : List Int) (v4 : List Int) (c5 : Int) (c18 : Bool) (c19 : Int) : Option ((Bool × Int) ⊕ (Bool)) :=
  lt (((v2).length : Int)) fun v30 =>
  lt (decide (c19 < v30)) fun v32 =>
  if v32 = true then
    if c18 = true then
      lt (w64 (c19 + (1 : Int))) fun v36 =>
      some (.inl (true, v36))
    else
      (ix v2 c19).bind fun v38 =>
      (ix v4 c5).bind fun v40 =>
      lt (v38 == v40) fun v42 =>
      lt (w64 (c19 + (1 : Int))) fun v44 =>
      some (.inl (v42, v44))
  else
    some (.inr c18)
noncomputable def butteryref07_May_l1 (v2 : List Int) (v4 : List Int) (c5 : Int) (s : Bool × Int) : Option (Bool) := loopO (fun s => butteryref07_May_b1 v2 v4 c5 s.1 s.2) s
noncomputable def butteryref07_May_b0 (v2 : List Int) (v4 : List Int) (c5 : Int) : Option ((Int) ⊕ (Unit ⊕ (Bool))) :=
  lt (decide (c5 < (3 : Int))) fun v16 =>
  if v16 = true then
    (butteryref07_May_l1 v2 v4 c5 (false, (0 : Int))).bind fun s27 =>
      lt (!s27) fun v47 =>
      if v47 = true then
        some (.inr (.inr false))
      else
        lt (w64 (c5 + (1 : Int))) fun v51 =>
        some (.inl v51)
  else
    some (.inr (.inl ()))
noncomputable def butteryref07_May_l0 (v2 : List Int) (v4 : List Int) (s : Int) : Option (Unit ⊕ (Bool)) := loopO (fun s => butteryref07_May_b0 v2 v4 s) s
noncomputable def butteryref07_May (x0 : List (BitVec 64)) (x1 : BitVec 64) : Option (Bool) :=
  (butteryref07_Set x0).bind fun v2 =>
  (butteryref07_Places x1).bind fun v4 =>
  (butteryref07_May_l0 v2 v4 (0 : Int)).bind fun o6 =>
    Sum.elim (fun s13 : Unit =>
      some true
      ) (fun y => some y) o6
end Go.Proofs.YtkmlinaofbcbaaaDoor
namespace Go.Proofs.YtkmlinaofbcbaaaDoor
open Go Go.Va
set_option linter.unusedVariables false
set_option linter.unusedSimpArgs false
set_option maxRecDepth 20000
noncomputable def butteryref07_Keys_b0 (x0 : List (List (BitVec 8))) (c1 : List (BitVec 64)) (c2 : Int) : Option (((List (BitVec 64)) × Int) ⊕ ((List (BitVec 64)))) :=
  lt (((x0).length : Int)) fun v14 =>
  lt (decide (c2 < v14)) fun v16 =>
  if v16 = true then
    (ix x0 c2).bind fun v19 =>
    (butteryref07_Hash v19).bind fun v21 =>
    lt (([v21] : List (BitVec 64))) fun v23 =>
    (app 8 c1 v23).bind fun v25 =>
    lt (w64 (c2 + (1 : Int))) fun v29 =>
    some (.inl (v25, v29))
  else
    some (.inr c1)
noncomputable def butteryref07_Keys_l0 (x0 : List (List (BitVec 8))) (s : (List (BitVec 64)) × Int) : Option ((List (BitVec 64))) := loopO (fun s => butteryref07_Keys_b0 x0 s.1 s.2) s
noncomputable def butteryref07_Keys (x0 : List (List (BitVec 8))) : Option ((List (BitVec 64))) :=
  (butteryref07_Keys_l0 x0 ([], (0 : Int))).bind fun s11 =>
    some s11
end Go.Proofs.YtkmlinaofbcbaaaDoor
