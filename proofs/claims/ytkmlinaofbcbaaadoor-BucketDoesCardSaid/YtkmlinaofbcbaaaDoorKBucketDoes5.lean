/- What any entries with keys of their own are behind an insertion, and a removal, and which of them may have a key, is what the chapter says; what was handed in stays. (part 5 of 7) -/
import Derived.Test.YtkmlinaofbcbaaaDoorKBucketDoes4
namespace Go.Proofs.YtkmlinaofbcbaaaDoor
open Go Go.Va
set_option linter.unusedVariables false
set_option linter.unusedSimpArgs false
set_option maxRecDepth 20000
theorem butterylaw12_works_ok  {r : Bool} (H : butterylaw12_works = some r) (σ : St)  (hg : σ.gl = gls) : ACall Tryd.prog 39 [] σ (fun a τ => a = eB r ∧ τ = σ) := by
  unfold butterylaw12_works at H
  refine ACall.pure (acall_start tk Tryd.func39 (by decide) rfl (Nat.le_of_ble_eq_true rfl) ?_)
  have hH := Holds.init σ
  refine awp_seq ?_
  refine awp_region rfl ?_
  refine wpo_mv (a := (eB false)) rfl rfl rfl (o_as tk rfl (Wk.refl _)) ?_
  refine wpo_nil ?_
  refine awp_seq ?_
  refine awp_region rfl ?_
  obtain ⟨v2, hv3, H1⟩ := Option.bind_eq_some_iff.1 H
  refine wpo_a (av := fun t => eT t 1 (@eU .u8 8) v2) rfl rfl rfl (h_make tk hH hv3 td22 ty5 rfl rfl rfl rfl) fun tk4 τ hH => ?_
  refine wpo_lt H1 e_api_Entry rfl rfl rfl (OpP.wk (wkf_up (t := 14) (a := ((eL 1 (@eU .u8 8)) v2)) wk_no) (o_c tk false rfl (fun _ => rfl))) fun v6 H5 => ?_
  refine wpo_a (av := fun id => .ref id 0) rfl rfl rfl (h_alloc tk hH ty24 [(eS z_api_Entry.Key), (eI z_api_Entry.Version), (eI z_api_Entry.AsOf), (eI z_api_Entry.Ends), AV.nils] rfl) fun id7 τ ⟨hH, n8⟩ => ?_
  refine wpo_z rfl rfl (h_st tk hH 0 rfl ty24 (by simp) rfl rfl (.of_eq rfl) (b := (e_api_Entry v6)) (enc24.flat _) rfl (Nat.le_of_ble_eq_true rfl) (c_api_Entry (v6 : api_Entry)) rfl) fun τ hH => ?_
  refine wpo_nil ?_
  refine awp_seq ?_
  refine awp_region rfl ?_
  obtain ⟨v11, hv12, H10⟩ := Option.bind_eq_some_iff.1 H5
  refine wpo_a (av := fun t => eT t 1 (@eU .u8 8) v11) rfl rfl rfl (h_make tk hH hv12 td22 ty5 rfl rfl rfl rfl) fun tk13 τ hH => ?_
  refine wpo_lt H10 e_api_Entry rfl rfl rfl (OpP.wk (wkf_up (t := 16) (a := ((eL 1 (@eU .u8 8)) v11)) wk_no) (o_c tk false rfl (fun _ => rfl))) fun v15 H14 => ?_
  refine wpo_a (av := fun id => .ref id 0) rfl rfl rfl (h_alloc tk hH ty24 [(eS z_api_Entry.Key), (eI z_api_Entry.Version), (eI z_api_Entry.AsOf), (eI z_api_Entry.Ends), AV.nils] rfl) fun id16 τ ⟨hH, n17⟩ => ?_
  refine wpo_z rfl rfl (h_st tk hH 0 rfl ty24 (by simp) rfl rfl (.of_eq rfl) (b := (e_api_Entry v15)) (enc24.flat _) rfl (Nat.le_of_ble_eq_true rfl) (c_api_Entry (v15 : api_Entry)) rfl) fun τ hH => ?_
  refine wpo_nil ?_
  refine awp_seq ?_
  refine awp_region rfl ?_
  obtain ⟨v20, hv21, H19⟩ := Option.bind_eq_some_iff.1 H14
  refine wpo_a (av := fun t => eT t 1 (@eU .u8 8) v20) rfl rfl rfl (h_make tk hH hv21 td22 ty5 rfl rfl rfl rfl) fun tk22 τ hH => ?_
  refine wpo_lt H19 e_api_Entry rfl rfl rfl (OpP.wk (wkf_up (t := 18) (a := ((eL 1 (@eU .u8 8)) v20)) wk_no) (o_c tk false rfl (fun _ => rfl))) fun v24 H23 => ?_
  refine wpo_a (av := fun id => .ref id 0) rfl rfl rfl (h_alloc tk hH ty24 [(eS z_api_Entry.Key), (eI z_api_Entry.Version), (eI z_api_Entry.AsOf), (eI z_api_Entry.Ends), AV.nils] rfl) fun id25 τ ⟨hH, n26⟩ => ?_
  refine wpo_z rfl rfl (h_st tk hH 0 rfl ty24 (by simp) rfl rfl (.of_eq rfl) (b := (e_api_Entry v24)) (enc24.flat _) rfl (Nat.le_of_ble_eq_true rfl) (c_api_Entry (v24 : api_Entry)) rfl) fun τ hH => ?_
  refine wpo_nil ?_
  refine awp_seq ?_
  refine awp_region rfl ?_
  refine wpo_rd (a := (e_api_Entry (v6 : api_Entry))) rfl rfl rfl (h_ld tk hH 2 rfl rfl rfl) ?_
  refine wpo_rd (a := (e_api_Entry (v15 : api_Entry))) rfl rfl rfl (h_ld tk hH 1 rfl rfl rfl) ?_
  refine wpo_lt H23 (eF 5 e_api_Entry) rfl rfl rfl (o_c tk false rfl (fun _ => rfl)) fun v29 H28 => ?_
  refine wpo_rd (a := (e_api_Entry (v24 : api_Entry))) rfl rfl rfl (h_ld tk hH 0 rfl rfl rfl) ?_
  refine wpo_bd H28 (fun r => .tup [(eL 5 e_api_Entry) r.1, (eL 5 e_api_Entry) r.2.1, eErr r.2.2]) rfl rfl rfl (fun v31 hv => OpP.of_call rfl rfl (.cons wk_no (.cons (.of_eq rfl) .nil)) (bucket_Insert_ok hv)) fun v31 hv31 H30 => ?_
  refine wpo_mv (a := (.tup [((eL 5 e_api_Entry) v31.1), ((eL 5 e_api_Entry) v31.2.1), (eErr v31.2.2)])) rfl rfl rfl (o_mv tk rfl (Wk.refl _)) ?_
  refine wpo_mv (a := ((eL 5 e_api_Entry) v31.1)) rfl rfl rfl (o_ext tk rfl rfl) ?_
  refine wpo_mv (a := ((eL 5 e_api_Entry) v31.2.1)) rfl rfl rfl (o_ext tk rfl rfl) ?_
  refine wpo_mv (a := (eErr v31.2.2)) rfl rfl rfl (o_ext tk rfl rfl) ?_
  refine wpo_mv (a := ((eL 5 e_api_Entry) v31.1)) rfl rfl rfl (o_as tk rfl (Wk.refl _)) ?_
  refine wpo_mv (a := ((eL 5 e_api_Entry) v31.2.1)) rfl rfl rfl (o_as tk rfl (Wk.refl _)) ?_
  refine wpo_mv (a := (eErr v31.2.2)) rfl rfl rfl (o_as tk rfl (Wk.refl _)) ?_
  refine wpo_nil ?_
  refine awp_seq ?_
  refine awp_region rfl ?_
  obtain ⟨v33, hv34, H32⟩ := Option.bind_eq_some_iff.1 H30
  refine wpo_a (av := fun t => eT t 1 (@eU .u8 8) v33) rfl rfl rfl (h_make tk hH hv34 td22 ty5 rfl rfl rfl rfl) fun tk35 τ hH => ?_
  refine wpo_lt H32 e_api_Entry rfl rfl rfl (OpP.wk (wkf_up (t := 30) (a := ((eL 1 (@eU .u8 8)) v33)) wk_no) (o_c tk false rfl (fun _ => rfl))) fun v37 H36 => ?_
  refine wpo_bd H36 (fun r => .tup [(eL 5 e_api_Entry) r.1, (eL 5 e_api_Entry) r.2.1, eErr r.2.2]) rfl rfl rfl (fun v39 hv => OpP.of_call rfl rfl (.cons (wk_nils _) (.cons (.of_eq rfl) .nil)) (bucket_Insert_ok hv)) fun v39 hv39 H38 => ?_
  refine wpo_mv (a := (.tup [((eL 5 e_api_Entry) v39.1), ((eL 5 e_api_Entry) v39.2.1), (eErr v39.2.2)])) rfl rfl rfl (o_mv tk rfl (Wk.refl _)) ?_
  refine wpo_mv (a := ((eL 5 e_api_Entry) v39.1)) rfl rfl rfl (o_ext tk rfl rfl) ?_
  refine wpo_mv (a := ((eL 5 e_api_Entry) v39.2.1)) rfl rfl rfl (o_ext tk rfl rfl) ?_
  refine wpo_mv (a := (eErr v39.2.2)) rfl rfl rfl (o_ext tk rfl rfl) ?_
  refine wpo_mv (a := ((eL 5 e_api_Entry) v39.1)) rfl rfl rfl (o_as tk rfl (Wk.refl _)) ?_
  refine wpo_mv (a := ((eL 5 e_api_Entry) v39.2.1)) rfl rfl rfl (o_as tk rfl (Wk.refl _)) ?_
  refine wpo_mv (a := (eErr v39.2.2)) rfl rfl rfl (o_as tk rfl (Wk.refl _)) ?_
  refine wpo_nil ?_
  refine awp_seq ?_
  refine awp_region rfl ?_
  refine wpo_rd (a := (e_api_Entry (v6 : api_Entry))) rfl rfl rfl (h_ld tk hH 2 rfl rfl rfl) ?_
  refine wpo_rd (a := (e_api_Entry (v6 : api_Entry))) rfl rfl rfl (h_ld tk hH 2 rfl rfl rfl) ?_
  refine wpo_lt H38 (eF 5 e_api_Entry) rfl rfl rfl (o_c tk false rfl (fun _ => rfl)) fun v41 H40 => ?_
  refine wpo_bd H40 (eL 1 (@eU .u8 8)) rfl rfl rfl (fun v43 hv => OpP.of_call rfl rfl (.cons wk_no .nil) (item_All_ok hv)) fun v43 hv43 H42 => ?_
  refine wpo_bdr H42 (fun r => .tup [(eL 5 e_api_Entry) r.1, eErr r.2]) rfl rfl rfl (fun v45 hv => h_callr rfl rfl (.cons (.of_eq rfl) .nil) (bucket_Read_ok hv _ (hH.gl.trans hg))) fun v45 hv45 H44 => ?_
  refine wpo_mv (a := (.tup [((eL 5 e_api_Entry) v45.1), (eErr v45.2)])) rfl rfl rfl (o_mv tk rfl (Wk.refl _)) ?_
  refine wpo_mv (a := ((eL 5 e_api_Entry) v45.1)) rfl rfl rfl (o_ext tk rfl rfl) ?_
  refine wpo_mv (a := (eErr v45.2)) rfl rfl rfl (o_ext tk rfl rfl) ?_
  refine wpo_mv (a := ((eL 5 e_api_Entry) v45.1)) rfl rfl rfl (o_as tk rfl (Wk.refl _)) ?_
  refine wpo_mv (a := (eErr v45.2)) rfl rfl rfl (o_as tk rfl (Wk.refl _)) ?_
  refine wpo_nil ?_
  refine awp_seq ?_
  refine awp_seq ?_
  obtain ⟨s46, hs48, hj49⟩ := Option.bind_eq_some_iff.1 H44
  refine awp_cutn (fun fr τ => WkF fr (fm [(1, (.ref id7 0)), (4, ((eL 5 e_api_Entry) v31.1)), (5, ((eL 5 e_api_Entry) v31.2.1)), (6, (eErr v31.2.2)), (9, (eErr v39.2.2)), (11, (eErr v45.2)), (51, (eB s46))]) ∧ Holds σ [(id25, (c_api_Entry (v24 : api_Entry))), (id16, (c_api_Entry (v15 : api_Entry))), (id7, (c_api_Entry (v6 : api_Entry)))] [] τ) ?_ ?_
  · rintro fr τ ⟨hfr, hH⟩
    have H59 := hj49
    refine AWP.fm [(1, (.ref id7 0)), (4, ((eL 5 e_api_Entry) v31.1)), (5, ((eL 5 e_api_Entry) v31.2.1)), (6, (eErr v31.2.2)), (9, (eErr v39.2.2)), (11, (eErr v45.2)), (51, (eB s46))] hfr ?_
    refine awp_if H59 rfl (fun H60 => ?_) (fun H60 => ?_)
    · refine awp_seq ?_
      refine awp_region rfl ?_
      refine wpo_mv (a := (eB false)) rfl rfl rfl (o_as tk rfl (Wk.refl _)) ?_
      refine wpo_nil ?_
      refine awp_ret ?_
      obtain rfl := Option.some.inj H60
      exact ⟨_, (eB false), rfl, (.of_eq rfl), .of_eq ((enc_b td4 sz4).cut _ _ _), (((hH.noT.drop n26).drop n17).drop n8)⟩
    · refine awp_skip ?_
      refine awp_seq ?_
      refine awp_region rfl ?_
      refine wpo_mv (a := ((eL 5 e_api_Entry) v31.1)) rfl rfl rfl (o_mv tk rfl (Wk.refl _)) ?_
      refine wpo_bd H60 (fun r => .tup [(eL 5 e_api_Entry) r.1, eB r.2]) rfl rfl rfl (fun v62 hv => OpP.of_call rfl rfl (.cons (.of_eq rfl) (.cons (.of_eq rfl) .nil)) (bucket_Remove_ok hv)) fun v62 hv62 H61 => ?_
      refine wpo_mv (a := (.tup [((eL 5 e_api_Entry) v62.1), (eB v62.2)])) rfl rfl rfl (o_mv tk rfl (Wk.refl _)) ?_
      refine wpo_mv (a := ((eL 5 e_api_Entry) v62.1)) rfl rfl rfl (o_ext tk rfl rfl) ?_
      refine wpo_mv (a := (eB v62.2)) rfl rfl rfl (o_ext tk rfl rfl) ?_
      refine wpo_mv (a := ((eL 5 e_api_Entry) v62.1)) rfl rfl rfl (o_as tk rfl (Wk.refl _)) ?_
      refine wpo_mv (a := (eB v62.2)) rfl rfl rfl (o_as tk rfl (Wk.refl _)) ?_
      refine wpo_nil ?_
      refine awp_seq ?_
      refine awp_region rfl ?_
      refine wpo_mv (a := (eErr v31.2.2)) rfl rfl rfl (o_mv tk rfl (Wk.refl _)) ?_
      refine wpo_lt H61 eB rfl rfl rfl (o_err_eql tk rfl rfl rfl) fun v64 H63 => ?_
      refine wpo_mv (a := (eB v64)) rfl rfl rfl (o_mv tk rfl (Wk.refl _)) ?_
      refine if_split H63 (fun hb H65 => ?_) (fun hb H65 => ?_)
      · subst hb
        refine wpo_mv (a := ((eL 5 e_api_Entry) v31.2.1)) rfl rfl rfl (o_mv tk rfl (Wk.refl _)) ?_
        refine wpo_bd H65 (fun y => .fptr (e_api_Entry y).cells 0) rfl rfl rfl (fun v67 hv => o_ixa tk hv td60 enc24 rfl rfl) fun v67 hv67 H66 => ?_
        refine wpo_mv (a := (.fptr (c_api_Entry v67) 0)) rfl rfl rfl (o_c tk false rfl (fun _ => rfl)) ?_
        refine wpo_mv (a := (eS v67.Key)) rfl rfl rfl (o_ld tk rfl rfl) ?_
        refine wpo_lt H66 eB rfl rfl rfl (o_eql_s tk rfl rfl) fun v69 H68 => ?_
        refine wpo_mv (a := (eB v69)) rfl rfl rfl (o_pick_t tk rfl rfl (Wk.refl _)) ?_
        refine wpo_mv (a := (eB v69)) rfl rfl rfl (o_mv tk rfl (Wk.refl _)) ?_
        refine if_split H68 (fun hb H70 => ?_) (fun hb H70 => ?_)
        · subst hb
          refine wpo_mv (a := ((eL 5 e_api_Entry) v31.1)) rfl rfl rfl (o_mv tk rfl (Wk.refl _)) ?_
          refine wpo_bd H70 (fun y => .fptr (e_api_Entry y).cells 0) rfl rfl rfl (fun v72 hv => o_ixa tk hv td60 enc24 rfl rfl) fun v72 hv72 H71 => ?_
          refine wpo_mv (a := (.fptr (c_api_Entry v72) 0)) rfl rfl rfl (o_c tk false rfl (fun _ => rfl)) ?_
          refine wpo_mv (a := (eS v72.Key)) rfl rfl rfl (o_ld tk rfl rfl) ?_
          refine wpo_lt H71 eB rfl rfl rfl (o_eql_s tk rfl rfl) fun v74 H73 => ?_
          refine wpo_mv (a := (eB v74)) rfl rfl rfl (o_pick_t tk rfl rfl (Wk.refl _)) ?_
          refine wpo_mv (a := (eB v74)) rfl rfl rfl (o_mv tk rfl (Wk.refl _)) ?_
          refine if_split H73 (fun hb H75 => ?_) (fun hb H75 => ?_)
          · subst hb
            refine wpo_mv (a := (eErr v39.2.2)) rfl rfl rfl (o_mv tk rfl (Wk.refl _)) ?_
            refine wpo_bdr H75 eI rfl rfl rfl (fun v77 hv => h_callr rfl rfl (.cons (.of_eq rfl) .nil) (trouble_Of_ok hv _ (hH.gl.trans hg))) fun v77 hv77 H76 => ?_
            refine wpo_lt H76 eB rfl rfl rfl (o_ar tk rfl rfl rfl) fun v79 H78 => ?_
            refine wpo_mv (a := (eB v79)) rfl rfl rfl (o_pick_t tk rfl rfl (Wk.refl _)) ?_
            refine wpo_mv (a := (eB v79)) rfl rfl rfl (o_mv tk rfl (Wk.refl _)) ?_
            refine if_split H78 (fun hb H80 => ?_) (fun hb H80 => ?_)
            · subst hb
              refine wpo_mv (a := (eErr v45.2)) rfl rfl rfl (o_mv tk rfl (Wk.refl _)) ?_
              refine wpo_bdr H80 eI rfl rfl rfl (fun v82 hv => h_callr rfl rfl (.cons (.of_eq rfl) .nil) (trouble_Of_ok hv _ (hH.gl.trans hg))) fun v82 hv82 H81 => ?_
              refine wpo_lt H81 eB rfl rfl rfl (o_ar tk rfl rfl rfl) fun v84 H83 => ?_
              refine wpo_mv (a := (eB v84)) rfl rfl rfl (o_pick_t tk rfl rfl (Wk.refl _)) ?_
              refine wpo_mv (a := (eB v84)) rfl rfl rfl (o_mv tk rfl (Wk.refl _)) ?_
              refine if_split H83 (fun hb H85 => ?_) (fun hb H85 => ?_)
              · subst hb
                refine wpo_mv (a := ((eL 5 e_api_Entry) v62.1)) rfl rfl rfl (o_mv tk rfl (Wk.refl _)) ?_
                refine wpo_lt H85 eI rfl rfl rfl (o_len tk td60 rfl) fun v87 H86 => ?_
                refine wpo_lt H86 eB rfl rfl rfl (o_ar tk rfl rfl rfl) fun v89 H88 => ?_
                refine wpo_mv (a := (eB v89)) rfl rfl rfl (o_pick_t tk rfl rfl (Wk.refl _)) ?_
                refine wpo_mv (a := (eB v89)) rfl rfl rfl (o_mv tk rfl (Wk.refl _)) ?_
                refine if_split H88 (fun hb H90 => ?_) (fun hb H90 => ?_)
                · subst hb
                  refine wpo_mv (a := (eB v62.2)) rfl rfl rfl (o_mv tk rfl (Wk.refl _)) ?_
                  refine wpo_mv (a := (eB v62.2)) rfl rfl rfl (o_pick_t tk rfl rfl (Wk.refl _)) ?_
                  refine wpo_mv (a := (eB v62.2)) rfl rfl rfl (o_mv tk rfl (Wk.refl _)) ?_
                  refine if_split H90 (fun hb H91 => ?_) (fun hb H91 => ?_)
                  · rw [hb]
                    refine wpo_mv (a := ((eL 5 e_api_Entry) v31.1)) rfl rfl rfl (o_mv tk rfl (Wk.refl _)) ?_
                    refine wpo_bd H91 eI rfl rfl rfl (fun v93 hv => OpP.of_call rfl rfl (.cons (.of_eq rfl) (.cons (.of_eq rfl) .nil)) (bucket_Find_ok hv)) fun v93 hv93 H92 => ?_
                    refine wpo_lt H92 eB rfl rfl rfl (o_ar tk rfl rfl rfl) fun v95 H94 => ?_
                    refine wpo_mv (a := (eB v95)) rfl rfl rfl (o_pick_t tk rfl rfl (Wk.refl _)) ?_
                    refine wpo_mv (a := (eB v95)) rfl rfl rfl (o_mv tk rfl (Wk.refl _)) ?_
                    refine if_split H94 (fun hb H96 => ?_) (fun hb H96 => ?_)
                    · subst hb
                      refine wpo_rd (a := (e_api_Entry (v6 : api_Entry))) rfl rfl rfl (h_ld tk hH 2 rfl rfl rfl) ?_
                      refine wpo_lt H96 (eF 5 e_api_Entry) rfl rfl rfl (o_c tk false rfl (fun _ => rfl)) fun v98 H97 => ?_
                      refine wpo_bd H97 eI rfl rfl rfl (fun v100 hv => OpP.of_call rfl rfl (.cons wk_no .nil) (bucket_Size_ok hv)) fun v100 hv100 H99 => ?_
                      refine wpo_lt H99 eB rfl rfl rfl (o_ar tk rfl rfl rfl) fun v102 H101 => ?_
                      refine wpo_mv (a := (eB v102)) rfl rfl rfl (o_pick_t tk rfl rfl (Wk.refl _)) ?_
                      refine wpo_mv (a := (eB v102)) rfl rfl rfl (o_mv tk rfl (Wk.refl _)) ?_
                      refine if_split H101 (fun hb H103 => ?_) (fun hb H103 => ?_)
                      · subst hb
                        refine wpo_mv (a := ((eL 5 e_api_Entry) v31.1)) rfl rfl rfl (o_mv tk rfl (Wk.refl _)) ?_
                        refine wpo_bd H103 (eA (@eU .u64 64)) rfl rfl rfl (fun v105 hv => OpP.of_call rfl rfl (.cons (.of_eq rfl) .nil) (bucket_Filter_ok hv)) fun v105 hv105 H104 => ?_
                        refine wpo_bd H104 (@eU .u64 64) rfl rfl rfl (fun v107 hv => OpP.of_call rfl rfl (.cons (.of_eq rfl) .nil) (bloom_Hash_ok hv)) fun v107 hv107 H106 => ?_
                        refine wpo_bd H106 eB rfl rfl rfl (fun v109 hv => OpP.of_call rfl rfl (.cons (.of_eq rfl) (.cons (.of_eq rfl) .nil)) (bloom_Filter_May_ok hv)) fun v109 hv109 H108 => ?_
                        refine wpo_mv (a := (eB v109)) rfl rfl rfl (o_pick_t tk rfl rfl (Wk.refl _)) ?_
                        refine wpo_mv (a := (eB v109)) rfl rfl rfl (o_as tk rfl (Wk.refl _)) ?_
                        refine wpo_nil ?_
                        refine awp_ret ?_
                        obtain rfl := Option.some.inj H108
                        exact ⟨_, (eB v109), rfl, (.of_eq rfl), .of_eq ((enc_b td4 sz4).cut _ _ _), (((hH.noT.drop n26).drop n17).drop n8)⟩
                      · subst hb
                        refine wpo_skip rfl rfl rfl ?_
                        refine wpo_skip rfl rfl rfl ?_
                        refine wpo_skip rfl rfl rfl ?_
                        refine wpo_skip rfl rfl rfl ?_
                        refine wpo_mv (a := (eB false)) rfl rfl rfl (o_pick_f tk rfl rfl (Wk.refl _)) ?_
                        refine wpo_mv (a := (eB false)) rfl rfl rfl (o_as tk rfl (Wk.refl _)) ?_
                        refine wpo_nil ?_
                        refine awp_ret ?_
                        obtain rfl := Option.some.inj H103
                        exact ⟨_, (eB false), rfl, (.of_eq rfl), .of_eq ((enc_b td4 sz4).cut _ _ _), (((hH.noT.drop n26).drop n17).drop n8)⟩
                    · subst hb
                      refine wpo_skip rfl rfl rfl ?_
                      refine wpo_skip rfl rfl rfl ?_
                      refine wpo_skip rfl rfl rfl ?_
                      refine wpo_skip rfl rfl rfl ?_
                      refine wpo_mv (a := (eB false)) rfl rfl rfl (o_pick_f tk rfl rfl (Wk.refl _)) ?_
                      refine wpo_mv (a := (eB false)) rfl rfl rfl (o_mv tk rfl (Wk.refl _)) ?_
                      refine wpo_skip rfl rfl rfl ?_
                      refine wpo_skip rfl rfl rfl ?_
                      refine wpo_skip rfl rfl rfl ?_
                      refine wpo_skip rfl rfl rfl ?_
                      refine wpo_mv (a := (eB false)) rfl rfl rfl (o_pick_f tk rfl rfl (Wk.refl _)) ?_
                      refine wpo_mv (a := (eB false)) rfl rfl rfl (o_as tk rfl (Wk.refl _)) ?_
                      refine wpo_nil ?_
                      refine awp_ret ?_
                      obtain rfl := Option.some.inj H96
                      exact ⟨_, (eB false), rfl, (.of_eq rfl), .of_eq ((enc_b td4 sz4).cut _ _ _), (((hH.noT.drop n26).drop n17).drop n8)⟩
                  · rw [hb]
                    refine wpo_skip rfl rfl rfl ?_
                    refine wpo_skip rfl rfl rfl ?_
                    refine wpo_skip rfl rfl rfl ?_
                    refine wpo_mv (a := (eB false)) rfl rfl rfl (o_pick_f tk rfl rfl (Wk.refl _)) ?_
                    refine wpo_mv (a := (eB false)) rfl rfl rfl (o_mv tk rfl (Wk.refl _)) ?_
                    refine wpo_skip rfl rfl rfl ?_
                    refine wpo_skip rfl rfl rfl ?_
                    refine wpo_skip rfl rfl rfl ?_
                    refine wpo_skip rfl rfl rfl ?_
                    refine wpo_mv (a := (eB false)) rfl rfl rfl (o_pick_f tk rfl rfl (Wk.refl _)) ?_
                    refine wpo_mv (a := (eB false)) rfl rfl rfl (o_mv tk rfl (Wk.refl _)) ?_
                    refine wpo_skip rfl rfl rfl ?_
                    refine wpo_skip rfl rfl rfl ?_
                    refine wpo_skip rfl rfl rfl ?_
                    refine wpo_skip rfl rfl rfl ?_
                    refine wpo_mv (a := (eB false)) rfl rfl rfl (o_pick_f tk rfl rfl (Wk.refl _)) ?_
                    refine wpo_mv (a := (eB false)) rfl rfl rfl (o_as tk rfl (Wk.refl _)) ?_
                    refine wpo_nil ?_
                    refine awp_ret ?_
                    obtain rfl := Option.some.inj H91
                    exact ⟨_, (eB false), rfl, (.of_eq rfl), .of_eq ((enc_b td4 sz4).cut _ _ _), (((hH.noT.drop n26).drop n17).drop n8)⟩
                · subst hb
                  refine wpo_skip rfl rfl rfl ?_
                  refine wpo_mv (a := (eB false)) rfl rfl rfl (o_pick_f tk rfl rfl (Wk.refl _)) ?_
                  refine wpo_mv (a := (eB false)) rfl rfl rfl (o_mv tk rfl (Wk.refl _)) ?_
                  refine wpo_skip rfl rfl rfl ?_
                  refine wpo_skip rfl rfl rfl ?_
                  refine wpo_skip rfl rfl rfl ?_
                  refine wpo_mv (a := (eB false)) rfl rfl rfl (o_pick_f tk rfl rfl (Wk.refl _)) ?_
                  refine wpo_mv (a := (eB false)) rfl rfl rfl (o_mv tk rfl (Wk.refl _)) ?_
                  refine wpo_skip rfl rfl rfl ?_
                  refine wpo_skip rfl rfl rfl ?_
                  refine wpo_skip rfl rfl rfl ?_
                  refine wpo_skip rfl rfl rfl ?_
                  refine wpo_mv (a := (eB false)) rfl rfl rfl (o_pick_f tk rfl rfl (Wk.refl _)) ?_
                  refine wpo_mv (a := (eB false)) rfl rfl rfl (o_mv tk rfl (Wk.refl _)) ?_
                  refine wpo_skip rfl rfl rfl ?_
                  refine wpo_skip rfl rfl rfl ?_
                  refine wpo_skip rfl rfl rfl ?_
                  refine wpo_skip rfl rfl rfl ?_
                  refine wpo_mv (a := (eB false)) rfl rfl rfl (o_pick_f tk rfl rfl (Wk.refl _)) ?_
                  refine wpo_mv (a := (eB false)) rfl rfl rfl (o_as tk rfl (Wk.refl _)) ?_
                  refine wpo_nil ?_
                  refine awp_ret ?_
                  obtain rfl := Option.some.inj H90
                  exact ⟨_, (eB false), rfl, (.of_eq rfl), .of_eq ((enc_b td4 sz4).cut _ _ _), (((hH.noT.drop n26).drop n17).drop n8)⟩
              · subst hb
                refine wpo_skip rfl rfl rfl ?_
                refine wpo_skip rfl rfl rfl ?_
                refine wpo_skip rfl rfl rfl ?_
                refine wpo_mv (a := (eB false)) rfl rfl rfl (o_pick_f tk rfl rfl (Wk.refl _)) ?_
                refine wpo_mv (a := (eB false)) rfl rfl rfl (o_mv tk rfl (Wk.refl _)) ?_
                refine wpo_skip rfl rfl rfl ?_
                refine wpo_mv (a := (eB false)) rfl rfl rfl (o_pick_f tk rfl rfl (Wk.refl _)) ?_
                refine wpo_mv (a := (eB false)) rfl rfl rfl (o_mv tk rfl (Wk.refl _)) ?_
                refine wpo_skip rfl rfl rfl ?_
                refine wpo_skip rfl rfl rfl ?_
                refine wpo_skip rfl rfl rfl ?_
                refine wpo_mv (a := (eB false)) rfl rfl rfl (o_pick_f tk rfl rfl (Wk.refl _)) ?_
                refine wpo_mv (a := (eB false)) rfl rfl rfl (o_mv tk rfl (Wk.refl _)) ?_
                refine wpo_skip rfl rfl rfl ?_
                refine wpo_skip rfl rfl rfl ?_
                refine wpo_skip rfl rfl rfl ?_
                refine wpo_skip rfl rfl rfl ?_
                refine wpo_mv (a := (eB false)) rfl rfl rfl (o_pick_f tk rfl rfl (Wk.refl _)) ?_
                refine wpo_mv (a := (eB false)) rfl rfl rfl (o_mv tk rfl (Wk.refl _)) ?_
                refine wpo_skip rfl rfl rfl ?_
                refine wpo_skip rfl rfl rfl ?_
                refine wpo_skip rfl rfl rfl ?_
                refine wpo_skip rfl rfl rfl ?_
                refine wpo_mv (a := (eB false)) rfl rfl rfl (o_pick_f tk rfl rfl (Wk.refl _)) ?_
                refine wpo_mv (a := (eB false)) rfl rfl rfl (o_as tk rfl (Wk.refl _)) ?_
                refine wpo_nil ?_
                refine awp_ret ?_
                obtain rfl := Option.some.inj H85
                exact ⟨_, (eB false), rfl, (.of_eq rfl), .of_eq ((enc_b td4 sz4).cut _ _ _), (((hH.noT.drop n26).drop n17).drop n8)⟩
            · subst hb
              refine wpo_skip rfl rfl rfl ?_
              refine wpo_skip rfl rfl rfl ?_
              refine wpo_skip rfl rfl rfl ?_
              refine wpo_mv (a := (eB false)) rfl rfl rfl (o_pick_f tk rfl rfl (Wk.refl _)) ?_
              refine wpo_mv (a := (eB false)) rfl rfl rfl (o_mv tk rfl (Wk.refl _)) ?_
              refine wpo_skip rfl rfl rfl ?_
              refine wpo_skip rfl rfl rfl ?_
              refine wpo_skip rfl rfl rfl ?_
              refine wpo_mv (a := (eB false)) rfl rfl rfl (o_pick_f tk rfl rfl (Wk.refl _)) ?_
              refine wpo_mv (a := (eB false)) rfl rfl rfl (o_mv tk rfl (Wk.refl _)) ?_
              refine wpo_skip rfl rfl rfl ?_
              refine wpo_mv (a := (eB false)) rfl rfl rfl (o_pick_f tk rfl rfl (Wk.refl _)) ?_
              refine wpo_mv (a := (eB false)) rfl rfl rfl (o_mv tk rfl (Wk.refl _)) ?_
              refine wpo_skip rfl rfl rfl ?_
              refine wpo_skip rfl rfl rfl ?_
              refine wpo_skip rfl rfl rfl ?_
              refine wpo_mv (a := (eB false)) rfl rfl rfl (o_pick_f tk rfl rfl (Wk.refl _)) ?_
              refine wpo_mv (a := (eB false)) rfl rfl rfl (o_mv tk rfl (Wk.refl _)) ?_
              refine wpo_skip rfl rfl rfl ?_
              refine wpo_skip rfl rfl rfl ?_
              refine wpo_skip rfl rfl rfl ?_
              refine wpo_skip rfl rfl rfl ?_
              refine wpo_mv (a := (eB false)) rfl rfl rfl (o_pick_f tk rfl rfl (Wk.refl _)) ?_
              refine wpo_mv (a := (eB false)) rfl rfl rfl (o_mv tk rfl (Wk.refl _)) ?_
              refine wpo_skip rfl rfl rfl ?_
              refine wpo_skip rfl rfl rfl ?_
              refine wpo_skip rfl rfl rfl ?_
              refine wpo_skip rfl rfl rfl ?_
              refine wpo_mv (a := (eB false)) rfl rfl rfl (o_pick_f tk rfl rfl (Wk.refl _)) ?_
              refine wpo_mv (a := (eB false)) rfl rfl rfl (o_as tk rfl (Wk.refl _)) ?_
              refine wpo_nil ?_
              refine awp_ret ?_
              obtain rfl := Option.some.inj H80
              exact ⟨_, (eB false), rfl, (.of_eq rfl), .of_eq ((enc_b td4 sz4).cut _ _ _), (((hH.noT.drop n26).drop n17).drop n8)⟩
          · subst hb
            refine wpo_skip rfl rfl rfl ?_
            refine wpo_skip rfl rfl rfl ?_
            refine wpo_skip rfl rfl rfl ?_
            refine wpo_mv (a := (eB false)) rfl rfl rfl (o_pick_f tk rfl rfl (Wk.refl _)) ?_
            refine wpo_mv (a := (eB false)) rfl rfl rfl (o_mv tk rfl (Wk.refl _)) ?_
            refine wpo_skip rfl rfl rfl ?_
            refine wpo_skip rfl rfl rfl ?_
            refine wpo_skip rfl rfl rfl ?_
            refine wpo_mv (a := (eB false)) rfl rfl rfl (o_pick_f tk rfl rfl (Wk.refl _)) ?_
            refine wpo_mv (a := (eB false)) rfl rfl rfl (o_mv tk rfl (Wk.refl _)) ?_
            refine wpo_skip rfl rfl rfl ?_
            refine wpo_skip rfl rfl rfl ?_
            refine wpo_skip rfl rfl rfl ?_
            refine wpo_mv (a := (eB false)) rfl rfl rfl (o_pick_f tk rfl rfl (Wk.refl _)) ?_
            refine wpo_mv (a := (eB false)) rfl rfl rfl (o_mv tk rfl (Wk.refl _)) ?_
            refine wpo_skip rfl rfl rfl ?_
            refine wpo_mv (a := (eB false)) rfl rfl rfl (o_pick_f tk rfl rfl (Wk.refl _)) ?_
            refine wpo_mv (a := (eB false)) rfl rfl rfl (o_mv tk rfl (Wk.refl _)) ?_
            refine wpo_skip rfl rfl rfl ?_
            refine wpo_skip rfl rfl rfl ?_
            refine wpo_skip rfl rfl rfl ?_
            refine wpo_mv (a := (eB false)) rfl rfl rfl (o_pick_f tk rfl rfl (Wk.refl _)) ?_
            refine wpo_mv (a := (eB false)) rfl rfl rfl (o_mv tk rfl (Wk.refl _)) ?_
            refine wpo_skip rfl rfl rfl ?_
            refine wpo_skip rfl rfl rfl ?_
            refine wpo_skip rfl rfl rfl ?_
            refine wpo_skip rfl rfl rfl ?_
            refine wpo_mv (a := (eB false)) rfl rfl rfl (o_pick_f tk rfl rfl (Wk.refl _)) ?_
            refine wpo_mv (a := (eB false)) rfl rfl rfl (o_mv tk rfl (Wk.refl _)) ?_
            refine wpo_skip rfl rfl rfl ?_
            refine wpo_skip rfl rfl rfl ?_
            refine wpo_skip rfl rfl rfl ?_
            refine wpo_skip rfl rfl rfl ?_
            refine wpo_mv (a := (eB false)) rfl rfl rfl (o_pick_f tk rfl rfl (Wk.refl _)) ?_
            refine wpo_mv (a := (eB false)) rfl rfl rfl (o_as tk rfl (Wk.refl _)) ?_
            refine wpo_nil ?_
            refine awp_ret ?_
            obtain rfl := Option.some.inj H75
            exact ⟨_, (eB false), rfl, (.of_eq rfl), .of_eq ((enc_b td4 sz4).cut _ _ _), (((hH.noT.drop n26).drop n17).drop n8)⟩
        · subst hb
          refine wpo_skip rfl rfl rfl ?_
          refine wpo_skip rfl rfl rfl ?_
          refine wpo_skip rfl rfl rfl ?_
          refine wpo_skip rfl rfl rfl ?_
          refine wpo_skip rfl rfl rfl ?_
          refine wpo_mv (a := (eB false)) rfl rfl rfl (o_pick_f tk rfl rfl (Wk.refl _)) ?_
          refine wpo_mv (a := (eB false)) rfl rfl rfl (o_mv tk rfl (Wk.refl _)) ?_
          refine wpo_skip rfl rfl rfl ?_
          refine wpo_skip rfl rfl rfl ?_
          refine wpo_skip rfl rfl rfl ?_
          refine wpo_mv (a := (eB false)) rfl rfl rfl (o_pick_f tk rfl rfl (Wk.refl _)) ?_
          refine wpo_mv (a := (eB false)) rfl rfl rfl (o_mv tk rfl (Wk.refl _)) ?_
          refine wpo_skip rfl rfl rfl ?_
          refine wpo_skip rfl rfl rfl ?_
          refine wpo_skip rfl rfl rfl ?_
          refine wpo_mv (a := (eB false)) rfl rfl rfl (o_pick_f tk rfl rfl (Wk.refl _)) ?_
          refine wpo_mv (a := (eB false)) rfl rfl rfl (o_mv tk rfl (Wk.refl _)) ?_
          refine wpo_skip rfl rfl rfl ?_
          refine wpo_skip rfl rfl rfl ?_
          refine wpo_skip rfl rfl rfl ?_
          refine wpo_mv (a := (eB false)) rfl rfl rfl (o_pick_f tk rfl rfl (Wk.refl _)) ?_
          refine wpo_mv (a := (eB false)) rfl rfl rfl (o_mv tk rfl (Wk.refl _)) ?_
          refine wpo_skip rfl rfl rfl ?_
          refine wpo_mv (a := (eB false)) rfl rfl rfl (o_pick_f tk rfl rfl (Wk.refl _)) ?_
          refine wpo_mv (a := (eB false)) rfl rfl rfl (o_mv tk rfl (Wk.refl _)) ?_
          refine wpo_skip rfl rfl rfl ?_
          refine wpo_skip rfl rfl rfl ?_
          refine wpo_skip rfl rfl rfl ?_
          refine wpo_mv (a := (eB false)) rfl rfl rfl (o_pick_f tk rfl rfl (Wk.refl _)) ?_
          refine wpo_mv (a := (eB false)) rfl rfl rfl (o_mv tk rfl (Wk.refl _)) ?_
          refine wpo_skip rfl rfl rfl ?_
          refine wpo_skip rfl rfl rfl ?_
          refine wpo_skip rfl rfl rfl ?_
          refine wpo_skip rfl rfl rfl ?_
          refine wpo_mv (a := (eB false)) rfl rfl rfl (o_pick_f tk rfl rfl (Wk.refl _)) ?_
          refine wpo_mv (a := (eB false)) rfl rfl rfl (o_mv tk rfl (Wk.refl _)) ?_
          refine wpo_skip rfl rfl rfl ?_
          refine wpo_skip rfl rfl rfl ?_
          refine wpo_skip rfl rfl rfl ?_
          refine wpo_skip rfl rfl rfl ?_
          refine wpo_mv (a := (eB false)) rfl rfl rfl (o_pick_f tk rfl rfl (Wk.refl _)) ?_
          refine wpo_mv (a := (eB false)) rfl rfl rfl (o_as tk rfl (Wk.refl _)) ?_
          refine wpo_nil ?_
          refine awp_ret ?_
          obtain rfl := Option.some.inj H70
          exact ⟨_, (eB false), rfl, (.of_eq rfl), .of_eq ((enc_b td4 sz4).cut _ _ _), (((hH.noT.drop n26).drop n17).drop n8)⟩
      · subst hb
        refine wpo_skip rfl rfl rfl ?_
        refine wpo_skip rfl rfl rfl ?_
        refine wpo_skip rfl rfl rfl ?_
        refine wpo_skip rfl rfl rfl ?_
        refine wpo_skip rfl rfl rfl ?_
        refine wpo_mv (a := (eB false)) rfl rfl rfl (o_pick_f tk rfl rfl (Wk.refl _)) ?_
        refine wpo_mv (a := (eB false)) rfl rfl rfl (o_mv tk rfl (Wk.refl _)) ?_
        refine wpo_skip rfl rfl rfl ?_
        refine wpo_skip rfl rfl rfl ?_
        refine wpo_skip rfl rfl rfl ?_
        refine wpo_skip rfl rfl rfl ?_
        refine wpo_skip rfl rfl rfl ?_
        refine wpo_mv (a := (eB false)) rfl rfl rfl (o_pick_f tk rfl rfl (Wk.refl _)) ?_
        refine wpo_mv (a := (eB false)) rfl rfl rfl (o_mv tk rfl (Wk.refl _)) ?_
        refine wpo_skip rfl rfl rfl ?_
        refine wpo_skip rfl rfl rfl ?_
        refine wpo_skip rfl rfl rfl ?_
        refine wpo_mv (a := (eB false)) rfl rfl rfl (o_pick_f tk rfl rfl (Wk.refl _)) ?_
        refine wpo_mv (a := (eB false)) rfl rfl rfl (o_mv tk rfl (Wk.refl _)) ?_
        refine wpo_skip rfl rfl rfl ?_
        refine wpo_skip rfl rfl rfl ?_
        refine wpo_skip rfl rfl rfl ?_
        refine wpo_mv (a := (eB false)) rfl rfl rfl (o_pick_f tk rfl rfl (Wk.refl _)) ?_
        refine wpo_mv (a := (eB false)) rfl rfl rfl (o_mv tk rfl (Wk.refl _)) ?_
        refine wpo_skip rfl rfl rfl ?_
        refine wpo_skip rfl rfl rfl ?_
        refine wpo_skip rfl rfl rfl ?_
        refine wpo_mv (a := (eB false)) rfl rfl rfl (o_pick_f tk rfl rfl (Wk.refl _)) ?_
        refine wpo_mv (a := (eB false)) rfl rfl rfl (o_mv tk rfl (Wk.refl _)) ?_
        refine wpo_skip rfl rfl rfl ?_
        refine wpo_mv (a := (eB false)) rfl rfl rfl (o_pick_f tk rfl rfl (Wk.refl _)) ?_
        refine wpo_mv (a := (eB false)) rfl rfl rfl (o_mv tk rfl (Wk.refl _)) ?_
        refine wpo_skip rfl rfl rfl ?_
        refine wpo_skip rfl rfl rfl ?_
        refine wpo_skip rfl rfl rfl ?_
        refine wpo_mv (a := (eB false)) rfl rfl rfl (o_pick_f tk rfl rfl (Wk.refl _)) ?_
        refine wpo_mv (a := (eB false)) rfl rfl rfl (o_mv tk rfl (Wk.refl _)) ?_
        refine wpo_skip rfl rfl rfl ?_
        refine wpo_skip rfl rfl rfl ?_
        refine wpo_skip rfl rfl rfl ?_
        refine wpo_skip rfl rfl rfl ?_
        refine wpo_mv (a := (eB false)) rfl rfl rfl (o_pick_f tk rfl rfl (Wk.refl _)) ?_
        refine wpo_mv (a := (eB false)) rfl rfl rfl (o_mv tk rfl (Wk.refl _)) ?_
        refine wpo_skip rfl rfl rfl ?_
        refine wpo_skip rfl rfl rfl ?_
        refine wpo_skip rfl rfl rfl ?_
        refine wpo_skip rfl rfl rfl ?_
        refine wpo_mv (a := (eB false)) rfl rfl rfl (o_pick_f tk rfl rfl (Wk.refl _)) ?_
        refine wpo_mv (a := (eB false)) rfl rfl rfl (o_as tk rfl (Wk.refl _)) ?_
        refine wpo_nil ?_
        refine awp_ret ?_
        obtain rfl := Option.some.inj H65
        exact ⟨_, (eB false), rfl, (.of_eq rfl), .of_eq ((enc_b td4 sz4).cut _ _ _), (((hH.noT.drop n26).drop n17).drop n8)⟩
  · refine awp_region rfl ?_
    refine wpo_mv (a := ((eL 5 e_api_Entry) v31.1)) rfl rfl rfl (o_mv tk rfl (Wk.refl _)) ?_
    refine wpo_lt hs48 eI rfl rfl rfl (o_len tk td60 rfl) fun v51 H50 => ?_
    refine wpo_lt H50 eB rfl rfl rfl (o_ar tk rfl rfl rfl) fun v53 H52 => ?_
    refine wpo_mv (a := (eB v53)) rfl rfl rfl (o_mv tk rfl (Wk.refl _)) ?_
    refine if_split H52 (fun hb H54 => ?_) (fun hb H54 => ?_)
    · subst hb
      refine wpo_skip rfl rfl rfl ?_
      refine wpo_skip rfl rfl rfl ?_
      refine wpo_skip rfl rfl rfl ?_
      refine wpo_mv (a := (eB true)) rfl rfl rfl (o_pick_t tk rfl rfl (Wk.refl _)) ?_
      refine wpo_nil ?_
      have e := Option.some.inj H54
      subst e
      exact ⟨(wkf_cons (.of_eq rfl) (wkf_cons (.of_eq rfl) (wkf_cons (.of_eq rfl) (wkf_cons (.of_eq rfl) (wkf_cons (.of_eq rfl) (wkf_cons (.of_eq rfl) (wkf_cons (.of_eq rfl) (wkf_nil _)))))))), hH.noT⟩
    · subst hb
      refine wpo_mv (a := ((eL 5 e_api_Entry) v31.2.1)) rfl rfl rfl (o_mv tk rfl (Wk.refl _)) ?_
      refine wpo_lt H54 eI rfl rfl rfl (o_len tk td60 rfl) fun v56 H55 => ?_
      refine wpo_lt H55 eB rfl rfl rfl (o_ar tk rfl rfl rfl) fun v58 H57 => ?_
      refine wpo_mv (a := (eB v58)) rfl rfl rfl (o_pick_f tk rfl rfl (Wk.refl _)) ?_
      refine wpo_nil ?_
      have e := Option.some.inj H57
      subst e
      exact ⟨(wkf_cons (.of_eq rfl) (wkf_cons (.of_eq rfl) (wkf_cons (.of_eq rfl) (wkf_cons (.of_eq rfl) (wkf_cons (.of_eq rfl) (wkf_cons (.of_eq rfl) (wkf_cons (.of_eq rfl) (wkf_nil _)))))))), hH.noT⟩
end Go.Proofs.YtkmlinaofbcbaaaDoor
namespace Go.Proofs.YtkmlinaofbcbaaaDoor
open Go Go.Va
set_option linter.unusedVariables false
set_option linter.unusedSimpArgs false
set_option maxRecDepth 20000
theorem butteryref02_Key_ok {x0 : List (BitVec 8)} {r : Int} (H : butteryref02_Key x0 = some r) (σ : St)  : ACall Tryd.prog 99 [(eS x0)] σ (fun a τ => a = eI r ∧ τ = σ) := by
  unfold butteryref02_Key at H
  refine ACall.pure (acall_start tk Tryd.func99 (by decide) rfl (Nat.le_of_ble_eq_true rfl) ?_)
  have hH := Holds.init σ
  refine awp_seq ?_
  refine awp_region rfl ?_
  refine wpo_mv (a := (eI (0 : Int))) rfl rfl rfl (o_as tk rfl (Wk.refl _)) ?_
  refine wpo_nil ?_
  refine awp_seq ?_
  refine awp_seq ?_
  refine awp_region rfl ?_
  refine wpo_mv (a := (eS x0)) rfl rfl rfl (o_mv tk rfl (Wk.refl _)) ?_
  refine wpo_lt H eB rfl rfl rfl (o_eql_s tk rfl rfl) fun v2 H1 => ?_
  refine wpo_nil ?_
  refine awp_if H1 rfl (fun H3 => ?_) (fun H3 => ?_)
  · refine awp_seq ?_
    refine awp_region rfl ?_
    refine wpo_mv (a := (eI (1 : Int))) rfl rfl rfl (o_as tk rfl (Wk.refl _)) ?_
    refine wpo_nil ?_
    refine awp_ret ?_
    obtain rfl := Option.some.inj H3
    exact ⟨_, (eI (1 : Int)), rfl, (.of_eq rfl), .of_eq ((enc_i64 td33 sz33).cut _ _ _), hH.noT⟩
  · refine awp_skip ?_
    refine awp_seq ?_
    refine awp_seq ?_
    refine awp_region rfl ?_
    refine wpo_mv (a := (eS x0)) rfl rfl rfl (o_mv tk rfl (Wk.refl _)) ?_
    refine wpo_lt H3 eI rfl rfl rfl (o_len_s tk td9 rfl) fun v5 H4 => ?_
    refine wpo_lt H4 eB rfl rfl rfl (o_ar tk rfl rfl rfl) fun v7 H6 => ?_
    refine wpo_nil ?_
    refine awp_if H6 rfl (fun H8 => ?_) (fun H8 => ?_)
    · refine awp_seq ?_
      refine awp_region rfl ?_
      refine wpo_mv (a := (eI (3 : Int))) rfl rfl rfl (o_as tk rfl (Wk.refl _)) ?_
      refine wpo_nil ?_
      refine awp_ret ?_
      obtain rfl := Option.some.inj H8
      exact ⟨_, (eI (3 : Int)), rfl, (.of_eq rfl), .of_eq ((enc_i64 td33 sz33).cut _ _ _), hH.noT⟩
    · refine awp_skip ?_
      refine awp_seq ?_
      refine awp_region rfl ?_
      refine wpo_mv (a := (eI (0 : Int))) rfl rfl rfl (o_as tk rfl (Wk.refl _)) ?_
      refine wpo_nil ?_
      refine awp_ret ?_
      obtain rfl := Option.some.inj H8
      exact ⟨_, (eI (0 : Int)), rfl, (.of_eq rfl), .of_eq ((enc_i64 td33 sz33).cut _ _ _), hH.noT⟩
end Go.Proofs.YtkmlinaofbcbaaaDoor
namespace Go.Proofs.YtkmlinaofbcbaaaDoor
open Go Go.Va
set_option linter.unusedVariables false
set_option linter.unusedSimpArgs false
set_option maxRecDepth 20000
theorem butteryref06_Check_ok {x0 : api_Entry} {r : Int} (H : butteryref06_Check x0 = some r) (σ : St)  : ACall Tryd.prog 36 [(e_api_Entry x0)] σ (fun a τ => a = eI r ∧ τ = σ) := by
  unfold butteryref06_Check at H
  refine ACall.pure (acall_start tk Tryd.func36 (by decide) rfl (Nat.le_of_ble_eq_true rfl) ?_)
  have hH := Holds.init σ
  refine awp_seq ?_
  refine awp_region rfl ?_
  refine wpo_mv (a := (.fptr (c_api_Entry x0) 0)) rfl rfl rfl (o_boxf tk rfl (.of_eq rfl) (b := (e_api_Entry x0)) (enc24.flat _)) ?_
  refine wpo_mv (a := (eI (0 : Int))) rfl rfl rfl (o_as tk rfl (Wk.refl _)) ?_
  refine wpo_nil ?_
  refine awp_seq ?_
  refine awp_seq ?_
  refine awp_region rfl ?_
  refine wpo_mv (a := (.fptr (c_api_Entry x0) 0)) rfl rfl rfl (o_c tk false rfl (fun _ => rfl)) ?_
  refine wpo_mv (a := (eS x0.Key)) rfl rfl rfl (o_ld tk rfl rfl) ?_
  refine wpo_bd H eI rfl rfl rfl (fun v2 hv => OpP.of_call rfl rfl (.cons (.of_eq rfl) .nil) (butteryref02_Key_ok hv)) fun v2 hv2 H1 => ?_
  refine wpo_mv (a := (eI v2)) rfl rfl rfl (o_as tk rfl (Wk.refl _)) ?_
  refine wpo_nil ?_
  refine awp_seq ?_
  refine awp_region rfl ?_
  refine wpo_mv (a := (eI v2)) rfl rfl rfl (o_mv tk rfl (Wk.refl _)) ?_
  refine wpo_lt H1 eB rfl rfl rfl (o_ar tk rfl rfl rfl) fun v4 H3 => ?_
  refine wpo_nil ?_
  refine awp_if H3 rfl (fun H5 => ?_) (fun H5 => ?_)
  · refine awp_seq ?_
    refine awp_region rfl ?_
    refine wpo_mv (a := (eI v2)) rfl rfl rfl (o_mv tk rfl (Wk.refl _)) ?_
    refine wpo_mv (a := (eI v2)) rfl rfl rfl (o_as tk rfl (Wk.refl _)) ?_
    refine wpo_nil ?_
    refine awp_ret ?_
    obtain rfl := Option.some.inj H5
    exact ⟨_, (eI v2), rfl, (.of_eq rfl), .of_eq ((enc_i64 td33 sz33).cut _ _ _), hH.noT⟩
  · refine awp_skip ?_
    refine awp_seq ?_
    refine awp_seq ?_
    obtain ⟨s6, hs8, hj9⟩ := Option.bind_eq_some_iff.1 H5
    refine awp_cutn (fun fr τ => WkF fr (fm [(1, (.fptr (c_api_Entry x0) 0)), (39, (eB s6))]) ∧ Holds σ [] [] τ) ?_ ?_
    · rintro fr τ ⟨hfr, hH⟩
      have H27 := hj9
      refine AWP.fm [(1, (.fptr (c_api_Entry x0) 0)), (39, (eB s6))] hfr ?_
      refine awp_if H27 rfl (fun H28 => ?_) (fun H28 => ?_)
      · refine awp_seq ?_
        refine awp_region rfl ?_
        refine wpo_mv (a := (eI (2 : Int))) rfl rfl rfl (o_as tk rfl (Wk.refl _)) ?_
        refine wpo_nil ?_
        refine awp_ret ?_
        obtain rfl := Option.some.inj H28
        exact ⟨_, (eI (2 : Int)), rfl, (.of_eq rfl), .of_eq ((enc_i64 td33 sz33).cut _ _ _), hH.noT⟩
      · refine awp_skip ?_
        refine awp_seq ?_
        refine awp_seq ?_
        refine awp_region rfl ?_
        refine wpo_mv (a := (.fptr (c_api_Entry x0) 4)) rfl rfl rfl (o_c tk false rfl (fun _ => rfl)) ?_
        refine wpo_mv (a := ((eL 1 (@eU .u8 8)) x0.Value)) rfl rfl rfl (o_ld tk rfl rfl) ?_
        refine wpo_lt H28 eI rfl rfl rfl (o_len tk td22 rfl) fun v30 H29 => ?_
        refine wpo_lt H29 eB rfl rfl rfl (o_ar tk rfl rfl rfl) fun v32 H31 => ?_
        refine wpo_nil ?_
        refine awp_if H31 rfl (fun H33 => ?_) (fun H33 => ?_)
        · refine awp_seq ?_
          refine awp_region rfl ?_
          refine wpo_mv (a := (eI (3 : Int))) rfl rfl rfl (o_as tk rfl (Wk.refl _)) ?_
          refine wpo_nil ?_
          refine awp_ret ?_
          obtain rfl := Option.some.inj H33
          exact ⟨_, (eI (3 : Int)), rfl, (.of_eq rfl), .of_eq ((enc_i64 td33 sz33).cut _ _ _), hH.noT⟩
        · refine awp_skip ?_
          refine awp_seq ?_
          refine awp_region rfl ?_
          refine wpo_mv (a := (eI (0 : Int))) rfl rfl rfl (o_as tk rfl (Wk.refl _)) ?_
          refine wpo_nil ?_
          refine awp_ret ?_
          obtain rfl := Option.some.inj H33
          exact ⟨_, (eI (0 : Int)), rfl, (.of_eq rfl), .of_eq ((enc_i64 td33 sz33).cut _ _ _), hH.noT⟩
    · refine awp_region rfl ?_
      refine wpo_mv (a := (.fptr (c_api_Entry x0) 1)) rfl rfl rfl (o_c tk false rfl (fun _ => rfl)) ?_
      refine wpo_mv (a := (eI x0.Version)) rfl rfl rfl (o_ld tk rfl rfl) ?_
      refine wpo_lt hs8 eB rfl rfl rfl (o_ar tk rfl rfl rfl) fun v11 H10 => ?_
      refine wpo_mv (a := (eB v11)) rfl rfl rfl (o_mv tk rfl (Wk.refl _)) ?_
      refine if_split H10 (fun hb H12 => ?_) (fun hb H12 => ?_)
      · subst hb
        refine wpo_skip rfl rfl rfl ?_
        refine wpo_skip rfl rfl rfl ?_
        refine wpo_skip rfl rfl rfl ?_
        refine wpo_mv (a := (eB true)) rfl rfl rfl (o_pick_t tk rfl rfl (Wk.refl _)) ?_
        refine wpo_mv (a := (eB true)) rfl rfl rfl (o_mv tk rfl (Wk.refl _)) ?_
        refine wpo_skip rfl rfl rfl ?_
        refine wpo_skip rfl rfl rfl ?_
        refine wpo_skip rfl rfl rfl ?_
        refine wpo_skip rfl rfl rfl ?_
        refine wpo_skip rfl rfl rfl ?_
        refine wpo_mv (a := (eB true)) rfl rfl rfl (o_pick_t tk rfl rfl (Wk.refl _)) ?_
        refine wpo_mv (a := (eB true)) rfl rfl rfl (o_mv tk rfl (Wk.refl _)) ?_
        refine wpo_skip rfl rfl rfl ?_
        refine wpo_skip rfl rfl rfl ?_
        refine wpo_skip rfl rfl rfl ?_
        refine wpo_mv (a := (eB true)) rfl rfl rfl (o_pick_t tk rfl rfl (Wk.refl _)) ?_
        refine wpo_mv (a := (eB true)) rfl rfl rfl (o_mv tk rfl (Wk.refl _)) ?_
        refine wpo_skip rfl rfl rfl ?_
        refine wpo_skip rfl rfl rfl ?_
        refine wpo_skip rfl rfl rfl ?_
        refine wpo_mv (a := (eB true)) rfl rfl rfl (o_pick_t tk rfl rfl (Wk.refl _)) ?_
        refine wpo_mv (a := (eB true)) rfl rfl rfl (o_mv tk rfl (Wk.refl _)) ?_
        refine wpo_skip rfl rfl rfl ?_
        refine wpo_skip rfl rfl rfl ?_
        refine wpo_skip rfl rfl rfl ?_
        refine wpo_mv (a := (eB true)) rfl rfl rfl (o_pick_t tk rfl rfl (Wk.refl _)) ?_
        refine wpo_nil ?_
        have e := Option.some.inj H12
        subst e
        exact ⟨(wkf_cons (.of_eq rfl) (wkf_cons (.of_eq rfl) (wkf_nil _))), hH⟩
      · subst hb
        refine wpo_mv (a := (.fptr (c_api_Entry x0) 1)) rfl rfl rfl (o_c tk false rfl (fun _ => rfl)) ?_
        refine wpo_mv (a := (eI x0.Version)) rfl rfl rfl (o_ld tk rfl rfl) ?_
        refine wpo_lt H12 eB rfl rfl rfl (o_ar tk rfl rfl rfl) fun v14 H13 => ?_
        refine wpo_mv (a := (eB v14)) rfl rfl rfl (o_pick_f tk rfl rfl (Wk.refl _)) ?_
        refine wpo_mv (a := (eB v14)) rfl rfl rfl (o_mv tk rfl (Wk.refl _)) ?_
        refine if_split H13 (fun hb H15 => ?_) (fun hb H15 => ?_)
        · subst hb
          refine wpo_skip rfl rfl rfl ?_
          refine wpo_skip rfl rfl rfl ?_
          refine wpo_skip rfl rfl rfl ?_
          refine wpo_skip rfl rfl rfl ?_
          refine wpo_skip rfl rfl rfl ?_
          refine wpo_mv (a := (eB true)) rfl rfl rfl (o_pick_t tk rfl rfl (Wk.refl _)) ?_
          refine wpo_mv (a := (eB true)) rfl rfl rfl (o_mv tk rfl (Wk.refl _)) ?_
          refine wpo_skip rfl rfl rfl ?_
          refine wpo_skip rfl rfl rfl ?_
          refine wpo_skip rfl rfl rfl ?_
          refine wpo_mv (a := (eB true)) rfl rfl rfl (o_pick_t tk rfl rfl (Wk.refl _)) ?_
          refine wpo_mv (a := (eB true)) rfl rfl rfl (o_mv tk rfl (Wk.refl _)) ?_
          refine wpo_skip rfl rfl rfl ?_
          refine wpo_skip rfl rfl rfl ?_
          refine wpo_skip rfl rfl rfl ?_
          refine wpo_mv (a := (eB true)) rfl rfl rfl (o_pick_t tk rfl rfl (Wk.refl _)) ?_
          refine wpo_mv (a := (eB true)) rfl rfl rfl (o_mv tk rfl (Wk.refl _)) ?_
          refine wpo_skip rfl rfl rfl ?_
          refine wpo_skip rfl rfl rfl ?_
          refine wpo_skip rfl rfl rfl ?_
          refine wpo_mv (a := (eB true)) rfl rfl rfl (o_pick_t tk rfl rfl (Wk.refl _)) ?_
          refine wpo_nil ?_
          have e := Option.some.inj H15
          subst e
          exact ⟨(wkf_cons (.of_eq rfl) (wkf_cons (.of_eq rfl) (wkf_nil _))), hH⟩
        · subst hb
          refine wpo_mv (a := (.fptr (c_api_Entry x0) 2)) rfl rfl rfl (o_c tk false rfl (fun _ => rfl)) ?_
          refine wpo_mv (a := (eI x0.AsOf)) rfl rfl rfl (o_ld tk rfl rfl) ?_
          refine wpo_mv (a := (.fptr (c_api_Entry x0) 1)) rfl rfl rfl (o_c tk false rfl (fun _ => rfl)) ?_
          refine wpo_mv (a := (eI x0.Version)) rfl rfl rfl (o_ld tk rfl rfl) ?_
          refine wpo_lt H15 eB rfl rfl rfl (o_ar tk rfl rfl rfl) fun v17 H16 => ?_
          refine wpo_mv (a := (eB v17)) rfl rfl rfl (o_pick_f tk rfl rfl (Wk.refl _)) ?_
          refine wpo_mv (a := (eB v17)) rfl rfl rfl (o_mv tk rfl (Wk.refl _)) ?_
          refine if_split H16 (fun hb H18 => ?_) (fun hb H18 => ?_)
          · subst hb
            refine wpo_skip rfl rfl rfl ?_
            refine wpo_skip rfl rfl rfl ?_
            refine wpo_skip rfl rfl rfl ?_
            refine wpo_mv (a := (eB true)) rfl rfl rfl (o_pick_t tk rfl rfl (Wk.refl _)) ?_
            refine wpo_mv (a := (eB true)) rfl rfl rfl (o_mv tk rfl (Wk.refl _)) ?_
            refine wpo_skip rfl rfl rfl ?_
            refine wpo_skip rfl rfl rfl ?_
            refine wpo_skip rfl rfl rfl ?_
            refine wpo_mv (a := (eB true)) rfl rfl rfl (o_pick_t tk rfl rfl (Wk.refl _)) ?_
            refine wpo_mv (a := (eB true)) rfl rfl rfl (o_mv tk rfl (Wk.refl _)) ?_
            refine wpo_skip rfl rfl rfl ?_
            refine wpo_skip rfl rfl rfl ?_
            refine wpo_skip rfl rfl rfl ?_
            refine wpo_mv (a := (eB true)) rfl rfl rfl (o_pick_t tk rfl rfl (Wk.refl _)) ?_
            refine wpo_nil ?_
            have e := Option.some.inj H18
            subst e
            exact ⟨(wkf_cons (.of_eq rfl) (wkf_cons (.of_eq rfl) (wkf_nil _))), hH⟩
          · subst hb
            refine wpo_mv (a := (.fptr (c_api_Entry x0) 2)) rfl rfl rfl (o_c tk false rfl (fun _ => rfl)) ?_
            refine wpo_mv (a := (eI x0.AsOf)) rfl rfl rfl (o_ld tk rfl rfl) ?_
            refine wpo_lt H18 eB rfl rfl rfl (o_ar tk rfl rfl rfl) fun v20 H19 => ?_
            refine wpo_mv (a := (eB v20)) rfl rfl rfl (o_pick_f tk rfl rfl (Wk.refl _)) ?_
            refine wpo_mv (a := (eB v20)) rfl rfl rfl (o_mv tk rfl (Wk.refl _)) ?_
            refine if_split H19 (fun hb H21 => ?_) (fun hb H21 => ?_)
            · subst hb
              refine wpo_skip rfl rfl rfl ?_
              refine wpo_skip rfl rfl rfl ?_
              refine wpo_skip rfl rfl rfl ?_
              refine wpo_mv (a := (eB true)) rfl rfl rfl (o_pick_t tk rfl rfl (Wk.refl _)) ?_
              refine wpo_mv (a := (eB true)) rfl rfl rfl (o_mv tk rfl (Wk.refl _)) ?_
              refine wpo_skip rfl rfl rfl ?_
              refine wpo_skip rfl rfl rfl ?_
              refine wpo_skip rfl rfl rfl ?_
              refine wpo_mv (a := (eB true)) rfl rfl rfl (o_pick_t tk rfl rfl (Wk.refl _)) ?_
              refine wpo_nil ?_
              have e := Option.some.inj H21
              subst e
              exact ⟨(wkf_cons (.of_eq rfl) (wkf_cons (.of_eq rfl) (wkf_nil _))), hH⟩
            · subst hb
              refine wpo_mv (a := (.fptr (c_api_Entry x0) 3)) rfl rfl rfl (o_c tk false rfl (fun _ => rfl)) ?_
              refine wpo_mv (a := (eI x0.Ends)) rfl rfl rfl (o_ld tk rfl rfl) ?_
              refine wpo_lt H21 eB rfl rfl rfl (o_ar tk rfl rfl rfl) fun v23 H22 => ?_
              refine wpo_mv (a := (eB v23)) rfl rfl rfl (o_pick_f tk rfl rfl (Wk.refl _)) ?_
              refine wpo_mv (a := (eB v23)) rfl rfl rfl (o_mv tk rfl (Wk.refl _)) ?_
              refine if_split H22 (fun hb H24 => ?_) (fun hb H24 => ?_)
              · subst hb
                refine wpo_skip rfl rfl rfl ?_
                refine wpo_skip rfl rfl rfl ?_
                refine wpo_skip rfl rfl rfl ?_
                refine wpo_mv (a := (eB true)) rfl rfl rfl (o_pick_t tk rfl rfl (Wk.refl _)) ?_
                refine wpo_nil ?_
                have e := Option.some.inj H24
                subst e
                exact ⟨(wkf_cons (.of_eq rfl) (wkf_cons (.of_eq rfl) (wkf_nil _))), hH⟩
              · subst hb
                refine wpo_mv (a := (.fptr (c_api_Entry x0) 3)) rfl rfl rfl (o_c tk false rfl (fun _ => rfl)) ?_
                refine wpo_mv (a := (eI x0.Ends)) rfl rfl rfl (o_ld tk rfl rfl) ?_
                refine wpo_lt H24 eB rfl rfl rfl (o_ar tk rfl rfl rfl) fun v26 H25 => ?_
                refine wpo_mv (a := (eB v26)) rfl rfl rfl (o_pick_f tk rfl rfl (Wk.refl _)) ?_
                refine wpo_nil ?_
                have e := Option.some.inj H25
                subst e
                exact ⟨(wkf_cons (.of_eq rfl) (wkf_cons (.of_eq rfl) (wkf_nil _))), hH⟩
end Go.Proofs.YtkmlinaofbcbaaaDoor
namespace Go.Proofs.YtkmlinaofbcbaaaDoor
open Go Go.Va
set_option linter.unusedVariables false
set_option linter.unusedSimpArgs false
set_option maxRecDepth 20000
theorem butteryref06_Find_ok {x0 : List api_Entry} {x1 : List (BitVec 8)} {r : Int} (H : butteryref06_Find x0 x1 = some r) (σ : St)  : ACall Tryd.prog 49 [((eL 5 e_api_Entry) x0), (eS x1)] σ (fun a τ => a = eI r ∧ τ = σ) := by
  unfold butteryref06_Find at H
  refine ACall.pure (acall_start tk Tryd.func49 (by decide) rfl (Nat.le_of_ble_eq_true rfl) ?_)
  have hH := Holds.init σ
  refine awp_seq ?_
  refine awp_region rfl ?_
  refine wpo_mv (a := (eI (0 : Int))) rfl rfl rfl (o_as tk rfl (Wk.refl _)) ?_
  refine wpo_nil ?_
  refine awp_seq ?_
  refine awp_seq ?_
  refine awp_region rfl ?_
  refine wpo_mv (a := (eI (0 : Int))) rfl rfl rfl (o_as tk rfl (Wk.refl _)) ?_
  refine wpo_nil ?_
  refine awp_block ?_
  obtain ⟨o2, hs3, hj4⟩ := Option.bind_eq_some_iff.1 H
  refine awp_cutx 0 (fun fr τ => ∃ s9 : Unit, o2 = .inl s9 ∧ WkF fr (fm []) ∧ Holds σ [] [] τ) ?_ ?_
  · rintro fr τ ⟨s9, rfl, hfr, hH⟩
    have H24 := hj4
    simp only [Sum.elim_inl] at H24
    refine AWP.fm [] hfr ?_
    refine awp_seq ?_
    refine awp_region rfl ?_
    refine wpo_mv (a := (eI (-1 : Int))) rfl rfl rfl (o_as tk rfl (Wk.refl _)) ?_
    refine wpo_nil ?_
    refine awp_ret ?_
    obtain rfl := Option.some.inj H24
    exact ⟨_, (eI (-1 : Int)), rfl, (.of_eq rfl), .of_eq ((enc_i64 td3 sz3).cut _ _ _), hH.noT⟩
  · refine awp_loopO (body := fun s => butteryref06_Find_b0 x0 x1 s) hs3 (fun (s : Int) fr τ => WkF fr (fm [(0, ((eL 5 e_api_Entry) x0)), (1, (eS x1)), (5, (eI s))]) ∧ Holds σ [] [] τ) ⟨(wkf_cons (.of_eq rfl) (wkf_cons (.of_eq rfl) (wkf_cons (.of_eq rfl) (wkf_nil _)))), hH⟩ ?_
    rintro c1 fr τ y5 ⟨hfr, hH⟩ hb7 hy8
    have H10 : butteryref06_Find_b0 x0 x1 c1 = some y5 := hb7
    unfold butteryref06_Find_b0 at H10
    refine AWP.fm [(0, ((eL 5 e_api_Entry) x0)), (1, (eS x1)), (5, (eI c1))] hfr ?_
    have hH : Holds σ [] [] τ := hH
    refine awp_seq ?_
    refine awp_seq ?_
    refine awp_region rfl ?_
    refine wpo_mv (a := (eI c1)) rfl rfl rfl (o_mv tk rfl (Wk.refl _)) ?_
    refine wpo_mv (a := ((eL 5 e_api_Entry) x0)) rfl rfl rfl (o_mv tk rfl (Wk.refl _)) ?_
    refine wpo_lt H10 eI rfl rfl rfl (o_len tk td60 rfl) fun v12 H11 => ?_
    refine wpo_lt H11 eB rfl rfl rfl (o_ar tk rfl rfl rfl) fun v14 H13 => ?_
    refine wpo_nil ?_
    refine awp_if H13 rfl (fun H15 => ?_) (fun H15 => ?_)
    · refine awp_skip ?_
      refine awp_seq ?_
      refine awp_block ?_
      refine awp_seq ?_
      refine awp_region rfl ?_
      refine wpo_mv (a := ((eL 5 e_api_Entry) x0)) rfl rfl rfl (o_mv tk rfl (Wk.refl _)) ?_
      refine wpo_mv (a := (eI c1)) rfl rfl rfl (o_mv tk rfl (Wk.refl _)) ?_
      refine wpo_bd H15 (fun y => .fptr (e_api_Entry y).cells 0) rfl rfl rfl (fun v17 hv => o_ixa tk hv td60 enc24 rfl rfl) fun v17 hv17 H16 => ?_
      refine wpo_mv (a := (.fptr (c_api_Entry v17) 0)) rfl rfl rfl (o_c tk false rfl (fun _ => rfl)) ?_
      refine wpo_mv (a := (eS v17.Key)) rfl rfl rfl (o_ld tk rfl rfl) ?_
      refine wpo_mv (a := (eS x1)) rfl rfl rfl (o_mv tk rfl (Wk.refl _)) ?_
      refine wpo_lt H16 eB rfl rfl rfl (o_eql_s tk rfl rfl) fun v19 H18 => ?_
      refine wpo_nil ?_
      refine awp_if H18 rfl (fun H20 => ?_) (fun H20 => ?_)
      · refine awp_seq ?_
        refine awp_region rfl ?_
        refine wpo_mv (a := (eI c1)) rfl rfl rfl (o_mv tk rfl (Wk.refl _)) ?_
        refine wpo_mv (a := (eI c1)) rfl rfl rfl (o_as tk rfl (Wk.refl _)) ?_
        refine wpo_nil ?_
        refine awp_ret ?_
        have hz := hy8 _ (inj_inr H20)
        refine ⟨⟨_, inj_inr H20⟩, ?_⟩
        rw [← hz] at hj4
        have H21 := (show some _ = some _ from hj4)
        obtain rfl := Option.some.inj H21
        exact ⟨_, (eI c1), rfl, (.of_eq rfl), .of_eq ((enc_i64 td3 sz3).cut _ _ _), hH.noT⟩
      · refine awp_skip ?_
        refine awp_region rfl ?_
        refine wpo_mv (a := (eI c1)) rfl rfl rfl (o_mv tk rfl (Wk.refl _)) ?_
        refine wpo_lt H20 eI rfl rfl rfl (o_ar tk rfl rfl rfl) fun v23 H22 => ?_
        refine wpo_mv (a := (eI v23)) rfl rfl rfl (o_as tk rfl (Wk.refl _)) ?_
        refine wpo_nil ?_
        exact ⟨v23, inj_inl H22, (wkf_cons (.of_eq rfl) (wkf_cons (.of_eq rfl) (wkf_cons (.of_eq rfl) (wkf_nil _)))), hH⟩
    · refine awp_exit ?_
      have hz := hy8 _ (inj_inr H15)
      exact ⟨⟨_, inj_inr H15⟩, (), hz.symm, (wkf_nil _), hH⟩
end Go.Proofs.YtkmlinaofbcbaaaDoor
namespace Go.Proofs.YtkmlinaofbcbaaaDoor
open Go Go.Va
set_option linter.unusedVariables false
set_option linter.unusedSimpArgs false
set_option maxRecDepth 20000
theorem butterylaw12_right_ok {x0 : List api_Entry} {r : Bool} (H : butterylaw12_right x0 = some r) (σ : St)  : ACall Tryd.prog 42 [((eL 5 e_api_Entry) x0)] σ (fun a τ => a = eB r ∧ τ = σ) := by
  unfold butterylaw12_right at H
  refine ACall.pure (acall_start tk Tryd.func42 (by decide) rfl (Nat.le_of_ble_eq_true rfl) ?_)
  have hH := Holds.init σ
  refine awp_seq ?_
  refine awp_region rfl ?_
  refine wpo_mv (a := (eB false)) rfl rfl rfl (o_as tk rfl (Wk.refl _)) ?_
  refine wpo_nil ?_
  refine awp_seq ?_
  refine awp_seq ?_
  refine awp_region rfl ?_
  refine wpo_mv (a := (eI (0 : Int))) rfl rfl rfl (o_as tk rfl (Wk.refl _)) ?_
  refine wpo_nil ?_
  refine awp_block ?_
  obtain ⟨o2, hs3, hj4⟩ := Option.bind_eq_some_iff.1 H
  refine awp_cutx 0 (fun fr τ => ∃ s9 : Unit, o2 = .inl s9 ∧ WkF fr (fm []) ∧ Holds σ [] [] τ) ?_ ?_
  · rintro fr τ ⟨s9, rfl, hfr, hH⟩
    have H38 := hj4
    simp only [Sum.elim_inl] at H38
    refine AWP.fm [] hfr ?_
    refine awp_seq ?_
    refine awp_region rfl ?_
    refine wpo_mv (a := (eB true)) rfl rfl rfl (o_as tk rfl (Wk.refl _)) ?_
    refine wpo_nil ?_
    refine awp_ret ?_
    obtain rfl := Option.some.inj H38
    exact ⟨_, (eB true), rfl, (.of_eq rfl), .of_eq ((enc_b td4 sz4).cut _ _ _), hH.noT⟩
  · refine awp_loopO (body := fun s => butterylaw12_right_b0 x0 s) hs3 (fun (s : Int) fr τ => WkF fr (fm [(0, ((eL 5 e_api_Entry) x0)), (3, (eI s))]) ∧ Holds σ [] [] τ) ⟨(wkf_cons (.of_eq rfl) (wkf_cons (.of_eq rfl) (wkf_nil _))), hH⟩ ?_
    rintro c1 fr τ y5 ⟨hfr, hH⟩ hb7 hy8
    have H10 : butterylaw12_right_b0 x0 c1 = some y5 := hb7
    unfold butterylaw12_right_b0 at H10
    refine AWP.fm [(0, ((eL 5 e_api_Entry) x0)), (3, (eI c1))] hfr ?_
    have hH : Holds σ [] [] τ := hH
    refine awp_seq ?_
    refine awp_seq ?_
    refine awp_region rfl ?_
    refine wpo_mv (a := (eI c1)) rfl rfl rfl (o_mv tk rfl (Wk.refl _)) ?_
    refine wpo_mv (a := ((eL 5 e_api_Entry) x0)) rfl rfl rfl (o_mv tk rfl (Wk.refl _)) ?_
    refine wpo_lt H10 eI rfl rfl rfl (o_len tk td60 rfl) fun v12 H11 => ?_
    refine wpo_lt H11 eB rfl rfl rfl (o_ar tk rfl rfl rfl) fun v14 H13 => ?_
    refine wpo_nil ?_
    refine awp_if H13 rfl (fun H15 => ?_) (fun H15 => ?_)
    · refine awp_skip ?_
      refine awp_seq ?_
      refine awp_block ?_
      refine awp_seq ?_
      obtain ⟨s16, hs18, hj19⟩ := Option.bind_eq_some_iff.1 H15
      refine awp_cutn (fun fr τ => WkF fr (fm [(0, ((eL 5 e_api_Entry) x0)), (3, (eI c1)), (26, (eB s16))]) ∧ Holds σ [] [] τ) ?_ ?_
      · rintro fr τ ⟨hfr, hH⟩
        have H33 := hj19
        refine AWP.fm [(0, ((eL 5 e_api_Entry) x0)), (3, (eI c1)), (26, (eB s16))] hfr ?_
        refine awp_if H33 rfl (fun H34 => ?_) (fun H34 => ?_)
        · refine awp_seq ?_
          refine awp_region rfl ?_
          refine wpo_mv (a := (eB false)) rfl rfl rfl (o_as tk rfl (Wk.refl _)) ?_
          refine wpo_nil ?_
          refine awp_ret ?_
          have hz := hy8 _ (inj_inr H34)
          refine ⟨⟨_, inj_inr H34⟩, ?_⟩
          rw [← hz] at hj4
          have H35 := (show some _ = some _ from hj4)
          obtain rfl := Option.some.inj H35
          exact ⟨_, (eB false), rfl, (.of_eq rfl), .of_eq ((enc_b td4 sz4).cut _ _ _), hH.noT⟩
        · refine awp_skip ?_
          refine awp_region rfl ?_
          refine wpo_mv (a := (eI c1)) rfl rfl rfl (o_mv tk rfl (Wk.refl _)) ?_
          refine wpo_lt H34 eI rfl rfl rfl (o_ar tk rfl rfl rfl) fun v37 H36 => ?_
          refine wpo_mv (a := (eI v37)) rfl rfl rfl (o_as tk rfl (Wk.refl _)) ?_
          refine wpo_nil ?_
          exact ⟨v37, inj_inl H36, (wkf_cons (.of_eq rfl) (wkf_cons (.of_eq rfl) (wkf_nil _))), hH⟩
      · refine awp_region rfl ?_
        refine wpo_mv (a := ((eL 5 e_api_Entry) x0)) rfl rfl rfl (o_mv tk rfl (Wk.refl _)) ?_
        refine wpo_mv (a := (eI c1)) rfl rfl rfl (o_mv tk rfl (Wk.refl _)) ?_
        refine wpo_bd hs18 (fun y => .fptr (e_api_Entry y).cells 0) rfl rfl rfl (fun v21 hv => o_ixa tk hv td60 enc24 rfl rfl) fun v21 hv21 H20 => ?_
        refine wpo_mv (a := (e_api_Entry v21)) rfl rfl rfl (o_ld_e tk enc24 rfl rfl) ?_
        refine wpo_bd H20 eI rfl rfl rfl (fun v23 hv => OpP.of_call rfl rfl (.cons (.of_eq rfl) .nil) (butteryref06_Check_ok hv)) fun v23 hv23 H22 => ?_
        refine wpo_lt H22 eB rfl rfl rfl (o_ar tk rfl rfl rfl) fun v25 H24 => ?_
        refine wpo_mv (a := (eB v25)) rfl rfl rfl (o_mv tk rfl (Wk.refl _)) ?_
        refine if_split H24 (fun hb H26 => ?_) (fun hb H26 => ?_)
        · subst hb
          refine wpo_skip rfl rfl rfl ?_
          refine wpo_skip rfl rfl rfl ?_
          refine wpo_skip rfl rfl rfl ?_
          refine wpo_skip rfl rfl rfl ?_
          refine wpo_skip rfl rfl rfl ?_
          refine wpo_skip rfl rfl rfl ?_
          refine wpo_skip rfl rfl rfl ?_
          refine wpo_skip rfl rfl rfl ?_
          refine wpo_skip rfl rfl rfl ?_
          refine wpo_mv (a := (eB true)) rfl rfl rfl (o_pick_t tk rfl rfl (Wk.refl _)) ?_
          refine wpo_nil ?_
          have e := Option.some.inj H26
          subst e
          exact ⟨(wkf_cons (.of_eq rfl) (wkf_cons (.of_eq rfl) (wkf_cons (.of_eq rfl) (wkf_nil _)))), hH⟩
        · subst hb
          refine wpo_mv (a := ((eL 5 e_api_Entry) x0)) rfl rfl rfl (o_mv tk rfl (Wk.refl _)) ?_
          refine wpo_mv (a := ((eL 5 e_api_Entry) x0)) rfl rfl rfl (o_mv tk rfl (Wk.refl _)) ?_
          refine wpo_mv (a := (eI c1)) rfl rfl rfl (o_mv tk rfl (Wk.refl _)) ?_
          refine wpo_bd H26 (fun y => .fptr (e_api_Entry y).cells 0) rfl rfl rfl (fun v28 hv => o_ixa tk hv td60 enc24 rfl rfl) fun v28 hv28 H27 => ?_
          refine wpo_mv (a := (.fptr (c_api_Entry v28) 0)) rfl rfl rfl (o_c tk false rfl (fun _ => rfl)) ?_
          refine wpo_mv (a := (eS v28.Key)) rfl rfl rfl (o_ld tk rfl rfl) ?_
          refine wpo_bd H27 eI rfl rfl rfl (fun v30 hv => OpP.of_call rfl rfl (.cons (.of_eq rfl) (.cons (.of_eq rfl) .nil)) (butteryref06_Find_ok hv)) fun v30 hv30 H29 => ?_
          refine wpo_mv (a := (eI c1)) rfl rfl rfl (o_mv tk rfl (Wk.refl _)) ?_
          refine wpo_lt H29 eB rfl rfl rfl (o_ar tk rfl rfl rfl) fun v32 H31 => ?_
          refine wpo_mv (a := (eB v32)) rfl rfl rfl (o_pick_f tk rfl rfl (Wk.refl _)) ?_
          refine wpo_nil ?_
          have e := Option.some.inj H31
          subst e
          exact ⟨(wkf_cons (.of_eq rfl) (wkf_cons (.of_eq rfl) (wkf_cons (.of_eq rfl) (wkf_nil _)))), hH⟩
    · refine awp_exit ?_
      have hz := hy8 _ (inj_inr H15)
      exact ⟨⟨_, inj_inr H15⟩, (), hz.symm, (wkf_nil _), hH⟩
end Go.Proofs.YtkmlinaofbcbaaaDoor
namespace Go.Proofs.YtkmlinaofbcbaaaDoor
open Go Go.Va
set_option linter.unusedVariables false
set_option linter.unusedSimpArgs false
set_option maxRecDepth 20000
theorem butteryref02_num_app {x0 : Int} {r : (List (BitVec 8))} (H : butteryref02_num x0 = some r) (σ : St)  : ACall Tryd.prog 117 [(eI x0)] σ (fun a τ => a = .sl (.own σ.opn.length) 1 (r.map (@eU .u8 8)) ∧ τ = σ.more) := by
  unfold butteryref02_num at H
  refine ACall.app (fun ρ κ => cutL_enc (enc_u td5 sz5).cut ρ κ r) (acall_start tk Tryd.func117 (by decide) rfl (Nat.le_of_ble_eq_true rfl) ?_)
  have hH := Holds.init σ
  refine awp_seq ?_
  refine awp_region rfl ?_
  refine wpo_mv (a := AV.nils) rfl rfl rfl (o_as tk rfl (Wk.refl _)) ?_
  refine wpo_nil ?_
  refine awp_seq ?_
  refine awp_region rfl ?_
  refine wpo_mv (a := (eI x0)) rfl rfl rfl (o_mv tk rfl (Wk.refl _)) ?_
  refine wpo_lt H eI rfl rfl rfl (o_rem tk (z := (128 : Int)) rfl rfl rfl) fun v2 H1 => ?_
  refine wpo_lt H1 (@eU .u8 8) rfl rfl rfl (o_cv_iu tk td3 td5 rfl rfl) fun v4 H3 => ?_
  refine wpo_lt H3 (eF 1 (@eU .u8 8)) rfl rfl rfl (o_c tk false rfl (fun _ => rfl)) fun v6 H5 => ?_
  refine wpo_mv (a := (eF 1 (@eU .u8 8) v6)) rfl rfl rfl (o_as tk rfl (Wk.refl _)) ?_
  refine wpo_nil ?_
  refine awp_seq ?_
  refine awp_seq ?_
  refine awp_region rfl ?_
  refine wpo_mv (a := (eI x0)) rfl rfl rfl (o_mv tk rfl (Wk.refl _)) ?_
  refine wpo_lt H5 eI rfl rfl rfl (o_quo tk (z := (128 : Int)) rfl rfl rfl) fun v8 H7 => ?_
  refine wpo_mv (a := (eI v8)) rfl rfl rfl (o_as tk rfl (Wk.refl _)) ?_
  refine wpo_nil ?_
  refine awp_block ?_
  refine AWP.tokF hH 3 rfl fun tk11 τ hH => ?_
  obtain ⟨s19, hs13, hj14⟩ := Option.bind_eq_some_iff.1 H7
  refine awp_cutx 0 (fun fr τ => ∃ tk_3, WkF fr (fm [(3, (eT tk_3 1 (@eU .u8 8) s19))]) ∧ Holds σ [] [tk_3] τ) ?_ ?_
  · rintro fr τ ⟨tk_3, hfr, hH⟩
    have H38 := hj14
    refine AWP.fm [(3, (eT tk_3 1 (@eU .u8 8) s19))] hfr ?_
    refine awp_seq ?_
    refine awp_region rfl ?_
    refine wpo_mv (a := (eT tk_3 1 (@eU .u8 8) s19)) rfl rfl rfl (o_mv tk rfl (Wk.refl _)) ?_
    refine wpo_mv (a := (eT tk_3 1 (@eU .u8 8) s19)) rfl rfl rfl (o_as tk rfl (Wk.refl _)) ?_
    refine wpo_nil ?_
    refine awp_ret ?_
    obtain rfl := Option.some.inj H38
    exact ⟨_, (eT tk_3 1 (@eU .u8 8) s19), rfl, .of_eq rfl, tk_3, rfl, hH⟩
  · refine awp_loopO (body := fun s => butteryref02_num_b0 s.1 s.2) hs13 (fun (s : (List (BitVec 8)) × Int) fr τ => ∃ tk_3, WkF fr (fm [(3, (eT tk_3 1 (@eU .u8 8) s.1)), (4, (eI s.2))]) ∧ Holds σ [] [tk_3] τ) ⟨tk11, (wkf_cons (.of_eq rfl) (wkf_cons (.of_eq rfl) (wkf_nil _))), hH⟩ ?_
    rintro ⟨c9, c10⟩ fr τ y15 ⟨tk_3, hfr, hH⟩ hb17 hy18
    have H20 : butteryref02_num_b0 c9 c10 = some y15 := hb17
    unfold butteryref02_num_b0 at H20
    refine AWP.fm [(3, (eT tk_3 1 (@eU .u8 8) c9)), (4, (eI c10))] hfr ?_
    have hH : Holds σ [] [tk_3] τ := hH
    refine awp_seq ?_
    refine awp_seq ?_
    refine awp_region rfl ?_
    refine wpo_mv (a := (eI c10)) rfl rfl rfl (o_mv tk rfl (Wk.refl _)) ?_
    refine wpo_lt H20 eB rfl rfl rfl (o_ar tk rfl rfl rfl) fun v22 H21 => ?_
    refine wpo_nil ?_
    refine awp_if H21 rfl (fun H23 => ?_) (fun H23 => ?_)
    · refine awp_skip ?_
      refine awp_seq ?_
      refine awp_block ?_
      refine awp_seq ?_
      refine awp_region rfl ?_
      refine wpo_mv (a := (eI c10)) rfl rfl rfl (o_mv tk rfl (Wk.refl _)) ?_
      refine wpo_lt H23 eI rfl rfl rfl (o_rem tk (z := (128 : Int)) rfl rfl rfl) fun v25 H24 => ?_
      refine wpo_lt H24 eI rfl rfl rfl (o_ar tk rfl rfl rfl) fun v27 H26 => ?_
      refine wpo_lt H26 (@eU .u8 8) rfl rfl rfl (o_cv_iu tk td3 td5 rfl rfl) fun v29 H28 => ?_
      refine wpo_lt H28 (eF 1 (@eU .u8 8)) rfl rfl rfl (o_c tk false rfl (fun _ => rfl)) fun v31 H30 => ?_
      refine wpo_mv (a := (eF 1 (@eU .u8 8) v31)) rfl rfl rfl (o_as tk rfl (Wk.refl _)) ?_
      refine wpo_nil ?_
      refine awp_region rfl ?_
      refine wpo_mv (a := (eF 1 (@eU .u8 8) v31)) rfl rfl rfl (o_mv tk rfl (Wk.refl _)) ?_
      refine wpo_mv (a := (eT tk_3 1 (@eU .u8 8) c9)) rfl rfl rfl (o_mv tk rfl (Wk.refl _)) ?_
      obtain ⟨v33, hv34, H32⟩ := Option.bind_eq_some_iff.1 H30
      refine wpo_a (av := fun t => eT t 1 (@eU .u8 8) v33) rfl rfl rfl (h_app0 tk hH hv34 td22 ty5 rfl (by decide) (.inr rfl) (src_l td22 rfl)) fun tk35 τ hH => ?_
      refine wpo_mv (a := (eT tk35 1 (@eU .u8 8) v33)) rfl rfl rfl (o_as tk rfl (Wk.refl _)) ?_
      refine wpo_nil ?_
      refine awp_region rfl ?_
      refine wpo_mv (a := (eI c10)) rfl rfl rfl (o_mv tk rfl (Wk.refl _)) ?_
      refine wpo_lt H32 eI rfl rfl rfl (o_quo tk (z := (128 : Int)) rfl rfl rfl) fun v37 H36 => ?_
      refine wpo_mv (a := (eI v37)) rfl rfl rfl (o_as tk rfl (Wk.refl _)) ?_
      refine wpo_nil ?_
      exact ⟨(v33, v37), inj_inl H36, tk35, (wkf_cons (.of_eq rfl) (wkf_cons (.of_eq rfl) (wkf_nil _))), (hH.sub (.cons_cons _ (.cons _ .slnil)))⟩
    · refine awp_exit ?_
      have hz := hy18 _ (inj_inr H23)
      subst hz
      exact ⟨⟨_, inj_inr H23⟩, tk_3, (wkf_cons (.of_eq rfl) (wkf_nil _)), hH⟩
theorem butteryref02_num_ok {x0 : Int} {r : (List (BitVec 8))} (H : butteryref02_num x0 = some r) (σ : St) : ACall Tryd.prog 117 [(eI x0)] σ (fun a τ => a = (eL 1 (@eU .u8 8)) r ∧ τ = σ) := (butteryref02_num_app H σ).unapp (fun ρ κ => cutL_enc (enc_u td5 sz5).cut ρ κ r)
end Go.Proofs.YtkmlinaofbcbaaaDoor
namespace Go.Proofs.YtkmlinaofbcbaaaDoor
open Go Go.Va
set_option linter.unusedVariables false
set_option linter.unusedSimpArgs false
set_option maxRecDepth 20000
theorem butteryref02_Put_app {x0 : List (BitVec 8)} {x1 : List Int} {r : (List (BitVec 8))} (H : butteryref02_Put x0 x1 = some r) (σ : St)  : ACall Tryd.prog 64 [((eL 1 (@eU .u8 8)) x0), ((eL 1 eI) x1)] σ (fun a τ => a = .sl (.own σ.opn.length) 1 (r.map (@eU .u8 8)) ∧ τ = σ.more) := by
  unfold butteryref02_Put at H
  refine ACall.app (fun ρ κ => cutL_enc (enc_u td5 sz5).cut ρ κ r) (acall_start tk Tryd.func64 (by decide) rfl (Nat.le_of_ble_eq_true rfl) ?_)
  have hH := Holds.init σ
  refine awp_seq ?_
  refine awp_region rfl ?_
  refine wpo_mv (a := AV.nils) rfl rfl rfl (o_as tk rfl (Wk.refl _)) ?_
  refine wpo_nil ?_
  refine awp_seq ?_
  refine awp_region rfl ?_
  refine wpo_mv (a := AV.nils) rfl rfl rfl (o_as tk rfl (Wk.refl _)) ?_
  refine wpo_nil ?_
  refine awp_seq ?_
  refine awp_region rfl ?_
  refine wpo_mv (a := AV.nils) rfl rfl rfl (o_mv tk rfl (Wk.refl _)) ?_
  refine wpo_mv (a := ((eL 1 (@eU .u8 8)) x0)) rfl rfl rfl (o_mv tk rfl (Wk.refl _)) ?_
  obtain ⟨v2, hv3, H1⟩ := Option.bind_eq_some_iff.1 H
  refine wpo_a (av := fun t => eT t 1 (@eU .u8 8) v2) rfl rfl rfl (h_app0 tk hH hv3 td22 ty5 rfl (by decide) (.inl ⟨rfl, rfl⟩) (src_l td22 rfl)) fun tk4 τ hH => ?_
  refine wpo_mv (a := (eT tk4 1 (@eU .u8 8) v2)) rfl rfl rfl (o_as tk rfl (Wk.refl _)) ?_
  refine wpo_nil ?_
  refine awp_seq ?_
  refine awp_seq ?_
  refine awp_region rfl ?_
  refine wpo_mv (a := (eI (0 : Int))) rfl rfl rfl (o_as tk rfl (Wk.refl _)) ?_
  refine wpo_nil ?_
  refine awp_block ?_
  obtain ⟨s14, hs8, hj9⟩ := Option.bind_eq_some_iff.1 H1
  refine awp_cutx 0 (fun fr τ => ∃ tk_5, WkF fr (fm [(5, (eT tk_5 1 (@eU .u8 8) s14))]) ∧ Holds σ [] [tk_5] τ) ?_ ?_
  · rintro fr τ ⟨tk_5, hfr, hH⟩
    have H31 := hj9
    refine AWP.fm [(5, (eT tk_5 1 (@eU .u8 8) s14))] hfr ?_
    refine awp_seq ?_
    refine awp_region rfl ?_
    refine wpo_mv (a := (eT tk_5 1 (@eU .u8 8) s14)) rfl rfl rfl (o_mv tk rfl (Wk.refl _)) ?_
    refine wpo_mv (a := (eT tk_5 1 (@eU .u8 8) s14)) rfl rfl rfl (o_as tk rfl (Wk.refl _)) ?_
    refine wpo_nil ?_
    refine awp_ret ?_
    obtain rfl := Option.some.inj H31
    exact ⟨_, (eT tk_5 1 (@eU .u8 8) s14), rfl, .of_eq rfl, tk_5, rfl, hH⟩
  · refine awp_loopO (body := fun s => butteryref02_Put_b0 x1 s.1 s.2) hs8 (fun (s : (List (BitVec 8)) × Int) fr τ => ∃ tk_5, WkF fr (fm [(1, ((eL 1 eI) x1)), (5, (eT tk_5 1 (@eU .u8 8) s.1)), (6, (eI s.2))]) ∧ Holds σ [] [tk_5] τ) ⟨tk4, (wkf_cons (.of_eq rfl) (wkf_cons (.of_eq rfl) (wkf_cons (.of_eq rfl) (wkf_nil _)))), hH⟩ ?_
    rintro ⟨c5, c6⟩ fr τ y10 ⟨tk_5, hfr, hH⟩ hb12 hy13
    have H15 : butteryref02_Put_b0 x1 c5 c6 = some y10 := hb12
    unfold butteryref02_Put_b0 at H15
    refine AWP.fm [(1, ((eL 1 eI) x1)), (5, (eT tk_5 1 (@eU .u8 8) c5)), (6, (eI c6))] hfr ?_
    have hH : Holds σ [] [tk_5] τ := hH
    refine awp_seq ?_
    refine awp_seq ?_
    refine awp_region rfl ?_
    refine wpo_mv (a := (eI c6)) rfl rfl rfl (o_mv tk rfl (Wk.refl _)) ?_
    refine wpo_mv (a := ((eL 1 eI) x1)) rfl rfl rfl (o_mv tk rfl (Wk.refl _)) ?_
    refine wpo_lt H15 eI rfl rfl rfl (o_len tk td51 rfl) fun v17 H16 => ?_
    refine wpo_lt H16 eB rfl rfl rfl (o_ar tk rfl rfl rfl) fun v19 H18 => ?_
    refine wpo_nil ?_
    refine awp_if H18 rfl (fun H20 => ?_) (fun H20 => ?_)
    · refine awp_skip ?_
      refine awp_seq ?_
      refine awp_block ?_
      refine awp_region rfl ?_
      refine wpo_mv (a := (eT tk_5 1 (@eU .u8 8) c5)) rfl rfl rfl (o_mv tk rfl (Wk.refl _)) ?_
      refine wpo_mv (a := ((eL 1 eI) x1)) rfl rfl rfl (o_mv tk rfl (Wk.refl _)) ?_
      refine wpo_mv (a := (eI c6)) rfl rfl rfl (o_mv tk rfl (Wk.refl _)) ?_
      refine wpo_bd H20 (fun y => .fptr (eI y).cells 0) rfl rfl rfl (fun v22 hv => o_ixa tk hv td51 (enc_i64 td3 sz3) rfl rfl) fun v22 hv22 H21 => ?_
      refine wpo_mv (a := (eI v22)) rfl rfl rfl (o_ld_e tk (enc_i64 td3 sz3) rfl rfl) ?_
      refine wpo_bd H21 (eL 1 (@eU .u8 8)) rfl rfl rfl (fun v24 hv => OpP.of_call rfl rfl (.cons (.of_eq rfl) .nil) (butteryref02_num_ok hv)) fun v24 hv24 H23 => ?_
      obtain ⟨v26, hv27, H25⟩ := Option.bind_eq_some_iff.1 H23
      refine wpo_a (av := fun t => eT t 1 (@eU .u8 8) v26) rfl rfl rfl (h_app tk hH 0 hv27 rfl td22 ty5 rfl (by decide) rfl (src_l td22 rfl)) fun tk28 τ hH => ?_
      refine wpo_mv (a := (eT tk28 1 (@eU .u8 8) v26)) rfl rfl rfl (o_as tk rfl (Wk.refl _)) ?_
      refine wpo_nil ?_
      refine awp_region rfl ?_
      refine wpo_mv (a := (eI c6)) rfl rfl rfl (o_mv tk rfl (Wk.refl _)) ?_
      refine wpo_lt H25 eI rfl rfl rfl (o_ar tk rfl rfl rfl) fun v30 H29 => ?_
      refine wpo_mv (a := (eI v30)) rfl rfl rfl (o_as tk rfl (Wk.refl _)) ?_
      refine wpo_nil ?_
      exact ⟨(v26, v30), inj_inl H29, tk28, (wkf_cons (.of_eq rfl) (wkf_cons (.of_eq rfl) (wkf_cons (.of_eq rfl) (wkf_nil _)))), hH⟩
    · refine awp_exit ?_
      have hz := hy13 _ (inj_inr H20)
      subst hz
      exact ⟨⟨_, inj_inr H20⟩, tk_5, (wkf_cons (.of_eq rfl) (wkf_nil _)), hH⟩
theorem butteryref02_Put_ok {x0 : List (BitVec 8)} {x1 : List Int} {r : (List (BitVec 8))} (H : butteryref02_Put x0 x1 = some r) (σ : St) : ACall Tryd.prog 64 [((eL 1 (@eU .u8 8)) x0), ((eL 1 eI) x1)] σ (fun a τ => a = (eL 1 (@eU .u8 8)) r ∧ τ = σ) := (butteryref02_Put_app H σ).unapp (fun ρ κ => cutL_enc (enc_u td5 sz5).cut ρ κ r)
end Go.Proofs.YtkmlinaofbcbaaaDoor
namespace Go.Proofs.YtkmlinaofbcbaaaDoor
open Go Go.Va
set_option linter.unusedVariables false
set_option linter.unusedSimpArgs false
set_option maxRecDepth 20000
theorem butteryref02_Bytes_app {x0 : List (BitVec 8)} {x1 : List (BitVec 8)} {r : (List (BitVec 8))} (H : butteryref02_Bytes x0 x1 = some r) (σ : St)  : ACall Tryd.prog 67 [((eL 1 (@eU .u8 8)) x0), ((eL 1 (@eU .u8 8)) x1)] σ (fun a τ => a = .sl (.own σ.opn.length) 1 (r.map (@eU .u8 8)) ∧ τ = σ.more) := by
  unfold butteryref02_Bytes at H
  refine ACall.app (fun ρ κ => cutL_enc (enc_u td5 sz5).cut ρ κ r) (acall_start tk Tryd.func67 (by decide) rfl (Nat.le_of_ble_eq_true rfl) ?_)
  have hH := Holds.init σ
  refine awp_seq ?_
  refine awp_region rfl ?_
  refine wpo_mv (a := AV.nils) rfl rfl rfl (o_as tk rfl (Wk.refl _)) ?_
  refine wpo_nil ?_
  refine awp_seq ?_
  refine awp_region rfl ?_
  refine wpo_mv (a := ((eL 1 (@eU .u8 8)) x0)) rfl rfl rfl (o_mv tk rfl (Wk.refl _)) ?_
  refine wpo_mv (a := ((eL 1 (@eU .u8 8)) x1)) rfl rfl rfl (o_mv tk rfl (Wk.refl _)) ?_
  refine wpo_lt H eI rfl rfl rfl (o_len tk td22 rfl) fun v2 H1 => ?_
  refine wpo_lt H1 (eF 1 eI) rfl rfl rfl (o_c tk false rfl (fun _ => rfl)) fun v4 H3 => ?_
  refine wpo_cb H3 (fun x t => eT t 1 (@eU .u8 8) x) rfl rfl rfl (fun v6 hv => h_calla hH rfl rfl (.cons (.of_eq rfl) (.cons wk_no .nil)) (butteryref02_Put_app hv _)) fun v6 tk7 τ hv6 H5 hH => ?_
  refine wpo_mv (a := ((eL 1 (@eU .u8 8)) x1)) rfl rfl rfl (o_mv tk rfl (Wk.refl _)) ?_
  obtain ⟨v9, hv10, H8⟩ := Option.bind_eq_some_iff.1 H5
  refine wpo_a (av := fun t => eT t 1 (@eU .u8 8) v9) rfl rfl rfl (h_app tk hH 0 hv10 rfl td22 ty5 rfl (by decide) rfl (src_l td22 rfl)) fun tk11 τ hH => ?_
  refine wpo_mv (a := (eT tk11 1 (@eU .u8 8) v9)) rfl rfl rfl (o_as tk rfl (Wk.refl _)) ?_
  refine wpo_nil ?_
  refine awp_ret ?_
  obtain rfl := Option.some.inj H8
  exact ⟨_, (eT tk11 1 (@eU .u8 8) v9), rfl, .of_eq rfl, tk11, rfl, hH⟩
theorem butteryref02_Bytes_ok {x0 : List (BitVec 8)} {x1 : List (BitVec 8)} {r : (List (BitVec 8))} (H : butteryref02_Bytes x0 x1 = some r) (σ : St) : ACall Tryd.prog 67 [((eL 1 (@eU .u8 8)) x0), ((eL 1 (@eU .u8 8)) x1)] σ (fun a τ => a = (eL 1 (@eU .u8 8)) r ∧ τ = σ) := (butteryref02_Bytes_app H σ).unapp (fun ρ κ => cutL_enc (enc_u td5 sz5).cut ρ κ r)
end Go.Proofs.YtkmlinaofbcbaaaDoor
namespace Go.Proofs.YtkmlinaofbcbaaaDoor
open Go Go.Va
set_option linter.unusedVariables false
set_option linter.unusedSimpArgs false
set_option maxRecDepth 20000
theorem butteryref06_Put_app {x0 : List (BitVec 8)} {x1 : api_Entry} {r : (List (BitVec 8))} (H : butteryref06_Put x0 x1 = some r) (σ : St)  : ACall Tryd.prog 110 [((eL 1 (@eU .u8 8)) x0), (e_api_Entry x1)] σ (fun a τ => a = .sl (.own σ.opn.length) 1 (r.map (@eU .u8 8)) ∧ τ = σ.more) := by
  unfold butteryref06_Put at H
  refine ACall.app (fun ρ κ => cutL_enc (enc_u td5 sz5).cut ρ κ r) (acall_start tk Tryd.func110 (by decide) rfl (Nat.le_of_ble_eq_true rfl) ?_)
  have hH := Holds.init σ
  refine awp_seq ?_
  refine awp_region rfl ?_
  refine wpo_mv (a := (.fptr (c_api_Entry x1) 0)) rfl rfl rfl (o_boxf tk rfl (.of_eq rfl) (b := (e_api_Entry x1)) (enc24.flat _)) ?_
  refine wpo_mv (a := AV.nils) rfl rfl rfl (o_as tk rfl (Wk.refl _)) ?_
  refine wpo_nil ?_
  refine awp_seq ?_
  refine awp_region rfl ?_
  refine wpo_mv (a := ((eL 1 (@eU .u8 8)) x0)) rfl rfl rfl (o_mv tk rfl (Wk.refl _)) ?_
  refine wpo_mv (a := (.fptr (c_api_Entry x1) 0)) rfl rfl rfl (o_c tk false rfl (fun _ => rfl)) ?_
  refine wpo_mv (a := (eS x1.Key)) rfl rfl rfl (o_ld tk rfl rfl) ?_
  refine wpo_bd H (eL 1 (@eU .u8 8)) rfl rfl rfl (fun v2 hv => o_s2b tk hv td9 td22 td5 rfl) fun v2 hv2 H1 => ?_
  refine wpo_bd H1 (eL 1 (@eU .u8 8)) rfl rfl rfl (fun v4 hv => OpP.of_call rfl rfl (.cons (.of_eq rfl) (.cons (.of_eq rfl) .nil)) (butteryref02_Bytes_ok hv)) fun v4 hv4 H3 => ?_
  refine wpo_mv (a := ((eL 1 (@eU .u8 8)) v4)) rfl rfl rfl (o_as tk rfl (Wk.refl _)) ?_
  refine wpo_nil ?_
  refine awp_seq ?_
  refine awp_region rfl ?_
  refine wpo_mv (a := ((eL 1 (@eU .u8 8)) v4)) rfl rfl rfl (o_mv tk rfl (Wk.refl _)) ?_
  refine wpo_mv (a := (.fptr (c_api_Entry x1) 1)) rfl rfl rfl (o_c tk false rfl (fun _ => rfl)) ?_
  refine wpo_mv (a := (eI x1.Version)) rfl rfl rfl (o_ld tk rfl rfl) ?_
  refine wpo_mv (a := (.fptr (c_api_Entry x1) 2)) rfl rfl rfl (o_c tk false rfl (fun _ => rfl)) ?_
  refine wpo_mv (a := (eI x1.AsOf)) rfl rfl rfl (o_ld tk rfl rfl) ?_
  refine wpo_mv (a := (.fptr (c_api_Entry x1) 3)) rfl rfl rfl (o_c tk false rfl (fun _ => rfl)) ?_
  refine wpo_mv (a := (eI x1.Ends)) rfl rfl rfl (o_ld tk rfl rfl) ?_
  refine wpo_lt H3 (eF 1 eI) rfl rfl rfl (o_c tk false rfl (fun _ => rfl)) fun v6 H5 => ?_
  refine wpo_bd H5 (eL 1 (@eU .u8 8)) rfl rfl rfl (fun v8 hv => OpP.of_call rfl rfl (.cons (.of_eq rfl) (.cons wk_no .nil)) (butteryref02_Put_ok hv)) fun v8 hv8 H7 => ?_
  refine wpo_mv (a := ((eL 1 (@eU .u8 8)) v8)) rfl rfl rfl (o_as tk rfl (Wk.refl _)) ?_
  refine wpo_nil ?_
  refine awp_seq ?_
  refine awp_region rfl ?_
  refine wpo_mv (a := ((eL 1 (@eU .u8 8)) v8)) rfl rfl rfl (o_mv tk rfl (Wk.refl _)) ?_
  refine wpo_mv (a := (.fptr (c_api_Entry x1) 4)) rfl rfl rfl (o_c tk false rfl (fun _ => rfl)) ?_
  refine wpo_mv (a := ((eL 1 (@eU .u8 8)) x1.Value)) rfl rfl rfl (o_ld tk rfl rfl) ?_
  refine wpo_cb H7 (fun x t => eT t 1 (@eU .u8 8) x) rfl rfl rfl (fun v10 hv => h_calla hH rfl rfl (.cons (.of_eq rfl) (.cons (.of_eq rfl) .nil)) (butteryref02_Bytes_app hv _)) fun v10 tk11 τ hv10 H9 hH => ?_
  refine wpo_mv (a := (eT tk11 1 (@eU .u8 8) v10)) rfl rfl rfl (o_as tk rfl (Wk.refl _)) ?_
  refine wpo_nil ?_
  refine awp_ret ?_
  obtain rfl := Option.some.inj H9
  exact ⟨_, (eT tk11 1 (@eU .u8 8) v10), rfl, .of_eq rfl, tk11, rfl, hH⟩
theorem butteryref06_Put_ok {x0 : List (BitVec 8)} {x1 : api_Entry} {r : (List (BitVec 8))} (H : butteryref06_Put x0 x1 = some r) (σ : St) : ACall Tryd.prog 110 [((eL 1 (@eU .u8 8)) x0), (e_api_Entry x1)] σ (fun a τ => a = (eL 1 (@eU .u8 8)) r ∧ τ = σ) := (butteryref06_Put_app H σ).unapp (fun ρ κ => cutL_enc (enc_u td5 sz5).cut ρ κ r)
end Go.Proofs.YtkmlinaofbcbaaaDoor
namespace Go.Proofs.YtkmlinaofbcbaaaDoor
open Go Go.Va
set_option linter.unusedVariables false
set_option linter.unusedSimpArgs false
set_option maxRecDepth 20000
theorem butteryref06_Size_ok {x0 : api_Entry} {r : Int} (H : butteryref06_Size x0 = some r) (σ : St)  : ACall Tryd.prog 102 [(e_api_Entry x0)] σ (fun a τ => a = eI r ∧ τ = σ) := by
  unfold butteryref06_Size at H
  refine ACall.pure (acall_start tk Tryd.func102 (by decide) rfl (Nat.le_of_ble_eq_true rfl) ?_)
  have hH := Holds.init σ
  refine awp_seq ?_
  refine awp_region rfl ?_
  refine wpo_mv (a := (.fptr (c_api_Entry x0) 0)) rfl rfl rfl (o_boxf tk rfl (.of_eq rfl) (b := (e_api_Entry x0)) (enc24.flat _)) ?_
  refine wpo_mv (a := (eI (0 : Int))) rfl rfl rfl (o_as tk rfl (Wk.refl _)) ?_
  refine wpo_nil ?_
  refine awp_seq ?_
  refine awp_region rfl ?_
  refine wpo_mv (a := (e_api_Entry x0)) rfl rfl rfl (o_ld tk rfl rfl) ?_
  refine wpo_bd H (eL 1 (@eU .u8 8)) rfl rfl rfl (fun v2 hv => OpP.of_call rfl rfl (.cons (wk_nils _) (.cons (.of_eq rfl) .nil)) (butteryref06_Put_ok hv)) fun v2 hv2 H1 => ?_
  refine wpo_lt H1 eI rfl rfl rfl (o_len tk td22 rfl) fun v4 H3 => ?_
  refine wpo_mv (a := (eI v4)) rfl rfl rfl (o_as tk rfl (Wk.refl _)) ?_
  refine wpo_nil ?_
  refine awp_ret ?_
  obtain rfl := Option.some.inj H3
  exact ⟨_, (eI v4), rfl, (.of_eq rfl), .of_eq ((enc_i64 td3 sz3).cut _ _ _), hH.noT⟩
end Go.Proofs.YtkmlinaofbcbaaaDoor
namespace Go.Proofs.YtkmlinaofbcbaaaDoor
open Go Go.Va
set_option linter.unusedVariables false
set_option linter.unusedSimpArgs false
set_option maxRecDepth 20000
theorem butteryref12_But_app {x0 : List api_Entry} {x1 : List (BitVec 8)} {r : (List api_Entry)} (H : butteryref12_But x0 x1 = some r) (σ : St)  : ACall Tryd.prog 48 [((eL 5 e_api_Entry) x0), (eS x1)] σ (fun a τ => a = .sl (.own σ.opn.length) 5 (r.map e_api_Entry) ∧ τ = σ.more) := by
  unfold butteryref12_But at H
  refine ACall.app (fun ρ κ => cutL_enc enc24.cut ρ κ r) (acall_start tk Tryd.func48 (by decide) rfl (Nat.le_of_ble_eq_true rfl) ?_)
  have hH := Holds.init σ
  refine awp_seq ?_
  refine awp_region rfl ?_
  refine wpo_mv (a := AV.nils) rfl rfl rfl (o_as tk rfl (Wk.refl _)) ?_
  refine wpo_nil ?_
  refine awp_seq ?_
  refine awp_region rfl ?_
  refine wpo_mv (a := AV.nils) rfl rfl rfl (o_as tk rfl (Wk.refl _)) ?_
  refine wpo_nil ?_
  refine awp_seq ?_
  refine awp_seq ?_
  refine awp_region rfl ?_
  refine wpo_mv (a := (eI (0 : Int))) rfl rfl rfl (o_as tk rfl (Wk.refl _)) ?_
  refine wpo_nil ?_
  refine awp_block ?_
  refine AWP.tokN hH 5 5 rfl fun tk3 τ hH => ?_
  obtain ⟨s11, hs5, hj6⟩ := Option.bind_eq_some_iff.1 H
  refine awp_cutx 0 (fun fr τ => ∃ tk_5, WkF fr (fm [(5, (eT tk_5 5 e_api_Entry s11))]) ∧ Holds σ [] [tk_5] τ) ?_ ?_
  · rintro fr τ ⟨tk_5, hfr, hH⟩
    have H35 := hj6
    refine AWP.fm [(5, (eT tk_5 5 e_api_Entry s11))] hfr ?_
    refine awp_seq ?_
    refine awp_region rfl ?_
    refine wpo_mv (a := (eT tk_5 5 e_api_Entry s11)) rfl rfl rfl (o_mv tk rfl (Wk.refl _)) ?_
    refine wpo_mv (a := (eT tk_5 5 e_api_Entry s11)) rfl rfl rfl (o_as tk rfl (Wk.refl _)) ?_
    refine wpo_nil ?_
    refine awp_ret ?_
    obtain rfl := Option.some.inj H35
    exact ⟨_, (eT tk_5 5 e_api_Entry s11), rfl, .of_eq rfl, tk_5, rfl, hH⟩
  · refine awp_loopO (body := fun s => butteryref12_But_b0 x0 x1 s.1 s.2) hs5 (fun (s : (List api_Entry) × Int) fr τ => ∃ tk_5, WkF fr (fm [(0, ((eL 5 e_api_Entry) x0)), (1, (eS x1)), (5, (eT tk_5 5 e_api_Entry s.1)), (6, (eI s.2))]) ∧ Holds σ [] [tk_5] τ) ⟨tk3, (wkf_cons (.of_eq rfl) (wkf_cons (.of_eq rfl) (wkf_cons (.of_eq rfl) (wkf_cons (.of_eq rfl) (wkf_nil _))))), hH⟩ ?_
    rintro ⟨c1, c2⟩ fr τ y7 ⟨tk_5, hfr, hH⟩ hb9 hy10
    have H12 : butteryref12_But_b0 x0 x1 c1 c2 = some y7 := hb9
    unfold butteryref12_But_b0 at H12
    refine AWP.fm [(0, ((eL 5 e_api_Entry) x0)), (1, (eS x1)), (5, (eT tk_5 5 e_api_Entry c1)), (6, (eI c2))] hfr ?_
    have hH : Holds σ [] [tk_5] τ := hH
    refine awp_seq ?_
    refine awp_seq ?_
    refine awp_region rfl ?_
    refine wpo_mv (a := (eI c2)) rfl rfl rfl (o_mv tk rfl (Wk.refl _)) ?_
    refine wpo_mv (a := ((eL 5 e_api_Entry) x0)) rfl rfl rfl (o_mv tk rfl (Wk.refl _)) ?_
    refine wpo_lt H12 eI rfl rfl rfl (o_len tk td60 rfl) fun v14 H13 => ?_
    refine wpo_lt H13 eB rfl rfl rfl (o_ar tk rfl rfl rfl) fun v16 H15 => ?_
    refine wpo_nil ?_
    refine awp_if H15 rfl (fun H17 => ?_) (fun H17 => ?_)
    · refine awp_skip ?_
      refine awp_seq ?_
      refine awp_block ?_
      refine awp_seq ?_
      refine awp_region rfl ?_
      refine wpo_mv (a := ((eL 5 e_api_Entry) x0)) rfl rfl rfl (o_mv tk rfl (Wk.refl _)) ?_
      refine wpo_mv (a := (eI c2)) rfl rfl rfl (o_mv tk rfl (Wk.refl _)) ?_
      refine wpo_bd H17 (fun y => .fptr (e_api_Entry y).cells 0) rfl rfl rfl (fun v19 hv => o_ixa tk hv td60 enc24 rfl rfl) fun v19 hv19 H18 => ?_
      refine wpo_mv (a := (.fptr (c_api_Entry v19) 0)) rfl rfl rfl (o_c tk false rfl (fun _ => rfl)) ?_
      refine wpo_mv (a := (eS v19.Key)) rfl rfl rfl (o_ld tk rfl rfl) ?_
      refine wpo_mv (a := (eS x1)) rfl rfl rfl (o_mv tk rfl (Wk.refl _)) ?_
      refine wpo_lt H18 eB rfl rfl rfl (o_neq_s tk rfl rfl) fun v21 H20 => ?_
      refine wpo_nil ?_
      refine awp_if H20 rfl (fun H22 => ?_) (fun H22 => ?_)
      · refine awp_region rfl ?_
        refine wpo_mv (a := (eT tk_5 5 e_api_Entry c1)) rfl rfl rfl (o_mv tk rfl (Wk.refl _)) ?_
        refine wpo_mv (a := ((eL 5 e_api_Entry) x0)) rfl rfl rfl (o_mv tk rfl (Wk.refl _)) ?_
        refine wpo_mv (a := (eI c2)) rfl rfl rfl (o_mv tk rfl (Wk.refl _)) ?_
        refine wpo_bd H22 (fun y => .fptr (e_api_Entry y).cells 0) rfl rfl rfl (fun v24 hv => o_ixa tk hv td60 enc24 rfl rfl) fun v24 hv24 H23 => ?_
        refine wpo_mv (a := (e_api_Entry v24)) rfl rfl rfl (o_ld_e tk enc24 rfl rfl) ?_
        refine wpo_lt H23 (eF 5 e_api_Entry) rfl rfl rfl (o_c tk false rfl (fun _ => rfl)) fun v26 H25 => ?_
        obtain ⟨v28, hv29, H27⟩ := Option.bind_eq_some_iff.1 H25
        refine wpo_a (av := fun t => eT t 5 e_api_Entry v28) rfl rfl rfl (h_app tk hH 0 hv29 rfl td60 ty24 rfl (by decide) rfl (src_l td60 rfl)) fun tk30 τ hH => ?_
        refine wpo_mv (a := (eT tk30 5 e_api_Entry v28)) rfl rfl rfl (o_as tk rfl (Wk.refl _)) ?_
        refine wpo_nil ?_
        refine awp_region rfl ?_
        refine wpo_mv (a := (eI c2)) rfl rfl rfl (o_mv tk rfl (Wk.refl _)) ?_
        refine wpo_lt H27 eI rfl rfl rfl (o_ar tk rfl rfl rfl) fun v32 H31 => ?_
        refine wpo_mv (a := (eI v32)) rfl rfl rfl (o_as tk rfl (Wk.refl _)) ?_
        refine wpo_nil ?_
        exact ⟨(v28, v32), inj_inl H31, tk30, (wkf_cons (.of_eq rfl) (wkf_cons (.of_eq rfl) (wkf_cons (.of_eq rfl) (wkf_cons (.of_eq rfl) (wkf_nil _))))), hH⟩
      · refine awp_skip ?_
        refine awp_region rfl ?_
        refine wpo_mv (a := (eI c2)) rfl rfl rfl (o_mv tk rfl (Wk.refl _)) ?_
        refine wpo_lt H22 eI rfl rfl rfl (o_ar tk rfl rfl rfl) fun v34 H33 => ?_
        refine wpo_mv (a := (eI v34)) rfl rfl rfl (o_as tk rfl (Wk.refl _)) ?_
        refine wpo_nil ?_
        exact ⟨(c1, v34), inj_inl H33, tk_5, (wkf_cons (.of_eq rfl) (wkf_cons (.of_eq rfl) (wkf_cons (.of_eq rfl) (wkf_cons (.of_eq rfl) (wkf_nil _))))), hH⟩
    · refine awp_exit ?_
      have hz := hy10 _ (inj_inr H17)
      subst hz
      exact ⟨⟨_, inj_inr H17⟩, tk_5, (wkf_cons (.of_eq rfl) (wkf_nil _)), hH⟩
theorem butteryref12_But_ok {x0 : List api_Entry} {x1 : List (BitVec 8)} {r : (List api_Entry)} (H : butteryref12_But x0 x1 = some r) (σ : St) : ACall Tryd.prog 48 [((eL 5 e_api_Entry) x0), (eS x1)] σ (fun a τ => a = (eL 5 e_api_Entry) r ∧ τ = σ) := (butteryref12_But_app H σ).unapp (fun ρ κ => cutL_enc enc24.cut ρ κ r)
end Go.Proofs.YtkmlinaofbcbaaaDoor
namespace Go.Proofs.YtkmlinaofbcbaaaDoor
open Go Go.Va
set_option linter.unusedVariables false
set_option linter.unusedSimpArgs false
set_option maxRecDepth 20000
theorem butteryref06_All_app {x0 : List api_Entry} {r : (List (BitVec 8))} (H : butteryref06_All x0 = some r) (σ : St)  : ACall Tryd.prog 52 [((eL 5 e_api_Entry) x0)] σ (fun a τ => a = .sl (.own σ.opn.length) 1 (r.map (@eU .u8 8)) ∧ τ = σ.more) := by
  unfold butteryref06_All at H
  refine ACall.app (fun ρ κ => cutL_enc (enc_u td5 sz5).cut ρ κ r) (acall_start tk Tryd.func52 (by decide) rfl (Nat.le_of_ble_eq_true rfl) ?_)
  have hH := Holds.init σ
  refine awp_seq ?_
  refine awp_region rfl ?_
  refine wpo_mv (a := AV.nils) rfl rfl rfl (o_as tk rfl (Wk.refl _)) ?_
  refine wpo_nil ?_
  refine awp_seq ?_
  refine awp_region rfl ?_
  refine wpo_mv (a := AV.nils) rfl rfl rfl (o_as tk rfl (Wk.refl _)) ?_
  refine wpo_nil ?_
  refine awp_seq ?_
  refine awp_seq ?_
  refine awp_region rfl ?_
  refine wpo_mv (a := (eI (0 : Int))) rfl rfl rfl (o_as tk rfl (Wk.refl _)) ?_
  refine wpo_nil ?_
  refine awp_block ?_
  refine AWP.tokN hH 3 1 rfl fun tk3 τ hH => ?_
  obtain ⟨s11, hs5, hj6⟩ := Option.bind_eq_some_iff.1 H
  refine awp_cutx 0 (fun fr τ => ∃ tk_3, WkF fr (fm [(3, (eT tk_3 1 (@eU .u8 8) s11))]) ∧ Holds σ [] [tk_3] τ) ?_ ?_
  · rintro fr τ ⟨tk_3, hfr, hH⟩
    have H25 := hj6
    refine AWP.fm [(3, (eT tk_3 1 (@eU .u8 8) s11))] hfr ?_
    refine awp_seq ?_
    refine awp_region rfl ?_
    refine wpo_mv (a := (eT tk_3 1 (@eU .u8 8) s11)) rfl rfl rfl (o_mv tk rfl (Wk.refl _)) ?_
    refine wpo_mv (a := (eT tk_3 1 (@eU .u8 8) s11)) rfl rfl rfl (o_as tk rfl (Wk.refl _)) ?_
    refine wpo_nil ?_
    refine awp_ret ?_
    obtain rfl := Option.some.inj H25
    exact ⟨_, (eT tk_3 1 (@eU .u8 8) s11), rfl, .of_eq rfl, tk_3, rfl, hH⟩
  · refine awp_loopO (body := fun s => butteryref06_All_b0 x0 s.1 s.2) hs5 (fun (s : (List (BitVec 8)) × Int) fr τ => ∃ tk_3, WkF fr (fm [(0, ((eL 5 e_api_Entry) x0)), (3, (eT tk_3 1 (@eU .u8 8) s.1)), (4, (eI s.2))]) ∧ Holds σ [] [tk_3] τ) ⟨tk3, (wkf_cons (.of_eq rfl) (wkf_cons (.of_eq rfl) (wkf_cons (.of_eq rfl) (wkf_nil _)))), hH⟩ ?_
    rintro ⟨c1, c2⟩ fr τ y7 ⟨tk_3, hfr, hH⟩ hb9 hy10
    have H12 : butteryref06_All_b0 x0 c1 c2 = some y7 := hb9
    unfold butteryref06_All_b0 at H12
    refine AWP.fm [(0, ((eL 5 e_api_Entry) x0)), (3, (eT tk_3 1 (@eU .u8 8) c1)), (4, (eI c2))] hfr ?_
    have hH : Holds σ [] [tk_3] τ := hH
    refine awp_seq ?_
    refine awp_seq ?_
    refine awp_region rfl ?_
    refine wpo_mv (a := (eI c2)) rfl rfl rfl (o_mv tk rfl (Wk.refl _)) ?_
    refine wpo_mv (a := ((eL 5 e_api_Entry) x0)) rfl rfl rfl (o_mv tk rfl (Wk.refl _)) ?_
    refine wpo_lt H12 eI rfl rfl rfl (o_len tk td60 rfl) fun v14 H13 => ?_
    refine wpo_lt H13 eB rfl rfl rfl (o_ar tk rfl rfl rfl) fun v16 H15 => ?_
    refine wpo_nil ?_
    refine awp_if H15 rfl (fun H17 => ?_) (fun H17 => ?_)
    · refine awp_skip ?_
      refine awp_seq ?_
      refine awp_block ?_
      refine awp_region rfl ?_
      refine wpo_mv (a := (eT tk_3 1 (@eU .u8 8) c1)) rfl rfl rfl (o_mv tk rfl (Wk.refl _)) ?_
      refine wpo_mv (a := ((eL 5 e_api_Entry) x0)) rfl rfl rfl (o_mv tk rfl (Wk.refl _)) ?_
      refine wpo_mv (a := (eI c2)) rfl rfl rfl (o_mv tk rfl (Wk.refl _)) ?_
      refine wpo_bd H17 (fun y => .fptr (e_api_Entry y).cells 0) rfl rfl rfl (fun v19 hv => o_ixa tk hv td60 enc24 rfl rfl) fun v19 hv19 H18 => ?_
      refine wpo_mv (a := (e_api_Entry v19)) rfl rfl rfl (o_ld_e tk enc24 rfl rfl) ?_
      refine wpo_cb H18 (fun x t => eT t 1 (@eU .u8 8) x) rfl rfl rfl (fun v21 hv => h_calla hH rfl rfl (.cons wk_no (.cons (.of_eq rfl) .nil)) (butteryref06_Put_app hv _)) fun v21 tk22 τ hv21 H20 hH => ?_
      refine wpo_mv (a := (eT tk22 1 (@eU .u8 8) v21)) rfl rfl rfl (o_as tk rfl (Wk.refl _)) ?_
      refine wpo_nil ?_
      refine awp_region rfl ?_
      refine wpo_mv (a := (eI c2)) rfl rfl rfl (o_mv tk rfl (Wk.refl _)) ?_
      refine wpo_lt H20 eI rfl rfl rfl (o_ar tk rfl rfl rfl) fun v24 H23 => ?_
      refine wpo_mv (a := (eI v24)) rfl rfl rfl (o_as tk rfl (Wk.refl _)) ?_
      refine wpo_nil ?_
      exact ⟨(v21, v24), inj_inl H23, tk22, (wkf_cons (.of_eq rfl) (wkf_cons (.of_eq rfl) (wkf_cons (.of_eq rfl) (wkf_nil _)))), (hH.sub (.cons_cons _ (.cons _ .slnil)))⟩
    · refine awp_exit ?_
      have hz := hy10 _ (inj_inr H17)
      subst hz
      exact ⟨⟨_, inj_inr H17⟩, tk_3, (wkf_cons (.of_eq rfl) (wkf_nil _)), hH⟩
theorem butteryref06_All_ok {x0 : List api_Entry} {r : (List (BitVec 8))} (H : butteryref06_All x0 = some r) (σ : St) : ACall Tryd.prog 52 [((eL 5 e_api_Entry) x0)] σ (fun a τ => a = (eL 1 (@eU .u8 8)) r ∧ τ = σ) := (butteryref06_All_app H σ).unapp (fun ρ κ => cutL_enc (enc_u td5 sz5).cut ρ κ r)
end Go.Proofs.YtkmlinaofbcbaaaDoor
namespace Go.Proofs.YtkmlinaofbcbaaaDoor
open Go Go.Va
set_option linter.unusedVariables false
set_option linter.unusedSimpArgs false
set_option maxRecDepth 20000
theorem butteryref12_Insert_ok {x0 : List api_Entry} {x1 : api_Entry} {r : (List api_Entry) × (List api_Entry) × Int} (H : butteryref12_Insert x0 x1 = some r) (σ : St)  : ACall Tryd.prog 45 [((eL 5 e_api_Entry) x0), (e_api_Entry x1)] σ (fun a τ => a = .tup [(eL 5 e_api_Entry) r.1, (eL 5 e_api_Entry) r.2.1, eI r.2.2] ∧ τ = σ) := by
  unfold butteryref12_Insert at H
  refine ACall.pure (acall_start tk Tryd.func45 (by decide) rfl (Nat.le_of_ble_eq_true rfl) ?_)
  have hH := Holds.init σ
  refine awp_seq ?_
  refine awp_region rfl ?_
  refine wpo_mv (a := (.fptr (c_api_Entry x1) 0)) rfl rfl rfl (o_boxf tk rfl (.of_eq rfl) (b := (e_api_Entry x1)) (enc24.flat _)) ?_
  refine wpo_mv (a := AV.nils) rfl rfl rfl (o_as tk rfl (Wk.refl _)) ?_
  refine wpo_mv (a := AV.nils) rfl rfl rfl (o_as tk rfl (Wk.refl _)) ?_
  refine wpo_mv (a := (eI (0 : Int))) rfl rfl rfl (o_as tk rfl (Wk.refl _)) ?_
  refine wpo_nil ?_
  refine awp_seq ?_
  refine awp_seq ?_
  refine awp_region rfl ?_
  refine wpo_mv (a := (e_api_Entry x1)) rfl rfl rfl (o_ld tk rfl rfl) ?_
  refine wpo_bd H eI rfl rfl rfl (fun v2 hv => OpP.of_call rfl rfl (.cons (.of_eq rfl) .nil) (butteryref06_Check_ok hv)) fun v2 hv2 H1 => ?_
  refine wpo_mv (a := (eI v2)) rfl rfl rfl (o_as tk rfl (Wk.refl _)) ?_
  refine wpo_nil ?_
  refine awp_seq ?_
  refine awp_region rfl ?_
  refine wpo_mv (a := (eI v2)) rfl rfl rfl (o_mv tk rfl (Wk.refl _)) ?_
  refine wpo_lt H1 eB rfl rfl rfl (o_ar tk rfl rfl rfl) fun v4 H3 => ?_
  refine wpo_nil ?_
  refine awp_if H3 rfl (fun H5 => ?_) (fun H5 => ?_)
  · refine awp_seq ?_
    refine awp_region rfl ?_
    refine wpo_mv (a := (eI v2)) rfl rfl rfl (o_mv tk rfl (Wk.refl _)) ?_
    refine wpo_mv (a := AV.nils) rfl rfl rfl (o_as tk rfl (Wk.refl _)) ?_
    refine wpo_mv (a := AV.nils) rfl rfl rfl (o_as tk rfl (Wk.refl _)) ?_
    refine wpo_mv (a := (eI v2)) rfl rfl rfl (o_as tk rfl (Wk.refl _)) ?_
    refine wpo_nil ?_
    refine awp_ret ?_
    obtain rfl := Option.some.inj H5
    exact ⟨_, (.tup [((eL 5 e_api_Entry) []), ((eL 5 e_api_Entry) []), (eI v2)]), rfl, (wk_tup (.cons (wk_nils _) (.cons (wk_nils _) (.cons (.of_eq rfl) .nil)))), .of_eq (by simp only [cutAV, cutL, (enc_l td60 sz60 enc24.cut).cut _ _ _, (enc_l td60 sz60 enc24.cut).cut _ _ _, (enc_i64 td33 sz33).cut _ _ _]), hH.noT⟩
  · refine awp_skip ?_
    refine awp_seq ?_
    refine awp_seq ?_
    refine awp_region rfl ?_
    refine wpo_mv (a := (e_api_Entry x1)) rfl rfl rfl (o_ld tk rfl rfl) ?_
    refine wpo_bd H5 eI rfl rfl rfl (fun v7 hv => OpP.of_call rfl rfl (.cons (.of_eq rfl) .nil) (butteryref06_Size_ok hv)) fun v7 hv7 H6 => ?_
    refine wpo_lt H6 eB rfl rfl rfl (o_ar tk rfl rfl rfl) fun v9 H8 => ?_
    refine wpo_nil ?_
    refine awp_if H8 rfl (fun H10 => ?_) (fun H10 => ?_)
    · refine awp_seq ?_
      refine awp_region rfl ?_
      refine wpo_mv (a := AV.nils) rfl rfl rfl (o_as tk rfl (Wk.refl _)) ?_
      refine wpo_mv (a := AV.nils) rfl rfl rfl (o_as tk rfl (Wk.refl _)) ?_
      refine wpo_mv (a := (eI (3 : Int))) rfl rfl rfl (o_as tk rfl (Wk.refl _)) ?_
      refine wpo_nil ?_
      refine awp_ret ?_
      obtain rfl := Option.some.inj H10
      exact ⟨_, (.tup [((eL 5 e_api_Entry) []), ((eL 5 e_api_Entry) []), (eI (3 : Int))]), rfl, (wk_tup (.cons (wk_nils _) (.cons (wk_nils _) (.cons (.of_eq rfl) .nil)))), .of_eq (by simp only [cutAV, cutL, (enc_l td60 sz60 enc24.cut).cut _ _ _, (enc_l td60 sz60 enc24.cut).cut _ _ _, (enc_i64 td33 sz33).cut _ _ _]), hH.noT⟩
    · refine awp_skip ?_
      refine awp_seq ?_
      refine awp_drawS mixed [3, 6] rfl (by decide +kernel) rfl rfl ?_
      refine wpdS_mv (a := ((eL 5 e_api_Entry) x0)) rfl rfl rfl (o_mv tk rfl (Wk.refl _)) ?_
      refine wpdS_mv (a := (.fptr (c_api_Entry x1) 0)) rfl rfl rfl (o_c tk false rfl (fun _ => rfl)) ?_
      refine wpdS_mv (a := (eS x1.Key)) rfl rfl rfl (o_ld tk rfl rfl) ?_
      refine wpdS_cb H10 (fun x t => eT t 5 e_api_Entry x) rfl rfl rfl (fun v12 hv => h_calla hH rfl rfl (.cons (.of_eq rfl) (.cons (.of_eq rfl) .nil)) (butteryref12_But_app hv _)) fun v12 tk13 τ hv12 H11 hH => ?_
      refine wpdS_mv (a := (e_api_Entry x1)) rfl rfl rfl (o_ld tk rfl rfl) ?_
      refine wpdS_lt H11 (eF 5 e_api_Entry) rfl rfl rfl (o_c tk false rfl (fun _ => rfl)) fun v15 H14 => ?_
      obtain ⟨v17, hv18, H16⟩ := Option.bind_eq_some_iff.1 H14
      refine wpdS_a (av := fun t => eT t 5 e_api_Entry v17) rfl rfl rfl (h_app tk hH 0 hv18 rfl td60 ty24 rfl (by decide) rfl (src_l td60 rfl)) fun tk19 τ hH => ?_
      refine wpdS_mv (a := (eT tk19 5 e_api_Entry v17)) rfl rfl rfl (o_as tk rfl (Wk.refl _)) ?_
      refine wpdS_nil ?_
      refine awp_seq ?_
      refine awp_region rfl ?_
      refine wpo_mv (a := (eI (0 : Int))) rfl rfl rfl (o_as tk rfl (Wk.refl _)) ?_
      refine wpo_nil ?_
      refine awp_seq ?_
      refine awp_block ?_
      obtain ⟨s28, hs22, hj23⟩ := Option.bind_eq_some_iff.1 H16
      refine awp_cutx 0 (fun fr τ => WkF fr (fm [(8, (eT tk19 5 e_api_Entry v17)), (9, (eI s28))]) ∧ Holds σ [] [tk19] τ) ?_ ?_
      · rintro fr τ ⟨hfr, hH⟩
        have H41 := hj23
        refine AWP.fm [(8, (eT tk19 5 e_api_Entry v17)), (9, (eI s28))] hfr ?_
        refine awp_seq ?_
        refine awp_drawS mixed [] rfl (by decide +kernel) rfl rfl ?_
        refine wpdS_mv (a := (eT tk19 5 e_api_Entry v17)) rfl rfl rfl (o_mv tk rfl (Wk.refl _)) ?_
        refine wpdS_mv (a := (eI s28)) rfl rfl rfl (o_mv tk rfl (Wk.refl _)) ?_
        refine wpdS_bd H41 (eL 5 e_api_Entry) rfl rfl rfl (fun v43 hv => o_cutFrom tk hv td60 enc24 rfl rfl) fun v43 hv43 H42 => ?_
        refine wpdS_mv (a := (eT tk19 5 e_api_Entry v17)) rfl rfl rfl (o_mv tk rfl (Wk.refl _)) ?_
        refine wpdS_mv (a := (eI s28)) rfl rfl rfl (o_mv tk rfl (Wk.refl _)) ?_
        refine wpdS_bd H42 (eL 5 e_api_Entry) rfl rfl rfl (fun v45 hv => o_cutTo tk hv td60 enc24 rfl rfl) fun v45 hv45 H44 => ?_
        refine wpdS_mv (a := ((eL 5 e_api_Entry) v43)) rfl rfl rfl (o_as tk rfl (Wk.refl _)) ?_
        refine wpdS_mv (a := ((eL 5 e_api_Entry) v45)) rfl rfl rfl (o_as tk rfl (Wk.refl _)) ?_
        refine wpdS_mv (a := (eI (0 : Int))) rfl rfl rfl (o_as tk rfl (Wk.refl _)) ?_
        refine wpdS_nil ?_
        refine awp_ret ?_
        obtain rfl := Option.some.inj H44
        exact ⟨_, (.tup [((eL 5 e_api_Entry) v43), ((eL 5 e_api_Entry) v45), (eI (0 : Int))]), rfl, (wk_tup (.cons (.of_eq rfl) (.cons (.of_eq rfl) (.cons (.of_eq rfl) .nil)))), .of_eq (by simp only [cutAV, cutL, (enc_l td60 sz60 enc24.cut).cut _ _ _, (enc_l td60 sz60 enc24.cut).cut _ _ _, (enc_i64 td33 sz33).cut _ _ _]), hH.noT⟩
      · refine awp_loopO (body := fun s => butteryref12_Insert_b0 v17 s) hs22 (fun (s : Int) fr τ => WkF fr (fm [(8, (eT tk19 5 e_api_Entry v17)), (9, (eI s))]) ∧ Holds σ [] [tk19] τ) ⟨(wkf_cons (.of_eq rfl) (wkf_cons (.of_eq rfl) (wkf_nil _))), hH⟩ ?_
        rintro c20 fr τ y24 ⟨hfr, hH⟩ hb26 hy27
        have H29 : butteryref12_Insert_b0 v17 c20 = some y24 := hb26
        unfold butteryref12_Insert_b0 at H29
        refine AWP.fm [(8, (eT tk19 5 e_api_Entry v17)), (9, (eI c20))] hfr ?_
        have hH : Holds σ [] [tk19] τ := hH
        refine awp_seq ?_
        refine awp_seq ?_
        refine awp_region rfl ?_
        refine wpo_mv (a := (eT tk19 5 e_api_Entry v17)) rfl rfl rfl (o_mv tk rfl (Wk.refl _)) ?_
        refine wpo_mv (a := (eI c20)) rfl rfl rfl (o_mv tk rfl (Wk.refl _)) ?_
        refine wpo_bd H29 (eL 5 e_api_Entry) rfl rfl rfl (fun v31 hv => o_cutFrom tk hv td60 enc24 rfl rfl) fun v31 hv31 H30 => ?_
        refine wpo_bd H30 (eL 1 (@eU .u8 8)) rfl rfl rfl (fun v33 hv => OpP.of_call rfl rfl (.cons (.of_eq rfl) .nil) (butteryref06_All_ok hv)) fun v33 hv33 H32 => ?_
        refine wpo_lt H32 eI rfl rfl rfl (o_len tk td22 rfl) fun v35 H34 => ?_
        refine wpo_lt H34 eB rfl rfl rfl (o_ar tk rfl rfl rfl) fun v37 H36 => ?_
        refine wpo_nil ?_
        refine awp_if H36 rfl (fun H38 => ?_) (fun H38 => ?_)
        · refine awp_skip ?_
          refine awp_block ?_
          refine awp_region rfl ?_
          refine wpo_mv (a := (eI c20)) rfl rfl rfl (o_mv tk rfl (Wk.refl _)) ?_
          refine wpo_lt H38 eI rfl rfl rfl (o_ar tk rfl rfl rfl) fun v40 H39 => ?_
          refine wpo_mv (a := (eI v40)) rfl rfl rfl (o_as tk rfl (Wk.refl _)) ?_
          refine wpo_nil ?_
          exact ⟨v40, inj_inl H39, (wkf_cons (.of_eq rfl) (wkf_cons (.of_eq rfl) (wkf_nil _))), hH⟩
        · refine awp_exit ?_
          have hz := hy27 _ (inj_inr H38)
          subst hz
          exact ⟨⟨_, inj_inr H38⟩, (wkf_cons (.of_eq rfl) (wkf_cons (.of_eq rfl) (wkf_nil _))), hH⟩
end Go.Proofs.YtkmlinaofbcbaaaDoor
namespace Go.Proofs.YtkmlinaofbcbaaaDoor
open Go Go.Va
set_option linter.unusedVariables false
set_option linter.unusedSimpArgs false
set_option maxRecDepth 20000
theorem butteryref07_Places_ok {x0 : BitVec 64} {r : (List Int)} (H : butteryref07_Places x0 = some r) (σ : St)  : ACall Tryd.prog 114 [((@eU .u64 64) x0)] σ (fun a τ => a = (eL 1 eI) r ∧ τ = σ) := by
  unfold butteryref07_Places at H
  refine ACall.pure (acall_start tk Tryd.func114 (by decide) rfl (Nat.le_of_ble_eq_true rfl) ?_)
  have hH := Holds.init σ
  refine awp_seq ?_
  refine awp_region rfl ?_
  refine wpo_mv (a := AV.nils) rfl rfl rfl (o_as tk rfl (Wk.refl _)) ?_
  refine wpo_nil ?_
  refine awp_seq ?_
  refine awp_region rfl ?_
  refine wpo_mv (a := ((@eU .u64 64) x0)) rfl rfl rfl (o_mv tk rfl (Wk.refl _)) ?_
  refine wpo_lt H (@eU .u64 64) rfl rfl rfl (o_rem_u tk (k := .u64) (y := 128#64) (z := 128#64) rfl rfl rfl rfl) fun v2 H1 => ?_
  refine wpo_lt H1 eI rfl rfl rfl (o_cv_64 tk td72 td3 rfl) fun v4 H3 => ?_
  refine wpo_mv (a := ((@eU .u64 64) x0)) rfl rfl rfl (o_mv tk rfl (Wk.refl _)) ?_
  refine wpo_lt H3 (@eU .u64 64) rfl rfl rfl (o_quo_u tk (k := .u64) (y := 2097152#64) (z := 2097152#64) rfl rfl rfl rfl) fun v6 H5 => ?_
  refine wpo_lt H5 (@eU .u64 64) rfl rfl rfl (o_rem_u tk (k := .u64) (y := 128#64) (z := 128#64) rfl rfl rfl rfl) fun v8 H7 => ?_
  refine wpo_lt H7 eI rfl rfl rfl (o_cv_64 tk td72 td3 rfl) fun v10 H9 => ?_
  refine wpo_mv (a := ((@eU .u64 64) x0)) rfl rfl rfl (o_mv tk rfl (Wk.refl _)) ?_
  refine wpo_lt H9 (@eU .u64 64) rfl rfl rfl (o_quo_u tk (k := .u64) (y := 4398046511104#64) (z := 4398046511104#64) rfl rfl rfl rfl) fun v12 H11 => ?_
  refine wpo_lt H11 (@eU .u64 64) rfl rfl rfl (o_rem_u tk (k := .u64) (y := 128#64) (z := 128#64) rfl rfl rfl rfl) fun v14 H13 => ?_
  refine wpo_lt H13 eI rfl rfl rfl (o_cv_64 tk td72 td3 rfl) fun v16 H15 => ?_
  refine wpo_lt H15 (eF 1 eI) rfl rfl rfl (o_c tk false rfl (fun _ => rfl)) fun v18 H17 => ?_
  refine wpo_mv (a := (eF 1 eI v18)) rfl rfl rfl (o_as tk rfl (Wk.refl _)) ?_
  refine wpo_nil ?_
  refine awp_ret ?_
  obtain rfl := Option.some.inj H17
  exact ⟨_, ((eL 1 eI) v18), rfl, wk_no, .of_eq ((enc_l td51 sz51 (enc_i64 td3 sz3).cut).cut _ _ _), hH.noT⟩
end Go.Proofs.YtkmlinaofbcbaaaDoor
namespace Go.Proofs.YtkmlinaofbcbaaaDoor
open Go Go.Va
set_option linter.unusedVariables false
set_option linter.unusedSimpArgs false
set_option maxRecDepth 20000
theorem butteryref07_Set_app {x0 : List (BitVec 64)} {r : (List Int)} (H : butteryref07_Set x0 = some r) (σ : St)  : ACall Tryd.prog 113 [((eL 1 (@eU .u64 64)) x0)] σ (fun a τ => a = .sl (.own σ.opn.length) 1 (r.map eI) ∧ τ = σ.more) := by
  unfold butteryref07_Set at H
  refine ACall.app (fun ρ κ => cutL_enc (enc_i64 td3 sz3).cut ρ κ r) (acall_start tk Tryd.func113 (by decide) rfl (Nat.le_of_ble_eq_true rfl) ?_)
  have hH := Holds.init σ
  refine awp_seq ?_
  refine awp_region rfl ?_
  refine wpo_mv (a := AV.nils) rfl rfl rfl (o_as tk rfl (Wk.refl _)) ?_
  refine wpo_nil ?_
  refine awp_seq ?_
  refine awp_region rfl ?_
  refine wpo_mv (a := AV.nils) rfl rfl rfl (o_as tk rfl (Wk.refl _)) ?_
  refine wpo_nil ?_
  refine awp_seq ?_
  refine awp_seq ?_
  refine awp_region rfl ?_
  refine wpo_mv (a := (eI (0 : Int))) rfl rfl rfl (o_as tk rfl (Wk.refl _)) ?_
  refine wpo_nil ?_
  refine awp_block ?_
  refine AWP.tokN hH 3 1 rfl fun tk3 τ hH => ?_
  obtain ⟨s11, hs5, hj6⟩ := Option.bind_eq_some_iff.1 H
  refine awp_cutx 0 (fun fr τ => ∃ tk_3, WkF fr (fm [(3, (eT tk_3 1 eI s11))]) ∧ Holds σ [] [tk_3] τ) ?_ ?_
  · rintro fr τ ⟨tk_3, hfr, hH⟩
    have H82 := hj6
    refine AWP.fm [(3, (eT tk_3 1 eI s11))] hfr ?_
    refine awp_seq ?_
    refine awp_region rfl ?_
    refine wpo_mv (a := (eT tk_3 1 eI s11)) rfl rfl rfl (o_mv tk rfl (Wk.refl _)) ?_
    refine wpo_mv (a := (eT tk_3 1 eI s11)) rfl rfl rfl (o_as tk rfl (Wk.refl _)) ?_
    refine wpo_nil ?_
    refine awp_ret ?_
    obtain rfl := Option.some.inj H82
    exact ⟨_, (eT tk_3 1 eI s11), rfl, .of_eq rfl, tk_3, rfl, hH⟩
  · refine awp_loopO (body := fun s => butteryref07_Set_b0 x0 s.1 s.2) hs5 (fun (s : (List Int) × Int) fr τ => ∃ tk_3, WkF fr (fm [(0, ((eL 1 (@eU .u64 64)) x0)), (3, (eT tk_3 1 eI s.1)), (4, (eI s.2))]) ∧ Holds σ [] [tk_3] τ) ⟨tk3, (wkf_cons (.of_eq rfl) (wkf_cons (.of_eq rfl) (wkf_cons (.of_eq rfl) (wkf_nil _)))), hH⟩ ?_
    rintro ⟨c1, c2⟩ fr τ y7 ⟨tk_3, hfr, hH⟩ hb9 hy10
    have H12 : butteryref07_Set_b0 x0 c1 c2 = some y7 := hb9
    unfold butteryref07_Set_b0 at H12
    refine AWP.fm [(0, ((eL 1 (@eU .u64 64)) x0)), (3, (eT tk_3 1 eI c1)), (4, (eI c2))] hfr ?_
    have hH : Holds σ [] [tk_3] τ := hH
    refine awp_seq ?_
    refine awp_seq ?_
    refine awp_region rfl ?_
    refine wpo_mv (a := (eI c2)) rfl rfl rfl (o_mv tk rfl (Wk.refl _)) ?_
    refine wpo_mv (a := ((eL 1 (@eU .u64 64)) x0)) rfl rfl rfl (o_mv tk rfl (Wk.refl _)) ?_
    refine wpo_lt H12 eI rfl rfl rfl (o_len tk td96 rfl) fun v14 H13 => ?_
    refine wpo_lt H13 eB rfl rfl rfl (o_ar tk rfl rfl rfl) fun v16 H15 => ?_
    refine wpo_nil ?_
    refine awp_if H15 rfl (fun H17 => ?_) (fun H17 => ?_)
    · refine awp_skip ?_
      refine awp_seq ?_
      refine awp_block ?_
      refine awp_seq ?_
      refine awp_region rfl ?_
      refine wpo_mv (a := ((eL 1 (@eU .u64 64)) x0)) rfl rfl rfl (o_mv tk rfl (Wk.refl _)) ?_
      refine wpo_mv (a := (eI c2)) rfl rfl rfl (o_mv tk rfl (Wk.refl _)) ?_
      refine wpo_bd H17 (fun y => .fptr ((@eU .u64 64) y).cells 0) rfl rfl rfl (fun v19 hv => o_ixa tk hv td96 (enc_u td72 sz72) rfl rfl) fun v19 hv19 H18 => ?_
      refine wpo_mv (a := ((@eU .u64 64) v19)) rfl rfl rfl (o_ld_e tk (enc_u td72 sz72) rfl rfl) ?_
      refine wpo_bd H18 (eL 1 eI) rfl rfl rfl (fun v21 hv => OpP.of_call rfl rfl (.cons (.of_eq rfl) .nil) (butteryref07_Places_ok hv)) fun v21 hv21 H20 => ?_
      refine wpo_mv (a := ((eL 1 eI) v21)) rfl rfl rfl (o_as tk rfl (Wk.refl _)) ?_
      refine wpo_nil ?_
      refine awp_seq ?_
      refine awp_region rfl ?_
      refine wpo_mv (a := (eI (0 : Int))) rfl rfl rfl (o_as tk rfl (Wk.refl _)) ?_
      refine wpo_nil ?_
      refine awp_block ?_
      obtain ⟨s31, hs25, hj26⟩ := Option.bind_eq_some_iff.1 H20
      refine awp_cutx 2 (fun fr τ => ∃ tk_3, WkF fr (fm [(0, ((eL 1 (@eU .u64 64)) x0)), (3, (eT tk_3 1 eI s31)), (4, (eI c2))]) ∧ Holds σ [] [tk_3] τ) ?_ ?_
      · rintro fr τ ⟨tk_3, hfr, hH⟩
        have H79 := hj26
        refine AWP.fm [(0, ((eL 1 (@eU .u64 64)) x0)), (3, (eT tk_3 1 eI s31)), (4, (eI c2))] hfr ?_
        refine awp_region rfl ?_
        refine wpo_mv (a := (eI c2)) rfl rfl rfl (o_mv tk rfl (Wk.refl _)) ?_
        refine wpo_lt H79 eI rfl rfl rfl (o_ar tk rfl rfl rfl) fun v81 H80 => ?_
        refine wpo_mv (a := (eI v81)) rfl rfl rfl (o_as tk rfl (Wk.refl _)) ?_
        refine wpo_nil ?_
        exact ⟨(s31, v81), inj_inl H80, tk_3, (wkf_cons (.of_eq rfl) (wkf_cons (.of_eq rfl) (wkf_cons (.of_eq rfl) (wkf_nil _)))), hH⟩
      · refine awp_loopO (body := fun s => butteryref07_Set_b1 x0 c2 v21 s.1 s.2) hs25 (fun (s : (List Int) × Int) fr τ => ∃ tk_3, WkF fr (fm [(0, ((eL 1 (@eU .u64 64)) x0)), (3, (eT tk_3 1 eI s.1)), (4, (eI c2)), (5, ((eL 1 eI) v21)), (6, (eI s.2))]) ∧ Holds σ [] [tk_3] τ) ⟨tk_3, (wkf_cons (.of_eq rfl) (wkf_cons (.of_eq rfl) (wkf_cons (.of_eq rfl) (wkf_cons (.of_eq rfl) (wkf_cons (.of_eq rfl) (wkf_nil _)))))), hH⟩ ?_
        rintro ⟨c22, c23⟩ fr τ y27 ⟨tk_3, hfr, hH⟩ hb29 hy30
        have H32 : butteryref07_Set_b1 x0 c2 v21 c22 c23 = some y27 := hb29
        unfold butteryref07_Set_b1 at H32
        refine AWP.fm [(0, ((eL 1 (@eU .u64 64)) x0)), (3, (eT tk_3 1 eI c22)), (4, (eI c2)), (5, ((eL 1 eI) v21)), (6, (eI c23))] hfr ?_
        have hH : Holds σ [] [tk_3] τ := hH
        refine awp_seq ?_
        refine awp_seq ?_
        refine awp_region rfl ?_
        refine wpo_mv (a := (eI c23)) rfl rfl rfl (o_mv tk rfl (Wk.refl _)) ?_
        refine wpo_lt H32 eB rfl rfl rfl (o_ar tk rfl rfl rfl) fun v34 H33 => ?_
        refine wpo_nil ?_
        refine awp_if H33 rfl (fun H35 => ?_) (fun H35 => ?_)
        · refine awp_skip ?_
          refine awp_seq ?_
          refine awp_block ?_
          refine awp_seq ?_
          refine awp_region rfl ?_
          refine wpo_mv (a := (eB false)) rfl rfl rfl (o_as tk rfl (Wk.refl _)) ?_
          refine wpo_nil ?_
          refine awp_seq ?_
          refine awp_seq ?_
          refine awp_region rfl ?_
          refine wpo_mv (a := (eI (0 : Int))) rfl rfl rfl (o_as tk rfl (Wk.refl _)) ?_
          refine wpo_nil ?_
          refine awp_block ?_
          obtain ⟨s45, hs39, hj40⟩ := Option.bind_eq_some_iff.1 H35
          refine awp_cutx 4 (fun fr τ => ∃ tk_3, WkF fr (fm [(0, ((eL 1 (@eU .u64 64)) x0)), (3, (eT tk_3 1 eI c22)), (4, (eI c2)), (5, ((eL 1 eI) v21)), (6, (eI c23)), (7, (eB s45))]) ∧ Holds σ [] [tk_3] τ) ?_ ?_
          · rintro fr τ ⟨tk_3, hfr, hH⟩
            have H63 := hj40
            refine AWP.fm [(0, ((eL 1 (@eU .u64 64)) x0)), (3, (eT tk_3 1 eI c22)), (4, (eI c2)), (5, ((eL 1 eI) v21)), (6, (eI c23)), (7, (eB s45))] hfr ?_
            refine awp_seq ?_
            refine awp_region rfl ?_
            refine wpo_mv (a := (eB s45)) rfl rfl rfl (o_mv tk rfl (Wk.refl _)) ?_
            refine wpo_lt H63 eB rfl rfl rfl (o_un tk rfl rfl) fun v65 H64 => ?_
            refine wpo_nil ?_
            refine awp_if H64 rfl (fun H66 => ?_) (fun H66 => ?_)
            · refine awp_region rfl ?_
              refine wpo_mv (a := (eT tk_3 1 eI c22)) rfl rfl rfl (o_mv tk rfl (Wk.refl _)) ?_
              refine wpo_mv (a := ((eL 1 eI) v21)) rfl rfl rfl (o_mv tk rfl (Wk.refl _)) ?_
              refine wpo_mv (a := (eI c23)) rfl rfl rfl (o_mv tk rfl (Wk.refl _)) ?_
              refine wpo_bd H66 (fun y => .fptr (eI y).cells 0) rfl rfl rfl (fun v68 hv => o_ixa tk hv td51 (enc_i64 td3 sz3) rfl rfl) fun v68 hv68 H67 => ?_
              refine wpo_mv (a := (eI v68)) rfl rfl rfl (o_ld_e tk (enc_i64 td3 sz3) rfl rfl) ?_
              refine wpo_lt H67 (eF 1 eI) rfl rfl rfl (o_c tk false rfl (fun _ => rfl)) fun v70 H69 => ?_
              obtain ⟨v72, hv73, H71⟩ := Option.bind_eq_some_iff.1 H69
              refine wpo_a (av := fun t => eT t 1 eI v72) rfl rfl rfl (h_app tk hH 0 hv73 rfl td51 ty3 rfl (by decide) rfl (src_l td51 rfl)) fun tk74 τ hH => ?_
              refine wpo_mv (a := (eT tk74 1 eI v72)) rfl rfl rfl (o_as tk rfl (Wk.refl _)) ?_
              refine wpo_nil ?_
              refine awp_region rfl ?_
              refine wpo_mv (a := (eI c23)) rfl rfl rfl (o_mv tk rfl (Wk.refl _)) ?_
              refine wpo_lt H71 eI rfl rfl rfl (o_ar tk rfl rfl rfl) fun v76 H75 => ?_
              refine wpo_mv (a := (eI v76)) rfl rfl rfl (o_as tk rfl (Wk.refl _)) ?_
              refine wpo_nil ?_
              exact ⟨(v72, v76), inj_inl H75, tk74, (wkf_cons (.of_eq rfl) (wkf_cons (.of_eq rfl) (wkf_cons (.of_eq rfl) (wkf_cons (.of_eq rfl) (wkf_cons (.of_eq rfl) (wkf_nil _)))))), hH⟩
            · refine awp_skip ?_
              refine awp_region rfl ?_
              refine wpo_mv (a := (eI c23)) rfl rfl rfl (o_mv tk rfl (Wk.refl _)) ?_
              refine wpo_lt H66 eI rfl rfl rfl (o_ar tk rfl rfl rfl) fun v78 H77 => ?_
              refine wpo_mv (a := (eI v78)) rfl rfl rfl (o_as tk rfl (Wk.refl _)) ?_
              refine wpo_nil ?_
              exact ⟨(c22, v78), inj_inl H77, tk_3, (wkf_cons (.of_eq rfl) (wkf_cons (.of_eq rfl) (wkf_cons (.of_eq rfl) (wkf_cons (.of_eq rfl) (wkf_cons (.of_eq rfl) (wkf_nil _)))))), hH⟩
          · refine awp_loopO (body := fun s => butteryref07_Set_b2 x0 c2 v21 c22 c23 s.1 s.2) hs39 (fun (s : Bool × Int) fr τ => ∃ tk_3, WkF fr (fm [(0, ((eL 1 (@eU .u64 64)) x0)), (3, (eT tk_3 1 eI c22)), (4, (eI c2)), (5, ((eL 1 eI) v21)), (6, (eI c23)), (7, (eB s.1)), (8, (eI s.2))]) ∧ Holds σ [] [tk_3] τ) ⟨tk_3, (wkf_cons (.of_eq rfl) (wkf_cons (.of_eq rfl) (wkf_cons (.of_eq rfl) (wkf_cons (.of_eq rfl) (wkf_cons (.of_eq rfl) (wkf_cons (.of_eq rfl) (wkf_cons (.of_eq rfl) (wkf_nil _)))))))), hH⟩ ?_
            rintro ⟨c36, c37⟩ fr τ y41 ⟨tk_3, hfr, hH⟩ hb43 hy44
            have H46 : butteryref07_Set_b2 x0 c2 v21 c22 c23 c36 c37 = some y41 := hb43
            unfold butteryref07_Set_b2 at H46
            refine AWP.fm [(0, ((eL 1 (@eU .u64 64)) x0)), (3, (eT tk_3 1 eI c22)), (4, (eI c2)), (5, ((eL 1 eI) v21)), (6, (eI c23)), (7, (eB c36)), (8, (eI c37))] hfr ?_
            have hH : Holds σ [] [tk_3] τ := hH
            refine awp_seq ?_
            refine awp_seq ?_
            refine awp_region rfl ?_
            refine wpo_mv (a := (eI c37)) rfl rfl rfl (o_mv tk rfl (Wk.refl _)) ?_
            refine wpo_mv (a := (eT tk_3 1 eI c22)) rfl rfl rfl (o_mv tk rfl (Wk.refl _)) ?_
            refine wpo_lt H46 eI rfl rfl rfl (o_len tk td51 rfl) fun v48 H47 => ?_
            refine wpo_lt H47 eB rfl rfl rfl (o_ar tk rfl rfl rfl) fun v50 H49 => ?_
            refine wpo_nil ?_
            refine awp_if H49 rfl (fun H51 => ?_) (fun H51 => ?_)
            · refine awp_skip ?_
              refine awp_seq ?_
              refine awp_block ?_
              refine awp_drawS mixed [] rfl (by decide +kernel) rfl rfl ?_
              refine wpdS_mv (a := (eB c36)) rfl rfl rfl (o_mv tk rfl (Wk.refl _)) ?_
              refine wpdS_mv (a := (eB c36)) rfl rfl rfl (o_mv tk rfl (Wk.refl _)) ?_
              refine if_split H51 (fun hb H52 => ?_) (fun hb H52 => ?_)
              · subst hb
                refine wpdS_skip rfl rfl rfl ?_
                refine wpdS_skip rfl rfl rfl ?_
                refine wpdS_skip rfl rfl rfl ?_
                refine wpdS_skip rfl rfl rfl ?_
                refine wpdS_skip rfl rfl rfl ?_
                refine wpdS_skip rfl rfl rfl ?_
                refine wpdS_skip rfl rfl rfl ?_
                refine wpdS_skip rfl rfl rfl ?_
                refine wpdS_skip rfl rfl rfl ?_
                refine wpdS_mv (a := (eB true)) rfl rfl rfl (o_pick_t tk rfl rfl (Wk.refl _)) ?_
                refine wpdS_mv (a := (eB true)) rfl rfl rfl (o_as tk rfl (Wk.refl _)) ?_
                refine wpdS_nil ?_
                refine awp_region rfl ?_
                refine wpo_mv (a := (eI c37)) rfl rfl rfl (o_mv tk rfl (Wk.refl _)) ?_
                refine wpo_lt H52 eI rfl rfl rfl (o_ar tk rfl rfl rfl) fun v54 H53 => ?_
                refine wpo_mv (a := (eI v54)) rfl rfl rfl (o_as tk rfl (Wk.refl _)) ?_
                refine wpo_nil ?_
                exact ⟨(true, v54), inj_inl H53, tk_3, (wkf_cons (.of_eq rfl) (wkf_cons (.of_eq rfl) (wkf_cons (.of_eq rfl) (wkf_cons (.of_eq rfl) (wkf_cons (.of_eq rfl) (wkf_cons (.of_eq rfl) (wkf_cons (.of_eq rfl) (wkf_nil _)))))))), hH⟩
              · subst hb
                refine wpdS_mv (a := (eT tk_3 1 eI c22)) rfl rfl rfl (o_mv tk rfl (Wk.refl _)) ?_
                refine wpdS_mv (a := (eI c37)) rfl rfl rfl (o_mv tk rfl (Wk.refl _)) ?_
                refine wpdS_bd H52 (fun y => .fptr (eI y).cells 0) rfl rfl rfl (fun v56 hv => o_ixa tk hv td51 (enc_i64 td3 sz3) rfl rfl) fun v56 hv56 H55 => ?_
                refine wpdS_mv (a := (eI v56)) rfl rfl rfl (o_ld_e tk (enc_i64 td3 sz3) rfl rfl) ?_
                refine wpdS_mv (a := ((eL 1 eI) v21)) rfl rfl rfl (o_mv tk rfl (Wk.refl _)) ?_
                refine wpdS_mv (a := (eI c23)) rfl rfl rfl (o_mv tk rfl (Wk.refl _)) ?_
                refine wpdS_bd H55 (fun y => .fptr (eI y).cells 0) rfl rfl rfl (fun v58 hv => o_ixa tk hv td51 (enc_i64 td3 sz3) rfl rfl) fun v58 hv58 H57 => ?_
                refine wpdS_mv (a := (eI v58)) rfl rfl rfl (o_ld_e tk (enc_i64 td3 sz3) rfl rfl) ?_
                refine wpdS_lt H57 eB rfl rfl rfl (o_ar tk rfl rfl rfl) fun v60 H59 => ?_
                refine wpdS_mv (a := (eB v60)) rfl rfl rfl (o_pick_f tk rfl rfl (Wk.refl _)) ?_
                refine wpdS_mv (a := (eB v60)) rfl rfl rfl (o_as tk rfl (Wk.refl _)) ?_
                refine wpdS_nil ?_
                refine awp_region rfl ?_
                refine wpo_mv (a := (eI c37)) rfl rfl rfl (o_mv tk rfl (Wk.refl _)) ?_
                refine wpo_lt H59 eI rfl rfl rfl (o_ar tk rfl rfl rfl) fun v62 H61 => ?_
                refine wpo_mv (a := (eI v62)) rfl rfl rfl (o_as tk rfl (Wk.refl _)) ?_
                refine wpo_nil ?_
                exact ⟨(v60, v62), inj_inl H61, tk_3, (wkf_cons (.of_eq rfl) (wkf_cons (.of_eq rfl) (wkf_cons (.of_eq rfl) (wkf_cons (.of_eq rfl) (wkf_cons (.of_eq rfl) (wkf_cons (.of_eq rfl) (wkf_cons (.of_eq rfl) (wkf_nil _)))))))), hH⟩
            · refine awp_exit ?_
              have hz := hy44 _ (inj_inr H51)
              subst hz
              exact ⟨⟨_, inj_inr H51⟩, tk_3, (wkf_cons (.of_eq rfl) (wkf_cons (.of_eq rfl) (wkf_cons (.of_eq rfl) (wkf_cons (.of_eq rfl) (wkf_cons (.of_eq rfl) (wkf_cons (.of_eq rfl) (wkf_nil _))))))), hH⟩
        · refine awp_exit ?_
          have hz := hy30 _ (inj_inr H35)
          subst hz
          exact ⟨⟨_, inj_inr H35⟩, tk_3, (wkf_cons (.of_eq rfl) (wkf_cons (.of_eq rfl) (wkf_cons (.of_eq rfl) (wkf_nil _)))), hH⟩
    · refine awp_exit ?_
      have hz := hy10 _ (inj_inr H17)
      subst hz
      exact ⟨⟨_, inj_inr H17⟩, tk_3, (wkf_cons (.of_eq rfl) (wkf_nil _)), hH⟩
theorem butteryref07_Set_ok {x0 : List (BitVec 64)} {r : (List Int)} (H : butteryref07_Set x0 = some r) (σ : St) : ACall Tryd.prog 113 [((eL 1 (@eU .u64 64)) x0)] σ (fun a τ => a = (eL 1 eI) r ∧ τ = σ) := (butteryref07_Set_app H σ).unapp (fun ρ κ => cutL_enc (enc_i64 td3 sz3).cut ρ κ r)
end Go.Proofs.YtkmlinaofbcbaaaDoor
namespace Go.Proofs.YtkmlinaofbcbaaaDoor
open Go Go.Va
set_option linter.unusedVariables false
set_option linter.unusedSimpArgs false
set_option maxRecDepth 20000
theorem butteryref07_May_ok {x0 : List (BitVec 64)} {x1 : BitVec 64} {r : Bool} (H : butteryref07_May x0 x1 = some r) (σ : St)  : ACall Tryd.prog 55 [((eL 1 (@eU .u64 64)) x0), ((@eU .u64 64) x1)] σ (fun a τ => a = eB r ∧ τ = σ) := by
  unfold butteryref07_May at H
  refine ACall.pure (acall_start tk Tryd.func55 (by decide) rfl (Nat.le_of_ble_eq_true rfl) ?_)
  have hH := Holds.init σ
  refine awp_seq ?_
  refine awp_region rfl ?_
  refine wpo_mv (a := (eB false)) rfl rfl rfl (o_as tk rfl (Wk.refl _)) ?_
  refine wpo_nil ?_
  refine awp_seq ?_
  refine awp_region rfl ?_
  refine wpo_mv (a := ((eL 1 (@eU .u64 64)) x0)) rfl rfl rfl (o_mv tk rfl (Wk.refl _)) ?_
  refine wpo_bd H (eL 1 eI) rfl rfl rfl (fun v2 hv => OpP.of_call rfl rfl (.cons (.of_eq rfl) .nil) (butteryref07_Set_ok hv)) fun v2 hv2 H1 => ?_
  refine wpo_mv (a := ((eL 1 eI) v2)) rfl rfl rfl (o_as tk rfl (Wk.refl _)) ?_
  refine wpo_nil ?_
  refine awp_seq ?_
  refine awp_region rfl ?_
  refine wpo_mv (a := ((@eU .u64 64) x1)) rfl rfl rfl (o_mv tk rfl (Wk.refl _)) ?_
  refine wpo_bd H1 (eL 1 eI) rfl rfl rfl (fun v4 hv => OpP.of_call rfl rfl (.cons (.of_eq rfl) .nil) (butteryref07_Places_ok hv)) fun v4 hv4 H3 => ?_
  refine wpo_mv (a := ((eL 1 eI) v4)) rfl rfl rfl (o_as tk rfl (Wk.refl _)) ?_
  refine wpo_nil ?_
  refine awp_seq ?_
  refine awp_seq ?_
  refine awp_region rfl ?_
  refine wpo_mv (a := (eI (0 : Int))) rfl rfl rfl (o_as tk rfl (Wk.refl _)) ?_
  refine wpo_nil ?_
  refine awp_block ?_
  obtain ⟨o6, hs7, hj8⟩ := Option.bind_eq_some_iff.1 H3
  refine awp_cutx 0 (fun fr τ => ∃ s13 : Unit, o6 = .inl s13 ∧ WkF fr (fm []) ∧ Holds σ [] [] τ) ?_ ?_
  · rintro fr τ ⟨s13, rfl, hfr, hH⟩
    have H52 := hj8
    simp only [Sum.elim_inl] at H52
    refine AWP.fm [] hfr ?_
    refine awp_seq ?_
    refine awp_region rfl ?_
    refine wpo_mv (a := (eB true)) rfl rfl rfl (o_as tk rfl (Wk.refl _)) ?_
    refine wpo_nil ?_
    refine awp_ret ?_
    obtain rfl := Option.some.inj H52
    exact ⟨_, (eB true), rfl, (.of_eq rfl), .of_eq ((enc_b td4 sz4).cut _ _ _), hH.noT⟩
  · refine awp_loopO (body := fun s => butteryref07_May_b0 v2 v4 s) hs7 (fun (s : Int) fr τ => WkF fr (fm [(5, ((eL 1 eI) v2)), (6, ((eL 1 eI) v4)), (7, (eI s))]) ∧ Holds σ [] [] τ) ⟨(wkf_cons (.of_eq rfl) (wkf_cons (.of_eq rfl) (wkf_cons (.of_eq rfl) (wkf_nil _)))), hH⟩ ?_
    rintro c5 fr τ y9 ⟨hfr, hH⟩ hb11 hy12
    have H14 : butteryref07_May_b0 v2 v4 c5 = some y9 := hb11
    unfold butteryref07_May_b0 at H14
    refine AWP.fm [(5, ((eL 1 eI) v2)), (6, ((eL 1 eI) v4)), (7, (eI c5))] hfr ?_
    have hH : Holds σ [] [] τ := hH
    refine awp_seq ?_
    refine awp_seq ?_
    refine awp_region rfl ?_
    refine wpo_mv (a := (eI c5)) rfl rfl rfl (o_mv tk rfl (Wk.refl _)) ?_
    refine wpo_lt H14 eB rfl rfl rfl (o_ar tk rfl rfl rfl) fun v16 H15 => ?_
    refine wpo_nil ?_
    refine awp_if H15 rfl (fun H17 => ?_) (fun H17 => ?_)
    · refine awp_skip ?_
      refine awp_seq ?_
      refine awp_block ?_
      refine awp_seq ?_
      refine awp_region rfl ?_
      refine wpo_mv (a := (eB false)) rfl rfl rfl (o_as tk rfl (Wk.refl _)) ?_
      refine wpo_nil ?_
      refine awp_seq ?_
      refine awp_seq ?_
      refine awp_region rfl ?_
      refine wpo_mv (a := (eI (0 : Int))) rfl rfl rfl (o_as tk rfl (Wk.refl _)) ?_
      refine wpo_nil ?_
      refine awp_block ?_
      obtain ⟨s27, hs21, hj22⟩ := Option.bind_eq_some_iff.1 H17
      refine awp_cutx 2 (fun fr τ => WkF fr (fm [(5, ((eL 1 eI) v2)), (6, ((eL 1 eI) v4)), (7, (eI c5)), (8, (eB s27))]) ∧ Holds σ [] [] τ) ?_ ?_
      · rintro fr τ ⟨hfr, hH⟩
        have H45 := hj22
        refine AWP.fm [(5, ((eL 1 eI) v2)), (6, ((eL 1 eI) v4)), (7, (eI c5)), (8, (eB s27))] hfr ?_
        refine awp_seq ?_
        refine awp_region rfl ?_
        refine wpo_mv (a := (eB s27)) rfl rfl rfl (o_mv tk rfl (Wk.refl _)) ?_
        refine wpo_lt H45 eB rfl rfl rfl (o_un tk rfl rfl) fun v47 H46 => ?_
        refine wpo_nil ?_
        refine awp_if H46 rfl (fun H48 => ?_) (fun H48 => ?_)
        · refine awp_seq ?_
          refine awp_region rfl ?_
          refine wpo_mv (a := (eB false)) rfl rfl rfl (o_as tk rfl (Wk.refl _)) ?_
          refine wpo_nil ?_
          refine awp_ret ?_
          have hz := hy12 _ (inj_inr H48)
          refine ⟨⟨_, inj_inr H48⟩, ?_⟩
          rw [← hz] at hj8
          have H49 := (show some _ = some _ from hj8)
          obtain rfl := Option.some.inj H49
          exact ⟨_, (eB false), rfl, (.of_eq rfl), .of_eq ((enc_b td4 sz4).cut _ _ _), hH.noT⟩
        · refine awp_skip ?_
          refine awp_region rfl ?_
          refine wpo_mv (a := (eI c5)) rfl rfl rfl (o_mv tk rfl (Wk.refl _)) ?_
          refine wpo_lt H48 eI rfl rfl rfl (o_ar tk rfl rfl rfl) fun v51 H50 => ?_
          refine wpo_mv (a := (eI v51)) rfl rfl rfl (o_as tk rfl (Wk.refl _)) ?_
          refine wpo_nil ?_
          exact ⟨v51, inj_inl H50, (wkf_cons (.of_eq rfl) (wkf_cons (.of_eq rfl) (wkf_cons (.of_eq rfl) (wkf_nil _)))), hH⟩
      · refine awp_loopO (body := fun s => butteryref07_May_b1 v2 v4 c5 s.1 s.2) hs21 (fun (s : Bool × Int) fr τ => WkF fr (fm [(5, ((eL 1 eI) v2)), (6, ((eL 1 eI) v4)), (7, (eI c5)), (8, (eB s.1)), (9, (eI s.2))]) ∧ Holds σ [] [] τ) ⟨(wkf_cons (.of_eq rfl) (wkf_cons (.of_eq rfl) (wkf_cons (.of_eq rfl) (wkf_cons (.of_eq rfl) (wkf_cons (.of_eq rfl) (wkf_nil _)))))), hH⟩ ?_
        rintro ⟨c18, c19⟩ fr τ y23 ⟨hfr, hH⟩ hb25 hy26
        have H28 : butteryref07_May_b1 v2 v4 c5 c18 c19 = some y23 := hb25
        unfold butteryref07_May_b1 at H28
        refine AWP.fm [(5, ((eL 1 eI) v2)), (6, ((eL 1 eI) v4)), (7, (eI c5)), (8, (eB c18)), (9, (eI c19))] hfr ?_
        have hH : Holds σ [] [] τ := hH
        refine awp_seq ?_
        refine awp_seq ?_
        refine awp_region rfl ?_
        refine wpo_mv (a := (eI c19)) rfl rfl rfl (o_mv tk rfl (Wk.refl _)) ?_
        refine wpo_mv (a := ((eL 1 eI) v2)) rfl rfl rfl (o_mv tk rfl (Wk.refl _)) ?_
        refine wpo_lt H28 eI rfl rfl rfl (o_len tk td51 rfl) fun v30 H29 => ?_
        refine wpo_lt H29 eB rfl rfl rfl (o_ar tk rfl rfl rfl) fun v32 H31 => ?_
        refine wpo_nil ?_
        refine awp_if H31 rfl (fun H33 => ?_) (fun H33 => ?_)
        · refine awp_skip ?_
          refine awp_seq ?_
          refine awp_block ?_
          refine awp_drawS mixed [] rfl (by decide +kernel) rfl rfl ?_
          refine wpdS_mv (a := (eB c18)) rfl rfl rfl (o_mv tk rfl (Wk.refl _)) ?_
          refine wpdS_mv (a := (eB c18)) rfl rfl rfl (o_mv tk rfl (Wk.refl _)) ?_
          refine if_split H33 (fun hb H34 => ?_) (fun hb H34 => ?_)
          · subst hb
            refine wpdS_skip rfl rfl rfl ?_
            refine wpdS_skip rfl rfl rfl ?_
            refine wpdS_skip rfl rfl rfl ?_
            refine wpdS_skip rfl rfl rfl ?_
            refine wpdS_skip rfl rfl rfl ?_
            refine wpdS_skip rfl rfl rfl ?_
            refine wpdS_skip rfl rfl rfl ?_
            refine wpdS_skip rfl rfl rfl ?_
            refine wpdS_skip rfl rfl rfl ?_
            refine wpdS_mv (a := (eB true)) rfl rfl rfl (o_pick_t tk rfl rfl (Wk.refl _)) ?_
            refine wpdS_mv (a := (eB true)) rfl rfl rfl (o_as tk rfl (Wk.refl _)) ?_
            refine wpdS_nil ?_
            refine awp_region rfl ?_
            refine wpo_mv (a := (eI c19)) rfl rfl rfl (o_mv tk rfl (Wk.refl _)) ?_
            refine wpo_lt H34 eI rfl rfl rfl (o_ar tk rfl rfl rfl) fun v36 H35 => ?_
            refine wpo_mv (a := (eI v36)) rfl rfl rfl (o_as tk rfl (Wk.refl _)) ?_
            refine wpo_nil ?_
            exact ⟨(true, v36), inj_inl H35, (wkf_cons (.of_eq rfl) (wkf_cons (.of_eq rfl) (wkf_cons (.of_eq rfl) (wkf_cons (.of_eq rfl) (wkf_cons (.of_eq rfl) (wkf_nil _)))))), hH⟩
          · subst hb
            refine wpdS_mv (a := ((eL 1 eI) v2)) rfl rfl rfl (o_mv tk rfl (Wk.refl _)) ?_
            refine wpdS_mv (a := (eI c19)) rfl rfl rfl (o_mv tk rfl (Wk.refl _)) ?_
            refine wpdS_bd H34 (fun y => .fptr (eI y).cells 0) rfl rfl rfl (fun v38 hv => o_ixa tk hv td51 (enc_i64 td3 sz3) rfl rfl) fun v38 hv38 H37 => ?_
            refine wpdS_mv (a := (eI v38)) rfl rfl rfl (o_ld_e tk (enc_i64 td3 sz3) rfl rfl) ?_
            refine wpdS_mv (a := ((eL 1 eI) v4)) rfl rfl rfl (o_mv tk rfl (Wk.refl _)) ?_
            refine wpdS_mv (a := (eI c5)) rfl rfl rfl (o_mv tk rfl (Wk.refl _)) ?_
            refine wpdS_bd H37 (fun y => .fptr (eI y).cells 0) rfl rfl rfl (fun v40 hv => o_ixa tk hv td51 (enc_i64 td3 sz3) rfl rfl) fun v40 hv40 H39 => ?_
            refine wpdS_mv (a := (eI v40)) rfl rfl rfl (o_ld_e tk (enc_i64 td3 sz3) rfl rfl) ?_
            refine wpdS_lt H39 eB rfl rfl rfl (o_ar tk rfl rfl rfl) fun v42 H41 => ?_
            refine wpdS_mv (a := (eB v42)) rfl rfl rfl (o_pick_f tk rfl rfl (Wk.refl _)) ?_
            refine wpdS_mv (a := (eB v42)) rfl rfl rfl (o_as tk rfl (Wk.refl _)) ?_
            refine wpdS_nil ?_
            refine awp_region rfl ?_
            refine wpo_mv (a := (eI c19)) rfl rfl rfl (o_mv tk rfl (Wk.refl _)) ?_
            refine wpo_lt H41 eI rfl rfl rfl (o_ar tk rfl rfl rfl) fun v44 H43 => ?_
            refine wpo_mv (a := (eI v44)) rfl rfl rfl (o_as tk rfl (Wk.refl _)) ?_
            refine wpo_nil ?_
            exact ⟨(v42, v44), inj_inl H43, (wkf_cons (.of_eq rfl) (wkf_cons (.of_eq rfl) (wkf_cons (.of_eq rfl) (wkf_cons (.of_eq rfl) (wkf_cons (.of_eq rfl) (wkf_nil _)))))), hH⟩
        · refine awp_exit ?_
          have hz := hy26 _ (inj_inr H33)
          subst hz
          exact ⟨⟨_, inj_inr H33⟩, (wkf_cons (.of_eq rfl) (wkf_cons (.of_eq rfl) (wkf_cons (.of_eq rfl) (wkf_cons (.of_eq rfl) (wkf_nil _))))), hH⟩
    · refine awp_exit ?_
      have hz := hy12 _ (inj_inr H17)
      exact ⟨⟨_, inj_inr H17⟩, (), hz.symm, (wkf_nil _), hH⟩
end Go.Proofs.YtkmlinaofbcbaaaDoor
namespace Go.Proofs.YtkmlinaofbcbaaaDoor
open Go Go.Va
set_option linter.unusedVariables false
set_option linter.unusedSimpArgs false
set_option maxRecDepth 20000
theorem butteryref07_fold_ok {x0 : BitVec 64} {r : (BitVec 64)} (H : butteryref07_fold x0 = some r) (σ : St)  : ACall Tryd.prog 135 [((@eU .u64 64) x0)] σ (fun a τ => a = (@eU .u64 64) r ∧ τ = σ) := by
  unfold butteryref07_fold at H
  refine ACall.pure (acall_start tk Tryd.func135 (by decide) rfl (Nat.le_of_ble_eq_true rfl) ?_)
  have hH := Holds.init σ
  refine awp_seq ?_
  refine awp_region rfl ?_
  refine wpo_mv (a := ((@eU .u64 64) 0#64)) rfl rfl rfl (o_as tk rfl (Wk.refl _)) ?_
  refine wpo_nil ?_
  refine awp_seq ?_
  refine awp_region rfl ?_
  refine wpo_mv (a := ((@eU .u64 64) x0)) rfl rfl rfl (o_mv tk rfl (Wk.refl _)) ?_
  refine wpo_mv (a := ((@eU .u64 64) x0)) rfl rfl rfl (o_mv tk rfl (Wk.refl _)) ?_
  refine wpo_lt H (@eU .u64 64) rfl rfl rfl (o_quo_u tk (k := .u64) (y := 8589934592#64) (z := 8589934592#64) rfl rfl rfl rfl) fun v2 H1 => ?_
  refine wpo_lt H1 (@eU .u64 64) rfl rfl rfl (o_xor_u tk rfl rfl rfl) fun v4 H3 => ?_
  refine wpo_mv (a := ((@eU .u64 64) v4)) rfl rfl rfl (o_as tk rfl (Wk.refl _)) ?_
  refine wpo_nil ?_
  refine awp_ret ?_
  obtain rfl := Option.some.inj H3
  exact ⟨_, ((@eU .u64 64) v4), rfl, (.of_eq rfl), .of_eq ((enc_u td72 sz72).cut _ _ _), hH.noT⟩
end Go.Proofs.YtkmlinaofbcbaaaDoor
namespace Go.Proofs.YtkmlinaofbcbaaaDoor
open Go Go.Va
set_option linter.unusedVariables false
set_option linter.unusedSimpArgs false
set_option maxRecDepth 20000
theorem butteryref07_Mix_ok {x0 : BitVec 64} {r : (BitVec 64)} (H : butteryref07_Mix x0 = some r) (σ : St)  : ACall Tryd.prog 129 [((@eU .u64 64) x0)] σ (fun a τ => a = (@eU .u64 64) r ∧ τ = σ) := by
  unfold butteryref07_Mix at H
  refine ACall.pure (acall_start tk Tryd.func129 (by decide) rfl (Nat.le_of_ble_eq_true rfl) ?_)
  have hH := Holds.init σ
  refine awp_seq ?_
  refine awp_region rfl ?_
  refine wpo_mv (a := ((@eU .u64 64) 0#64)) rfl rfl rfl (o_as tk rfl (Wk.refl _)) ?_
  refine wpo_nil ?_
  refine awp_seq ?_
  refine awp_region rfl ?_
  refine wpo_mv (a := ((@eU .u64 64) x0)) rfl rfl rfl (o_mv tk rfl (Wk.refl _)) ?_
  refine wpo_bd H (@eU .u64 64) rfl rfl rfl (fun v2 hv => OpP.of_call rfl rfl (.cons (.of_eq rfl) .nil) (butteryref07_fold_ok hv)) fun v2 hv2 H1 => ?_
  refine wpo_lt H1 (@eU .u64 64) rfl rfl rfl (o_mul_u tk rfl rfl rfl) fun v4 H3 => ?_
  refine wpo_mv (a := ((@eU .u64 64) v4)) rfl rfl rfl (o_as tk rfl (Wk.refl _)) ?_
  refine wpo_nil ?_
  refine awp_seq ?_
  refine awp_region rfl ?_
  refine wpo_mv (a := ((@eU .u64 64) v4)) rfl rfl rfl (o_mv tk rfl (Wk.refl _)) ?_
  refine wpo_bd H3 (@eU .u64 64) rfl rfl rfl (fun v6 hv => OpP.of_call rfl rfl (.cons (.of_eq rfl) .nil) (butteryref07_fold_ok hv)) fun v6 hv6 H5 => ?_
  refine wpo_lt H5 (@eU .u64 64) rfl rfl rfl (o_mul_u tk rfl rfl rfl) fun v8 H7 => ?_
  refine wpo_bd H7 (@eU .u64 64) rfl rfl rfl (fun v10 hv => OpP.of_call rfl rfl (.cons (.of_eq rfl) .nil) (butteryref07_fold_ok hv)) fun v10 hv10 H9 => ?_
  refine wpo_mv (a := ((@eU .u64 64) v10)) rfl rfl rfl (o_as tk rfl (Wk.refl _)) ?_
  refine wpo_nil ?_
  refine awp_ret ?_
  obtain rfl := Option.some.inj H9
  exact ⟨_, ((@eU .u64 64) v10), rfl, (.of_eq rfl), .of_eq ((enc_u td72 sz72).cut _ _ _), hH.noT⟩
end Go.Proofs.YtkmlinaofbcbaaaDoor
namespace Go.Proofs.YtkmlinaofbcbaaaDoor
open Go Go.Va
set_option linter.unusedVariables false
set_option linter.unusedSimpArgs false
set_option maxRecDepth 20000
theorem butteryref07_Hash_ok {x0 : List (BitVec 8)} {r : (BitVec 64)} (H : butteryref07_Hash x0 = some r) (σ : St)  : ACall Tryd.prog 101 [(eS x0)] σ (fun a τ => a = (@eU .u64 64) r ∧ τ = σ) := by
  unfold butteryref07_Hash at H
  refine ACall.pure (acall_start tk Tryd.func101 (by decide) rfl (Nat.le_of_ble_eq_true rfl) ?_)
  have hH := Holds.init σ
  refine awp_seq ?_
  refine awp_region rfl ?_
  refine wpo_mv (a := ((@eU .u64 64) 0#64)) rfl rfl rfl (o_as tk rfl (Wk.refl _)) ?_
  refine wpo_nil ?_
  refine awp_seq ?_
  refine awp_region rfl ?_
  refine wpo_mv (a := ((@eU .u64 64) 14695981039346656037#64)) rfl rfl rfl (o_as tk rfl (Wk.refl _)) ?_
  refine wpo_nil ?_
  refine awp_seq ?_
  refine awp_seq ?_
  refine awp_region rfl ?_
  refine wpo_mv (a := (eI (0 : Int))) rfl rfl rfl (o_as tk rfl (Wk.refl _)) ?_
  refine wpo_nil ?_
  refine awp_block ?_
  obtain ⟨s10, hs4, hj5⟩ := Option.bind_eq_some_iff.1 H
  refine awp_cutx 0 (fun fr τ => WkF fr (fm [(3, ((@eU .u64 64) s10))]) ∧ Holds σ [] [] τ) ?_ ?_
  · rintro fr τ ⟨hfr, hH⟩
    have H27 := hj5
    refine AWP.fm [(3, ((@eU .u64 64) s10))] hfr ?_
    refine awp_seq ?_
    refine awp_region rfl ?_
    refine wpo_mv (a := ((@eU .u64 64) s10)) rfl rfl rfl (o_mv tk rfl (Wk.refl _)) ?_
    refine wpo_bd H27 (@eU .u64 64) rfl rfl rfl (fun v29 hv => OpP.of_call rfl rfl (.cons (.of_eq rfl) .nil) (butteryref07_Mix_ok hv)) fun v29 hv29 H28 => ?_
    refine wpo_mv (a := ((@eU .u64 64) v29)) rfl rfl rfl (o_as tk rfl (Wk.refl _)) ?_
    refine wpo_nil ?_
    refine awp_ret ?_
    obtain rfl := Option.some.inj H28
    exact ⟨_, ((@eU .u64 64) v29), rfl, (.of_eq rfl), .of_eq ((enc_u td72 sz72).cut _ _ _), hH.noT⟩
  · refine awp_loopO (body := fun s => butteryref07_Hash_b0 x0 s.1 s.2) hs4 (fun (s : (BitVec 64) × Int) fr τ => WkF fr (fm [(0, (eS x0)), (3, ((@eU .u64 64) s.1)), (4, (eI s.2))]) ∧ Holds σ [] [] τ) ⟨(wkf_cons (.of_eq rfl) (wkf_cons (.of_eq rfl) (wkf_cons (.of_eq rfl) (wkf_nil _)))), hH⟩ ?_
    rintro ⟨c1, c2⟩ fr τ y6 ⟨hfr, hH⟩ hb8 hy9
    have H11 : butteryref07_Hash_b0 x0 c1 c2 = some y6 := hb8
    unfold butteryref07_Hash_b0 at H11
    refine AWP.fm [(0, (eS x0)), (3, ((@eU .u64 64) c1)), (4, (eI c2))] hfr ?_
    have hH : Holds σ [] [] τ := hH
    refine awp_seq ?_
    refine awp_seq ?_
    refine awp_region rfl ?_
    refine wpo_mv (a := (eI c2)) rfl rfl rfl (o_mv tk rfl (Wk.refl _)) ?_
    refine wpo_mv (a := (eS x0)) rfl rfl rfl (o_mv tk rfl (Wk.refl _)) ?_
    refine wpo_lt H11 eI rfl rfl rfl (o_len_s tk td9 rfl) fun v13 H12 => ?_
    refine wpo_lt H12 eB rfl rfl rfl (o_ar tk rfl rfl rfl) fun v15 H14 => ?_
    refine wpo_nil ?_
    refine awp_if H14 rfl (fun H16 => ?_) (fun H16 => ?_)
    · refine awp_skip ?_
      refine awp_seq ?_
      refine awp_block ?_
      refine awp_seq ?_
      refine awp_region rfl ?_
      refine wpo_mv (a := ((@eU .u64 64) c1)) rfl rfl rfl (o_mv tk rfl (Wk.refl _)) ?_
      refine wpo_mv (a := (eS x0)) rfl rfl rfl (o_mv tk rfl (Wk.refl _)) ?_
      refine wpo_mv (a := (eI c2)) rfl rfl rfl (o_mv tk rfl (Wk.refl _)) ?_
      refine wpo_bd H16 (@eU .u8 8) rfl rfl rfl (fun v18 hv => o_six tk hv td9 rfl rfl) fun v18 hv18 H17 => ?_
      refine wpo_lt H17 (@eU .u64 64) rfl rfl rfl (o_cv_uu tk td5 td72 rfl rfl) fun v20 H19 => ?_
      refine wpo_lt H19 (@eU .u64 64) rfl rfl rfl (o_xor_u tk rfl rfl rfl) fun v22 H21 => ?_
      refine wpo_mv (a := ((@eU .u64 64) v22)) rfl rfl rfl (o_as tk rfl (Wk.refl _)) ?_
      refine wpo_nil ?_
      refine awp_region rfl ?_
      refine wpo_mv (a := ((@eU .u64 64) v22)) rfl rfl rfl (o_mv tk rfl (Wk.refl _)) ?_
      refine wpo_lt H21 (@eU .u64 64) rfl rfl rfl (o_mul_u tk rfl rfl rfl) fun v24 H23 => ?_
      refine wpo_mv (a := ((@eU .u64 64) v24)) rfl rfl rfl (o_as tk rfl (Wk.refl _)) ?_
      refine wpo_nil ?_
      refine awp_region rfl ?_
      refine wpo_mv (a := (eI c2)) rfl rfl rfl (o_mv tk rfl (Wk.refl _)) ?_
      refine wpo_lt H23 eI rfl rfl rfl (o_ar tk rfl rfl rfl) fun v26 H25 => ?_
      refine wpo_mv (a := (eI v26)) rfl rfl rfl (o_as tk rfl (Wk.refl _)) ?_
      refine wpo_nil ?_
      exact ⟨(v24, v26), inj_inl H25, (wkf_cons (.of_eq rfl) (wkf_cons (.of_eq rfl) (wkf_cons (.of_eq rfl) (wkf_nil _)))), hH⟩
    · refine awp_exit ?_
      have hz := hy9 _ (inj_inr H16)
      subst hz
      exact ⟨⟨_, inj_inr H16⟩, (wkf_cons (.of_eq rfl) (wkf_nil _)), hH⟩
end Go.Proofs.YtkmlinaofbcbaaaDoor
namespace Go.Proofs.YtkmlinaofbcbaaaDoor
open Go Go.Va
set_option linter.unusedVariables false
set_option linter.unusedSimpArgs false
set_option maxRecDepth 20000
theorem butteryref07_Keys_app {x0 : List (List (BitVec 8))} {r : (List (BitVec 64))} (H : butteryref07_Keys x0 = some r) (σ : St)  : ACall Tryd.prog 56 [((eL 1 eS) x0)] σ (fun a τ => a = .sl (.own σ.opn.length) 1 (r.map (@eU .u64 64)) ∧ τ = σ.more) := by
  unfold butteryref07_Keys at H
  refine ACall.app (fun ρ κ => cutL_enc (enc_u td72 sz72).cut ρ κ r) (acall_start tk Tryd.func56 (by decide) rfl (Nat.le_of_ble_eq_true rfl) ?_)
  have hH := Holds.init σ
  refine awp_seq ?_
  refine awp_region rfl ?_
  refine wpo_mv (a := AV.nils) rfl rfl rfl (o_as tk rfl (Wk.refl _)) ?_
  refine wpo_nil ?_
  refine awp_seq ?_
  refine awp_region rfl ?_
  refine wpo_mv (a := AV.nils) rfl rfl rfl (o_as tk rfl (Wk.refl _)) ?_
  refine wpo_nil ?_
  refine awp_seq ?_
  refine awp_seq ?_
  refine awp_region rfl ?_
  refine wpo_mv (a := (eI (0 : Int))) rfl rfl rfl (o_as tk rfl (Wk.refl _)) ?_
  refine wpo_nil ?_
  refine awp_block ?_
  refine AWP.tokN hH 3 1 rfl fun tk3 τ hH => ?_
  obtain ⟨s11, hs5, hj6⟩ := Option.bind_eq_some_iff.1 H
  refine awp_cutx 0 (fun fr τ => ∃ tk_3, WkF fr (fm [(3, (eT tk_3 1 (@eU .u64 64) s11))]) ∧ Holds σ [] [tk_3] τ) ?_ ?_
  · rintro fr τ ⟨tk_3, hfr, hH⟩
    have H30 := hj6
    refine AWP.fm [(3, (eT tk_3 1 (@eU .u64 64) s11))] hfr ?_
    refine awp_seq ?_
    refine awp_region rfl ?_
    refine wpo_mv (a := (eT tk_3 1 (@eU .u64 64) s11)) rfl rfl rfl (o_mv tk rfl (Wk.refl _)) ?_
    refine wpo_mv (a := (eT tk_3 1 (@eU .u64 64) s11)) rfl rfl rfl (o_as tk rfl (Wk.refl _)) ?_
    refine wpo_nil ?_
    refine awp_ret ?_
    obtain rfl := Option.some.inj H30
    exact ⟨_, (eT tk_3 1 (@eU .u64 64) s11), rfl, .of_eq rfl, tk_3, rfl, hH⟩
  · refine awp_loopO (body := fun s => butteryref07_Keys_b0 x0 s.1 s.2) hs5 (fun (s : (List (BitVec 64)) × Int) fr τ => ∃ tk_3, WkF fr (fm [(0, ((eL 1 eS) x0)), (3, (eT tk_3 1 (@eU .u64 64) s.1)), (4, (eI s.2))]) ∧ Holds σ [] [tk_3] τ) ⟨tk3, (wkf_cons (.of_eq rfl) (wkf_cons (.of_eq rfl) (wkf_cons (.of_eq rfl) (wkf_nil _)))), hH⟩ ?_
    rintro ⟨c1, c2⟩ fr τ y7 ⟨tk_3, hfr, hH⟩ hb9 hy10
    have H12 : butteryref07_Keys_b0 x0 c1 c2 = some y7 := hb9
    unfold butteryref07_Keys_b0 at H12
    refine AWP.fm [(0, ((eL 1 eS) x0)), (3, (eT tk_3 1 (@eU .u64 64) c1)), (4, (eI c2))] hfr ?_
    have hH : Holds σ [] [tk_3] τ := hH
    refine awp_seq ?_
    refine awp_seq ?_
    refine awp_region rfl ?_
    refine wpo_mv (a := (eI c2)) rfl rfl rfl (o_mv tk rfl (Wk.refl _)) ?_
    refine wpo_mv (a := ((eL 1 eS) x0)) rfl rfl rfl (o_mv tk rfl (Wk.refl _)) ?_
    refine wpo_lt H12 eI rfl rfl rfl (o_len tk td98 rfl) fun v14 H13 => ?_
    refine wpo_lt H13 eB rfl rfl rfl (o_ar tk rfl rfl rfl) fun v16 H15 => ?_
    refine wpo_nil ?_
    refine awp_if H15 rfl (fun H17 => ?_) (fun H17 => ?_)
    · refine awp_skip ?_
      refine awp_seq ?_
      refine awp_block ?_
      refine awp_region rfl ?_
      refine wpo_mv (a := (eT tk_3 1 (@eU .u64 64) c1)) rfl rfl rfl (o_mv tk rfl (Wk.refl _)) ?_
      refine wpo_mv (a := ((eL 1 eS) x0)) rfl rfl rfl (o_mv tk rfl (Wk.refl _)) ?_
      refine wpo_mv (a := (eI c2)) rfl rfl rfl (o_mv tk rfl (Wk.refl _)) ?_
      refine wpo_bd H17 (fun y => .fptr (eS y).cells 0) rfl rfl rfl (fun v19 hv => o_ixa tk hv td98 (enc_s td9 sz9) rfl rfl) fun v19 hv19 H18 => ?_
      refine wpo_mv (a := (eS v19)) rfl rfl rfl (o_ld_e tk (enc_s td9 sz9) rfl rfl) ?_
      refine wpo_bd H18 (@eU .u64 64) rfl rfl rfl (fun v21 hv => OpP.of_call rfl rfl (.cons (.of_eq rfl) .nil) (butteryref07_Hash_ok hv)) fun v21 hv21 H20 => ?_
      refine wpo_lt H20 (eF 1 (@eU .u64 64)) rfl rfl rfl (o_c tk false rfl (fun _ => rfl)) fun v23 H22 => ?_
      obtain ⟨v25, hv26, H24⟩ := Option.bind_eq_some_iff.1 H22
      refine wpo_a (av := fun t => eT t 1 (@eU .u64 64) v25) rfl rfl rfl (h_app tk hH 0 hv26 rfl td96 ty72 rfl (by decide) rfl (src_l td96 rfl)) fun tk27 τ hH => ?_
      refine wpo_mv (a := (eT tk27 1 (@eU .u64 64) v25)) rfl rfl rfl (o_as tk rfl (Wk.refl _)) ?_
      refine wpo_nil ?_
      refine awp_region rfl ?_
      refine wpo_mv (a := (eI c2)) rfl rfl rfl (o_mv tk rfl (Wk.refl _)) ?_
      refine wpo_lt H24 eI rfl rfl rfl (o_ar tk rfl rfl rfl) fun v29 H28 => ?_
      refine wpo_mv (a := (eI v29)) rfl rfl rfl (o_as tk rfl (Wk.refl _)) ?_
      refine wpo_nil ?_
      exact ⟨(v25, v29), inj_inl H28, tk27, (wkf_cons (.of_eq rfl) (wkf_cons (.of_eq rfl) (wkf_cons (.of_eq rfl) (wkf_nil _)))), hH⟩
    · refine awp_exit ?_
      have hz := hy10 _ (inj_inr H17)
      subst hz
      exact ⟨⟨_, inj_inr H17⟩, tk_3, (wkf_cons (.of_eq rfl) (wkf_nil _)), hH⟩
theorem butteryref07_Keys_ok {x0 : List (List (BitVec 8))} {r : (List (BitVec 64))} (H : butteryref07_Keys x0 = some r) (σ : St) : ACall Tryd.prog 56 [((eL 1 eS) x0)] σ (fun a τ => a = (eL 1 (@eU .u64 64)) r ∧ τ = σ) := (butteryref07_Keys_app H σ).unapp (fun ρ κ => cutL_enc (enc_u td72 sz72).cut ρ κ r)
end Go.Proofs.YtkmlinaofbcbaaaDoor
namespace Go.Proofs.YtkmlinaofbcbaaaDoor
open Go Go.Va
set_option linter.unusedVariables false
set_option linter.unusedSimpArgs false
set_option maxRecDepth 20000
theorem butteryref12_Keys_app {x0 : List api_Entry} {r : (List (List (BitVec 8)))} (H : butteryref12_Keys x0 = some r) (σ : St)  : ACall Tryd.prog 57 [((eL 5 e_api_Entry) x0)] σ (fun a τ => a = .sl (.own σ.opn.length) 1 (r.map eS) ∧ τ = σ.more) := by
  unfold butteryref12_Keys at H
  refine ACall.app (fun ρ κ => cutL_enc (enc_s td9 sz9).cut ρ κ r) (acall_start tk Tryd.func57 (by decide) rfl (Nat.le_of_ble_eq_true rfl) ?_)
  have hH := Holds.init σ
  refine awp_seq ?_
  refine awp_region rfl ?_
  refine wpo_mv (a := AV.nils) rfl rfl rfl (o_as tk rfl (Wk.refl _)) ?_
  refine wpo_nil ?_
  refine awp_seq ?_
  refine awp_region rfl ?_
  refine wpo_mv (a := AV.nils) rfl rfl rfl (o_as tk rfl (Wk.refl _)) ?_
  refine wpo_nil ?_
  refine awp_seq ?_
  refine awp_seq ?_
  refine awp_region rfl ?_
  refine wpo_mv (a := (eI (0 : Int))) rfl rfl rfl (o_as tk rfl (Wk.refl _)) ?_
  refine wpo_nil ?_
  refine awp_block ?_
  refine AWP.tokN hH 3 1 rfl fun tk3 τ hH => ?_
  obtain ⟨s11, hs5, hj6⟩ := Option.bind_eq_some_iff.1 H
  refine awp_cutx 0 (fun fr τ => ∃ tk_3, WkF fr (fm [(3, (eT tk_3 1 eS s11))]) ∧ Holds σ [] [tk_3] τ) ?_ ?_
  · rintro fr τ ⟨tk_3, hfr, hH⟩
    have H28 := hj6
    refine AWP.fm [(3, (eT tk_3 1 eS s11))] hfr ?_
    refine awp_seq ?_
    refine awp_region rfl ?_
    refine wpo_mv (a := (eT tk_3 1 eS s11)) rfl rfl rfl (o_mv tk rfl (Wk.refl _)) ?_
    refine wpo_mv (a := (eT tk_3 1 eS s11)) rfl rfl rfl (o_as tk rfl (Wk.refl _)) ?_
    refine wpo_nil ?_
    refine awp_ret ?_
    obtain rfl := Option.some.inj H28
    exact ⟨_, (eT tk_3 1 eS s11), rfl, .of_eq rfl, tk_3, rfl, hH⟩
  · refine awp_loopO (body := fun s => butteryref12_Keys_b0 x0 s.1 s.2) hs5 (fun (s : (List (List (BitVec 8))) × Int) fr τ => ∃ tk_3, WkF fr (fm [(0, ((eL 5 e_api_Entry) x0)), (3, (eT tk_3 1 eS s.1)), (4, (eI s.2))]) ∧ Holds σ [] [tk_3] τ) ⟨tk3, (wkf_cons (.of_eq rfl) (wkf_cons (.of_eq rfl) (wkf_cons (.of_eq rfl) (wkf_nil _)))), hH⟩ ?_
    rintro ⟨c1, c2⟩ fr τ y7 ⟨tk_3, hfr, hH⟩ hb9 hy10
    have H12 : butteryref12_Keys_b0 x0 c1 c2 = some y7 := hb9
    unfold butteryref12_Keys_b0 at H12
    refine AWP.fm [(0, ((eL 5 e_api_Entry) x0)), (3, (eT tk_3 1 eS c1)), (4, (eI c2))] hfr ?_
    have hH : Holds σ [] [tk_3] τ := hH
    refine awp_seq ?_
    refine awp_seq ?_
    refine awp_region rfl ?_
    refine wpo_mv (a := (eI c2)) rfl rfl rfl (o_mv tk rfl (Wk.refl _)) ?_
    refine wpo_mv (a := ((eL 5 e_api_Entry) x0)) rfl rfl rfl (o_mv tk rfl (Wk.refl _)) ?_
    refine wpo_lt H12 eI rfl rfl rfl (o_len tk td60 rfl) fun v14 H13 => ?_
    refine wpo_lt H13 eB rfl rfl rfl (o_ar tk rfl rfl rfl) fun v16 H15 => ?_
    refine wpo_nil ?_
    refine awp_if H15 rfl (fun H17 => ?_) (fun H17 => ?_)
    · refine awp_skip ?_
      refine awp_seq ?_
      refine awp_block ?_
      refine awp_region rfl ?_
      refine wpo_mv (a := (eT tk_3 1 eS c1)) rfl rfl rfl (o_mv tk rfl (Wk.refl _)) ?_
      refine wpo_mv (a := ((eL 5 e_api_Entry) x0)) rfl rfl rfl (o_mv tk rfl (Wk.refl _)) ?_
      refine wpo_mv (a := (eI c2)) rfl rfl rfl (o_mv tk rfl (Wk.refl _)) ?_
      refine wpo_bd H17 (fun y => .fptr (e_api_Entry y).cells 0) rfl rfl rfl (fun v19 hv => o_ixa tk hv td60 enc24 rfl rfl) fun v19 hv19 H18 => ?_
      refine wpo_mv (a := (.fptr (c_api_Entry v19) 0)) rfl rfl rfl (o_c tk false rfl (fun _ => rfl)) ?_
      refine wpo_mv (a := (eS v19.Key)) rfl rfl rfl (o_ld tk rfl rfl) ?_
      refine wpo_lt H18 (eF 1 eS) rfl rfl rfl (o_c tk false rfl (fun _ => rfl)) fun v21 H20 => ?_
      obtain ⟨v23, hv24, H22⟩ := Option.bind_eq_some_iff.1 H20
      refine wpo_a (av := fun t => eT t 1 eS v23) rfl rfl rfl (h_app tk hH 0 hv24 rfl td98 ty9 rfl (by decide) rfl (src_l td98 rfl)) fun tk25 τ hH => ?_
      refine wpo_mv (a := (eT tk25 1 eS v23)) rfl rfl rfl (o_as tk rfl (Wk.refl _)) ?_
      refine wpo_nil ?_
      refine awp_region rfl ?_
      refine wpo_mv (a := (eI c2)) rfl rfl rfl (o_mv tk rfl (Wk.refl _)) ?_
      refine wpo_lt H22 eI rfl rfl rfl (o_ar tk rfl rfl rfl) fun v27 H26 => ?_
      refine wpo_mv (a := (eI v27)) rfl rfl rfl (o_as tk rfl (Wk.refl _)) ?_
      refine wpo_nil ?_
      exact ⟨(v23, v27), inj_inl H26, tk25, (wkf_cons (.of_eq rfl) (wkf_cons (.of_eq rfl) (wkf_cons (.of_eq rfl) (wkf_nil _)))), hH⟩
    · refine awp_exit ?_
      have hz := hy10 _ (inj_inr H17)
      subst hz
      exact ⟨⟨_, inj_inr H17⟩, tk_3, (wkf_cons (.of_eq rfl) (wkf_nil _)), hH⟩
theorem butteryref12_Keys_ok {x0 : List api_Entry} {r : (List (List (BitVec 8)))} (H : butteryref12_Keys x0 = some r) (σ : St) : ACall Tryd.prog 57 [((eL 5 e_api_Entry) x0)] σ (fun a τ => a = (eL 1 eS) r ∧ τ = σ) := (butteryref12_Keys_app H σ).unapp (fun ρ κ => cutL_enc (enc_s td9 sz9).cut ρ κ r)
end Go.Proofs.YtkmlinaofbcbaaaDoor
namespace Go.Proofs.YtkmlinaofbcbaaaDoor
open Go Go.Va
set_option linter.unusedVariables false
set_option linter.unusedSimpArgs false
set_option maxRecDepth 20000
theorem butterylaw12_BucketDoes_ok {x0 : List api_Entry} {x1 : api_Entry} {x2 : List (BitVec 8)} {r : Bool} (H : butterylaw12_BucketDoes x0 x1 x2 = some r) (σ : St)  (hg : σ.gl = gls) : ACall Tryd.prog 10 [((eL 5 e_api_Entry) x0), (e_api_Entry x1), (eS x2)] σ (fun a τ => a = eB r ∧ τ = σ) := by
  unfold butterylaw12_BucketDoes at H
  refine ACall.pure (acall_start tk Tryd.func10 (by decide) rfl (Nat.le_of_ble_eq_true rfl) ?_)
  have hH := Holds.init σ
  refine awp_seq ?_
  refine awp_region rfl ?_
  refine wpo_mv (a := (.fptr (c_api_Entry x1) 0)) rfl rfl rfl (o_boxf tk rfl (.of_eq rfl) (b := (e_api_Entry x1)) (enc24.flat _)) ?_
  refine wpo_mv (a := (eB false)) rfl rfl rfl (o_as tk rfl (Wk.refl _)) ?_
  refine wpo_nil ?_
  refine awp_seq ?_
  refine awp_seq ?_
  obtain ⟨s1, hs3, hj4⟩ := Option.bind_eq_some_iff.1 H
  refine awp_cutn (fun fr τ => WkF fr (fm [(0, ((eL 5 e_api_Entry) x0)), (2, (eS x2)), (4, (.fptr (c_api_Entry x1) 0)), (35, (eB s1))]) ∧ Holds σ [] [] τ) ?_ ?_
  · rintro fr τ ⟨hfr, hH⟩
    have H26 := hj4
    refine AWP.fm [(0, ((eL 5 e_api_Entry) x0)), (2, (eS x2)), (4, (.fptr (c_api_Entry x1) 0)), (35, (eB s1))] hfr ?_
    refine awp_if H26 rfl (fun H27 => ?_) (fun H27 => ?_)
    · refine awp_seq ?_
      refine awp_region rfl ?_
      refine wpo_bdr H27 eB rfl rfl rfl (fun v29 hv => h_callr rfl rfl .nil (butterylaw12_works_ok hv _ (hH.gl.trans hg))) fun v29 hv29 H28 => ?_
      refine wpo_mv (a := (eB v29)) rfl rfl rfl (o_as tk rfl (Wk.refl _)) ?_
      refine wpo_nil ?_
      refine awp_ret ?_
      obtain rfl := Option.some.inj H28
      exact ⟨_, (eB v29), rfl, (.of_eq rfl), .of_eq ((enc_b td4 sz4).cut _ _ _), hH.noT⟩
    · refine awp_skip ?_
      refine awp_seq ?_
      refine awp_region rfl ?_
      refine wpo_mv (a := (eF 5 e_api_Entry ([] : List api_Entry))) rfl rfl rfl (o_c tk false rfl (fun _ => rfl)) ?_
      refine wpo_mv (a := ((eL 5 e_api_Entry) x0)) rfl rfl rfl (o_mv tk rfl (Wk.refl _)) ?_
      obtain ⟨v31, hv32, H30⟩ := Option.bind_eq_some_iff.1 H27
      refine wpo_a (av := fun t => eT t 5 e_api_Entry v31) rfl rfl rfl (h_app0 tk hH hv32 td60 ty24 rfl (by decide) (.inr rfl) (src_l td60 rfl)) fun tk33 τ hH => ?_
      refine wpo_mv (a := (eT tk33 5 e_api_Entry v31)) rfl rfl rfl (o_as tk rfl (Wk.refl _)) ?_
      refine wpo_nil ?_
      refine awp_seq ?_
      refine awp_region rfl ?_
      refine wpo_mv (a := ((eL 5 e_api_Entry) x0)) rfl rfl rfl (o_mv tk rfl (Wk.refl _)) ?_
      refine wpo_mv (a := (e_api_Entry x1)) rfl rfl rfl (o_ld tk rfl rfl) ?_
      refine wpo_bd H30 (fun r => .tup [(eL 5 e_api_Entry) r.1, (eL 5 e_api_Entry) r.2.1, eErr r.2.2]) rfl rfl rfl (fun v35 hv => OpP.of_call rfl rfl (.cons (.of_eq rfl) (.cons (.of_eq rfl) .nil)) (bucket_Insert_ok hv)) fun v35 hv35 H34 => ?_
      refine wpo_mv (a := (.tup [((eL 5 e_api_Entry) v35.1), ((eL 5 e_api_Entry) v35.2.1), (eErr v35.2.2)])) rfl rfl rfl (o_mv tk rfl (Wk.refl _)) ?_
      refine wpo_mv (a := ((eL 5 e_api_Entry) v35.1)) rfl rfl rfl (o_ext tk rfl rfl) ?_
      refine wpo_mv (a := ((eL 5 e_api_Entry) v35.2.1)) rfl rfl rfl (o_ext tk rfl rfl) ?_
      refine wpo_mv (a := (eErr v35.2.2)) rfl rfl rfl (o_ext tk rfl rfl) ?_
      refine wpo_mv (a := ((eL 5 e_api_Entry) v35.1)) rfl rfl rfl (o_as tk rfl (Wk.refl _)) ?_
      refine wpo_mv (a := ((eL 5 e_api_Entry) v35.2.1)) rfl rfl rfl (o_as tk rfl (Wk.refl _)) ?_
      refine wpo_mv (a := (eErr v35.2.2)) rfl rfl rfl (o_as tk rfl (Wk.refl _)) ?_
      refine wpo_nil ?_
      refine awp_seq ?_
      refine awp_region rfl ?_
      refine wpo_mv (a := (eT tk33 5 e_api_Entry v31)) rfl rfl rfl (o_mv tk rfl (Wk.refl _)) ?_
      refine wpo_mv (a := (e_api_Entry x1)) rfl rfl rfl (o_ld tk rfl rfl) ?_
      refine wpo_bd H34 (fun r => .tup [(eL 5 e_api_Entry) r.1, (eL 5 e_api_Entry) r.2.1, eI r.2.2]) rfl rfl rfl (fun v37 hv => OpP.of_call rfl rfl (.cons wk_no (.cons (.of_eq rfl) .nil)) (butteryref12_Insert_ok hv)) fun v37 hv37 H36 => ?_
      refine wpo_mv (a := (.tup [((eL 5 e_api_Entry) v37.1), ((eL 5 e_api_Entry) v37.2.1), (eI v37.2.2)])) rfl rfl rfl (o_mv tk rfl (Wk.refl _)) ?_
      refine wpo_mv (a := ((eL 5 e_api_Entry) v37.1)) rfl rfl rfl (o_ext tk rfl rfl) ?_
      refine wpo_mv (a := ((eL 5 e_api_Entry) v37.2.1)) rfl rfl rfl (o_ext tk rfl rfl) ?_
      refine wpo_mv (a := (eI v37.2.2)) rfl rfl rfl (o_ext tk rfl rfl) ?_
      refine wpo_mv (a := ((eL 5 e_api_Entry) v37.1)) rfl rfl rfl (o_as tk rfl (Wk.refl _)) ?_
      refine wpo_mv (a := ((eL 5 e_api_Entry) v37.2.1)) rfl rfl rfl (o_as tk rfl (Wk.refl _)) ?_
      refine wpo_mv (a := (eI v37.2.2)) rfl rfl rfl (o_as tk rfl (Wk.refl _)) ?_
      refine wpo_nil ?_
      refine awp_seq ?_
      refine awp_seq ?_
      obtain ⟨s38, hs40, hj41⟩ := Option.bind_eq_some_iff.1 H36
      refine awp_cutn (fun fr τ => WkF fr (fm [(0, ((eL 5 e_api_Entry) x0)), (2, (eS x2)), (7, (eT tk33 5 e_api_Entry v31)), (69, (eB s38))]) ∧ Holds σ [] [tk33] τ) ?_ ?_
      · rintro fr τ ⟨hfr, hH⟩
        have H56 := hj41
        refine AWP.fm [(0, ((eL 5 e_api_Entry) x0)), (2, (eS x2)), (7, (eT tk33 5 e_api_Entry v31)), (69, (eB s38))] hfr ?_
        refine awp_if H56 rfl (fun H57 => ?_) (fun H57 => ?_)
        · refine awp_seq ?_
          refine awp_region rfl ?_
          refine wpo_mv (a := (eB false)) rfl rfl rfl (o_as tk rfl (Wk.refl _)) ?_
          refine wpo_nil ?_
          refine awp_ret ?_
          obtain rfl := Option.some.inj H57
          exact ⟨_, (eB false), rfl, (.of_eq rfl), .of_eq ((enc_b td4 sz4).cut _ _ _), hH.noT⟩
        · refine awp_skip ?_
          refine awp_seq ?_
          refine awp_region rfl ?_
          refine wpo_mv (a := ((eL 5 e_api_Entry) x0)) rfl rfl rfl (o_mv tk rfl (Wk.refl _)) ?_
          refine wpo_mv (a := (eS x2)) rfl rfl rfl (o_mv tk rfl (Wk.refl _)) ?_
          refine wpo_bd H57 (fun r => .tup [(eL 5 e_api_Entry) r.1, eB r.2]) rfl rfl rfl (fun v59 hv => OpP.of_call rfl rfl (.cons (.of_eq rfl) (.cons (.of_eq rfl) .nil)) (bucket_Remove_ok hv)) fun v59 hv59 H58 => ?_
          refine wpo_mv (a := (.tup [((eL 5 e_api_Entry) v59.1), (eB v59.2)])) rfl rfl rfl (o_mv tk rfl (Wk.refl _)) ?_
          refine wpo_mv (a := ((eL 5 e_api_Entry) v59.1)) rfl rfl rfl (o_ext tk rfl rfl) ?_
          refine wpo_mv (a := (eB v59.2)) rfl rfl rfl (o_ext tk rfl rfl) ?_
          refine wpo_mv (a := ((eL 5 e_api_Entry) v59.1)) rfl rfl rfl (o_as tk rfl (Wk.refl _)) ?_
          refine wpo_mv (a := (eB v59.2)) rfl rfl rfl (o_as tk rfl (Wk.refl _)) ?_
          refine wpo_nil ?_
          refine awp_seq ?_
          refine awp_region rfl ?_
          refine wpo_mv (a := (eS x2)) rfl rfl rfl (o_mv tk rfl (Wk.refl _)) ?_
          refine wpo_bd H58 (@eU .u64 64) rfl rfl rfl (fun v61 hv => OpP.of_call rfl rfl (.cons (.of_eq rfl) .nil) (bloom_Hash_ok hv)) fun v61 hv61 H60 => ?_
          refine wpo_mv (a := ((@eU .u64 64) v61)) rfl rfl rfl (o_as tk rfl (Wk.refl _)) ?_
          refine wpo_nil ?_
          refine awp_seq ?_
          refine awp_region rfl ?_
          refine wpo_mv (a := ((eL 5 e_api_Entry) v59.1)) rfl rfl rfl (o_mv tk rfl (Wk.refl _)) ?_
          refine wpo_mv (a := (eT tk33 5 e_api_Entry v31)) rfl rfl rfl (o_mv tk rfl (Wk.refl _)) ?_
          refine wpo_mv (a := (eS x2)) rfl rfl rfl (o_mv tk rfl (Wk.refl _)) ?_
          refine wpo_bd H60 (eL 5 e_api_Entry) rfl rfl rfl (fun v63 hv => OpP.of_call rfl rfl (.cons wk_no (.cons (.of_eq rfl) .nil)) (butteryref12_But_ok hv)) fun v63 hv63 H62 => ?_
          refine wpo_bd H62 eB rfl rfl rfl (fun v65 hv => OpP.of_call rfl rfl (.cons (.of_eq rfl) (.cons (.of_eq rfl) .nil)) (butteryref06_SameAll_ok hv)) fun v65 hv65 H64 => ?_
          refine wpo_mv (a := (eB v65)) rfl rfl rfl (o_mv tk rfl (Wk.refl _)) ?_
          refine if_split H64 (fun hb H66 => ?_) (fun hb H66 => ?_)
          · subst hb
            refine wpo_mv (a := (eB v59.2)) rfl rfl rfl (o_mv tk rfl (Wk.refl _)) ?_
            refine wpo_mv (a := (eT tk33 5 e_api_Entry v31)) rfl rfl rfl (o_mv tk rfl (Wk.refl _)) ?_
            refine wpo_mv (a := (eS x2)) rfl rfl rfl (o_mv tk rfl (Wk.refl _)) ?_
            refine wpo_bd H66 eI rfl rfl rfl (fun v68 hv => OpP.of_call rfl rfl (.cons wk_no (.cons (.of_eq rfl) .nil)) (butteryref06_Find_ok hv)) fun v68 hv68 H67 => ?_
            refine wpo_lt H67 eB rfl rfl rfl (o_ar tk rfl rfl rfl) fun v70 H69 => ?_
            refine wpo_lt H69 eB rfl rfl rfl (o_bool_eql tk td4 rfl rfl) fun v72 H71 => ?_
            refine wpo_mv (a := (eB v72)) rfl rfl rfl (o_pick_t tk rfl rfl (Wk.refl _)) ?_
            refine wpo_mv (a := (eB v72)) rfl rfl rfl (o_mv tk rfl (Wk.refl _)) ?_
            refine if_split H71 (fun hb H73 => ?_) (fun hb H73 => ?_)
            · subst hb
              refine wpo_mv (a := ((eL 5 e_api_Entry) x0)) rfl rfl rfl (o_mv tk rfl (Wk.refl _)) ?_
              refine wpo_mv (a := (eS x2)) rfl rfl rfl (o_mv tk rfl (Wk.refl _)) ?_
              refine wpo_bd H73 eI rfl rfl rfl (fun v75 hv => OpP.of_call rfl rfl (.cons (.of_eq rfl) (.cons (.of_eq rfl) .nil)) (bucket_Find_ok hv)) fun v75 hv75 H74 => ?_
              refine wpo_mv (a := (eT tk33 5 e_api_Entry v31)) rfl rfl rfl (o_mv tk rfl (Wk.refl _)) ?_
              refine wpo_mv (a := (eS x2)) rfl rfl rfl (o_mv tk rfl (Wk.refl _)) ?_
              refine wpo_bd H74 eI rfl rfl rfl (fun v77 hv => OpP.of_call rfl rfl (.cons wk_no (.cons (.of_eq rfl) .nil)) (butteryref06_Find_ok hv)) fun v77 hv77 H76 => ?_
              refine wpo_lt H76 eB rfl rfl rfl (o_ar tk rfl rfl rfl) fun v79 H78 => ?_
              refine wpo_mv (a := (eB v79)) rfl rfl rfl (o_pick_t tk rfl rfl (Wk.refl _)) ?_
              refine wpo_mv (a := (eB v79)) rfl rfl rfl (o_mv tk rfl (Wk.refl _)) ?_
              refine if_split H78 (fun hb H80 => ?_) (fun hb H80 => ?_)
              · subst hb
                refine wpo_mv (a := ((eL 5 e_api_Entry) x0)) rfl rfl rfl (o_mv tk rfl (Wk.refl _)) ?_
                refine wpo_bd H80 eI rfl rfl rfl (fun v82 hv => OpP.of_call rfl rfl (.cons (.of_eq rfl) .nil) (bucket_Size_ok hv)) fun v82 hv82 H81 => ?_
                refine wpo_mv (a := (eT tk33 5 e_api_Entry v31)) rfl rfl rfl (o_mv tk rfl (Wk.refl _)) ?_
                refine wpo_bd H81 (eL 1 (@eU .u8 8)) rfl rfl rfl (fun v84 hv => OpP.of_call rfl rfl (.cons wk_no .nil) (butteryref06_All_ok hv)) fun v84 hv84 H83 => ?_
                refine wpo_lt H83 eI rfl rfl rfl (o_len tk td22 rfl) fun v86 H85 => ?_
                refine wpo_lt H85 eB rfl rfl rfl (o_ar tk rfl rfl rfl) fun v88 H87 => ?_
                refine wpo_mv (a := (eB v88)) rfl rfl rfl (o_pick_t tk rfl rfl (Wk.refl _)) ?_
                refine wpo_mv (a := (eB v88)) rfl rfl rfl (o_mv tk rfl (Wk.refl _)) ?_
                refine if_split H87 (fun hb H89 => ?_) (fun hb H89 => ?_)
                · subst hb
                  refine wpo_mv (a := ((eL 5 e_api_Entry) x0)) rfl rfl rfl (o_mv tk rfl (Wk.refl _)) ?_
                  refine wpo_bd H89 (eA (@eU .u64 64)) rfl rfl rfl (fun v91 hv => OpP.of_call rfl rfl (.cons (.of_eq rfl) .nil) (bucket_Filter_ok hv)) fun v91 hv91 H90 => ?_
                  refine wpo_mv (a := ((@eU .u64 64) v61)) rfl rfl rfl (o_mv tk rfl (Wk.refl _)) ?_
                  refine wpo_bd H90 eB rfl rfl rfl (fun v93 hv => OpP.of_call rfl rfl (.cons (.of_eq rfl) (.cons (.of_eq rfl) .nil)) (bloom_Filter_May_ok hv)) fun v93 hv93 H92 => ?_
                  refine wpo_mv (a := (eT tk33 5 e_api_Entry v31)) rfl rfl rfl (o_mv tk rfl (Wk.refl _)) ?_
                  refine wpo_bd H92 (eL 1 eS) rfl rfl rfl (fun v95 hv => OpP.of_call rfl rfl (.cons wk_no .nil) (butteryref12_Keys_ok hv)) fun v95 hv95 H94 => ?_
                  refine wpo_bd H94 (eL 1 (@eU .u64 64)) rfl rfl rfl (fun v97 hv => OpP.of_call rfl rfl (.cons (.of_eq rfl) .nil) (butteryref07_Keys_ok hv)) fun v97 hv97 H96 => ?_
                  refine wpo_mv (a := ((@eU .u64 64) v61)) rfl rfl rfl (o_mv tk rfl (Wk.refl _)) ?_
                  refine wpo_bd H96 eB rfl rfl rfl (fun v99 hv => OpP.of_call rfl rfl (.cons (.of_eq rfl) (.cons (.of_eq rfl) .nil)) (butteryref07_May_ok hv)) fun v99 hv99 H98 => ?_
                  refine wpo_lt H98 eB rfl rfl rfl (o_bool_eql tk td4 rfl rfl) fun v101 H100 => ?_
                  refine wpo_mv (a := (eB v101)) rfl rfl rfl (o_pick_t tk rfl rfl (Wk.refl _)) ?_
                  refine wpo_mv (a := (eB v101)) rfl rfl rfl (o_mv tk rfl (Wk.refl _)) ?_
                  refine if_split H100 (fun hb H102 => ?_) (fun hb H102 => ?_)
                  · subst hb
                    refine wpo_mv (a := ((eL 5 e_api_Entry) x0)) rfl rfl rfl (o_mv tk rfl (Wk.refl _)) ?_
                    refine wpo_mv (a := (eT tk33 5 e_api_Entry v31)) rfl rfl rfl (o_mv tk rfl (Wk.refl _)) ?_
                    refine wpo_bd H102 eB rfl rfl rfl (fun v104 hv => OpP.of_call rfl rfl (.cons (.of_eq rfl) (.cons wk_no .nil)) (butteryref06_SameAll_ok hv)) fun v104 hv104 H103 => ?_
                    refine wpo_mv (a := (eB v104)) rfl rfl rfl (o_pick_t tk rfl rfl (Wk.refl _)) ?_
                    refine wpo_mv (a := (eB v104)) rfl rfl rfl (o_mv tk rfl (Wk.refl _)) ?_
                    refine if_split H103 (fun hb H105 => ?_) (fun hb H105 => ?_)
                    · subst hb
                      refine wpo_bdr H105 eB rfl rfl rfl (fun v107 hv => h_callr rfl rfl .nil (butterylaw12_works_ok hv _ (hH.gl.trans hg))) fun v107 hv107 H106 => ?_
                      refine wpo_mv (a := (eB v107)) rfl rfl rfl (o_pick_t tk rfl rfl (Wk.refl _)) ?_
                      refine wpo_mv (a := (eB v107)) rfl rfl rfl (o_as tk rfl (Wk.refl _)) ?_
                      refine wpo_nil ?_
                      refine awp_ret ?_
                      obtain rfl := Option.some.inj H106
                      exact ⟨_, (eB v107), rfl, (.of_eq rfl), .of_eq ((enc_b td4 sz4).cut _ _ _), hH.noT⟩
                    · subst hb
                      refine wpo_skip rfl rfl rfl ?_
                      refine wpo_mv (a := (eB false)) rfl rfl rfl (o_pick_f tk rfl rfl (Wk.refl _)) ?_
                      refine wpo_mv (a := (eB false)) rfl rfl rfl (o_as tk rfl (Wk.refl _)) ?_
                      refine wpo_nil ?_
                      refine awp_ret ?_
                      obtain rfl := Option.some.inj H105
                      exact ⟨_, (eB false), rfl, (.of_eq rfl), .of_eq ((enc_b td4 sz4).cut _ _ _), hH.noT⟩
                  · subst hb
                    refine wpo_skip rfl rfl rfl ?_
                    refine wpo_skip rfl rfl rfl ?_
                    refine wpo_skip rfl rfl rfl ?_
                    refine wpo_mv (a := (eB false)) rfl rfl rfl (o_pick_f tk rfl rfl (Wk.refl _)) ?_
                    refine wpo_mv (a := (eB false)) rfl rfl rfl (o_mv tk rfl (Wk.refl _)) ?_
                    refine wpo_skip rfl rfl rfl ?_
                    refine wpo_mv (a := (eB false)) rfl rfl rfl (o_pick_f tk rfl rfl (Wk.refl _)) ?_
                    refine wpo_mv (a := (eB false)) rfl rfl rfl (o_as tk rfl (Wk.refl _)) ?_
                    refine wpo_nil ?_
                    refine awp_ret ?_
                    obtain rfl := Option.some.inj H102
                    exact ⟨_, (eB false), rfl, (.of_eq rfl), .of_eq ((enc_b td4 sz4).cut _ _ _), hH.noT⟩
                · subst hb
                  refine wpo_skip rfl rfl rfl ?_
                  refine wpo_skip rfl rfl rfl ?_
                  refine wpo_skip rfl rfl rfl ?_
                  refine wpo_skip rfl rfl rfl ?_
                  refine wpo_skip rfl rfl rfl ?_
                  refine wpo_skip rfl rfl rfl ?_
                  refine wpo_skip rfl rfl rfl ?_
                  refine wpo_skip rfl rfl rfl ?_
                  refine wpo_skip rfl rfl rfl ?_
                  refine wpo_skip rfl rfl rfl ?_
                  refine wpo_mv (a := (eB false)) rfl rfl rfl (o_pick_f tk rfl rfl (Wk.refl _)) ?_
                  refine wpo_mv (a := (eB false)) rfl rfl rfl (o_mv tk rfl (Wk.refl _)) ?_
                  refine wpo_skip rfl rfl rfl ?_
                  refine wpo_skip rfl rfl rfl ?_
                  refine wpo_skip rfl rfl rfl ?_
                  refine wpo_mv (a := (eB false)) rfl rfl rfl (o_pick_f tk rfl rfl (Wk.refl _)) ?_
                  refine wpo_mv (a := (eB false)) rfl rfl rfl (o_mv tk rfl (Wk.refl _)) ?_
                  refine wpo_skip rfl rfl rfl ?_
                  refine wpo_mv (a := (eB false)) rfl rfl rfl (o_pick_f tk rfl rfl (Wk.refl _)) ?_
                  refine wpo_mv (a := (eB false)) rfl rfl rfl (o_as tk rfl (Wk.refl _)) ?_
                  refine wpo_nil ?_
                  refine awp_ret ?_
                  obtain rfl := Option.some.inj H89
                  exact ⟨_, (eB false), rfl, (.of_eq rfl), .of_eq ((enc_b td4 sz4).cut _ _ _), hH.noT⟩
              · subst hb
                refine wpo_skip rfl rfl rfl ?_
                refine wpo_skip rfl rfl rfl ?_
                refine wpo_skip rfl rfl rfl ?_
                refine wpo_skip rfl rfl rfl ?_
                refine wpo_skip rfl rfl rfl ?_
                refine wpo_skip rfl rfl rfl ?_
                refine wpo_mv (a := (eB false)) rfl rfl rfl (o_pick_f tk rfl rfl (Wk.refl _)) ?_
                refine wpo_mv (a := (eB false)) rfl rfl rfl (o_mv tk rfl (Wk.refl _)) ?_
                refine wpo_skip rfl rfl rfl ?_
                refine wpo_skip rfl rfl rfl ?_
                refine wpo_skip rfl rfl rfl ?_
                refine wpo_skip rfl rfl rfl ?_
                refine wpo_skip rfl rfl rfl ?_
                refine wpo_skip rfl rfl rfl ?_
                refine wpo_skip rfl rfl rfl ?_
                refine wpo_skip rfl rfl rfl ?_
                refine wpo_skip rfl rfl rfl ?_
                refine wpo_skip rfl rfl rfl ?_
                refine wpo_mv (a := (eB false)) rfl rfl rfl (o_pick_f tk rfl rfl (Wk.refl _)) ?_
                refine wpo_mv (a := (eB false)) rfl rfl rfl (o_mv tk rfl (Wk.refl _)) ?_
                refine wpo_skip rfl rfl rfl ?_
                refine wpo_skip rfl rfl rfl ?_
                refine wpo_skip rfl rfl rfl ?_
                refine wpo_mv (a := (eB false)) rfl rfl rfl (o_pick_f tk rfl rfl (Wk.refl _)) ?_
                refine wpo_mv (a := (eB false)) rfl rfl rfl (o_mv tk rfl (Wk.refl _)) ?_
                refine wpo_skip rfl rfl rfl ?_
                refine wpo_mv (a := (eB false)) rfl rfl rfl (o_pick_f tk rfl rfl (Wk.refl _)) ?_
                refine wpo_mv (a := (eB false)) rfl rfl rfl (o_as tk rfl (Wk.refl _)) ?_
                refine wpo_nil ?_
                refine awp_ret ?_
                obtain rfl := Option.some.inj H80
                exact ⟨_, (eB false), rfl, (.of_eq rfl), .of_eq ((enc_b td4 sz4).cut _ _ _), hH.noT⟩
            · subst hb
              refine wpo_skip rfl rfl rfl ?_
              refine wpo_skip rfl rfl rfl ?_
              refine wpo_skip rfl rfl rfl ?_
              refine wpo_skip rfl rfl rfl ?_
              refine wpo_skip rfl rfl rfl ?_
              refine wpo_skip rfl rfl rfl ?_
              refine wpo_skip rfl rfl rfl ?_
              refine wpo_mv (a := (eB false)) rfl rfl rfl (o_pick_f tk rfl rfl (Wk.refl _)) ?_
              refine wpo_mv (a := (eB false)) rfl rfl rfl (o_mv tk rfl (Wk.refl _)) ?_
              refine wpo_skip rfl rfl rfl ?_
              refine wpo_skip rfl rfl rfl ?_
              refine wpo_skip rfl rfl rfl ?_
              refine wpo_skip rfl rfl rfl ?_
              refine wpo_skip rfl rfl rfl ?_
              refine wpo_skip rfl rfl rfl ?_
              refine wpo_mv (a := (eB false)) rfl rfl rfl (o_pick_f tk rfl rfl (Wk.refl _)) ?_
              refine wpo_mv (a := (eB false)) rfl rfl rfl (o_mv tk rfl (Wk.refl _)) ?_
              refine wpo_skip rfl rfl rfl ?_
              refine wpo_skip rfl rfl rfl ?_
              refine wpo_skip rfl rfl rfl ?_
              refine wpo_skip rfl rfl rfl ?_
              refine wpo_skip rfl rfl rfl ?_
              refine wpo_skip rfl rfl rfl ?_
              refine wpo_skip rfl rfl rfl ?_
              refine wpo_skip rfl rfl rfl ?_
              refine wpo_skip rfl rfl rfl ?_
              refine wpo_skip rfl rfl rfl ?_
              refine wpo_mv (a := (eB false)) rfl rfl rfl (o_pick_f tk rfl rfl (Wk.refl _)) ?_
              refine wpo_mv (a := (eB false)) rfl rfl rfl (o_mv tk rfl (Wk.refl _)) ?_
              refine wpo_skip rfl rfl rfl ?_
              refine wpo_skip rfl rfl rfl ?_
              refine wpo_skip rfl rfl rfl ?_
              refine wpo_mv (a := (eB false)) rfl rfl rfl (o_pick_f tk rfl rfl (Wk.refl _)) ?_
              refine wpo_mv (a := (eB false)) rfl rfl rfl (o_mv tk rfl (Wk.refl _)) ?_
              refine wpo_skip rfl rfl rfl ?_
              refine wpo_mv (a := (eB false)) rfl rfl rfl (o_pick_f tk rfl rfl (Wk.refl _)) ?_
              refine wpo_mv (a := (eB false)) rfl rfl rfl (o_as tk rfl (Wk.refl _)) ?_
              refine wpo_nil ?_
              refine awp_ret ?_
              obtain rfl := Option.some.inj H73
              exact ⟨_, (eB false), rfl, (.of_eq rfl), .of_eq ((enc_b td4 sz4).cut _ _ _), hH.noT⟩
          · subst hb
            refine wpo_skip rfl rfl rfl ?_
            refine wpo_skip rfl rfl rfl ?_
            refine wpo_skip rfl rfl rfl ?_
            refine wpo_skip rfl rfl rfl ?_
            refine wpo_skip rfl rfl rfl ?_
            refine wpo_skip rfl rfl rfl ?_
            refine wpo_mv (a := (eB false)) rfl rfl rfl (o_pick_f tk rfl rfl (Wk.refl _)) ?_
            refine wpo_mv (a := (eB false)) rfl rfl rfl (o_mv tk rfl (Wk.refl _)) ?_
            refine wpo_skip rfl rfl rfl ?_
            refine wpo_skip rfl rfl rfl ?_
            refine wpo_skip rfl rfl rfl ?_
            refine wpo_skip rfl rfl rfl ?_
            refine wpo_skip rfl rfl rfl ?_
            refine wpo_skip rfl rfl rfl ?_
            refine wpo_skip rfl rfl rfl ?_
            refine wpo_mv (a := (eB false)) rfl rfl rfl (o_pick_f tk rfl rfl (Wk.refl _)) ?_
            refine wpo_mv (a := (eB false)) rfl rfl rfl (o_mv tk rfl (Wk.refl _)) ?_
            refine wpo_skip rfl rfl rfl ?_
            refine wpo_skip rfl rfl rfl ?_
            refine wpo_skip rfl rfl rfl ?_
            refine wpo_skip rfl rfl rfl ?_
            refine wpo_skip rfl rfl rfl ?_
            refine wpo_skip rfl rfl rfl ?_
            refine wpo_mv (a := (eB false)) rfl rfl rfl (o_pick_f tk rfl rfl (Wk.refl _)) ?_
            refine wpo_mv (a := (eB false)) rfl rfl rfl (o_mv tk rfl (Wk.refl _)) ?_
            refine wpo_skip rfl rfl rfl ?_
            refine wpo_skip rfl rfl rfl ?_
            refine wpo_skip rfl rfl rfl ?_
            refine wpo_skip rfl rfl rfl ?_
            refine wpo_skip rfl rfl rfl ?_
            refine wpo_skip rfl rfl rfl ?_
            refine wpo_skip rfl rfl rfl ?_
            refine wpo_skip rfl rfl rfl ?_
            refine wpo_skip rfl rfl rfl ?_
            refine wpo_skip rfl rfl rfl ?_
            refine wpo_mv (a := (eB false)) rfl rfl rfl (o_pick_f tk rfl rfl (Wk.refl _)) ?_
            refine wpo_mv (a := (eB false)) rfl rfl rfl (o_mv tk rfl (Wk.refl _)) ?_
            refine wpo_skip rfl rfl rfl ?_
            refine wpo_skip rfl rfl rfl ?_
            refine wpo_skip rfl rfl rfl ?_
            refine wpo_mv (a := (eB false)) rfl rfl rfl (o_pick_f tk rfl rfl (Wk.refl _)) ?_
            refine wpo_mv (a := (eB false)) rfl rfl rfl (o_mv tk rfl (Wk.refl _)) ?_
            refine wpo_skip rfl rfl rfl ?_
            refine wpo_mv (a := (eB false)) rfl rfl rfl (o_pick_f tk rfl rfl (Wk.refl _)) ?_
            refine wpo_mv (a := (eB false)) rfl rfl rfl (o_as tk rfl (Wk.refl _)) ?_
            refine wpo_nil ?_
            refine awp_ret ?_
            obtain rfl := Option.some.inj H66
            exact ⟨_, (eB false), rfl, (.of_eq rfl), .of_eq ((enc_b td4 sz4).cut _ _ _), hH.noT⟩
      · refine awp_region rfl ?_
        refine wpo_mv (a := ((eL 5 e_api_Entry) v35.1)) rfl rfl rfl (o_mv tk rfl (Wk.refl _)) ?_
        refine wpo_mv (a := ((eL 5 e_api_Entry) v37.1)) rfl rfl rfl (o_mv tk rfl (Wk.refl _)) ?_
        refine wpo_bd hs40 eB rfl rfl rfl (fun v43 hv => OpP.of_call rfl rfl (.cons (.of_eq rfl) (.cons (.of_eq rfl) .nil)) (butteryref06_SameAll_ok hv)) fun v43 hv43 H42 => ?_
        refine wpo_lt H42 eB rfl rfl rfl (o_un tk rfl rfl) fun v45 H44 => ?_
        refine wpo_mv (a := (eB v45)) rfl rfl rfl (o_mv tk rfl (Wk.refl _)) ?_
        refine if_split H44 (fun hb H46 => ?_) (fun hb H46 => ?_)
        · subst hb
          refine wpo_skip rfl rfl rfl ?_
          refine wpo_skip rfl rfl rfl ?_
          refine wpo_skip rfl rfl rfl ?_
          refine wpo_skip rfl rfl rfl ?_
          refine wpo_mv (a := (eB true)) rfl rfl rfl (o_pick_t tk rfl rfl (Wk.refl _)) ?_
          refine wpo_mv (a := (eB true)) rfl rfl rfl (o_mv tk rfl (Wk.refl _)) ?_
          refine wpo_skip rfl rfl rfl ?_
          refine wpo_skip rfl rfl rfl ?_
          refine wpo_skip rfl rfl rfl ?_
          refine wpo_skip rfl rfl rfl ?_
          refine wpo_mv (a := (eB true)) rfl rfl rfl (o_pick_t tk rfl rfl (Wk.refl _)) ?_
          refine wpo_nil ?_
          have e := Option.some.inj H46
          subst e
          exact ⟨(wkf_cons (.of_eq rfl) (wkf_cons (.of_eq rfl) (wkf_cons (.of_eq rfl) (wkf_cons (.of_eq rfl) (wkf_nil _))))), hH⟩
        · subst hb
          refine wpo_mv (a := ((eL 5 e_api_Entry) v35.2.1)) rfl rfl rfl (o_mv tk rfl (Wk.refl _)) ?_
          refine wpo_mv (a := ((eL 5 e_api_Entry) v37.2.1)) rfl rfl rfl (o_mv tk rfl (Wk.refl _)) ?_
          refine wpo_bd H46 eB rfl rfl rfl (fun v48 hv => OpP.of_call rfl rfl (.cons (.of_eq rfl) (.cons (.of_eq rfl) .nil)) (butteryref06_SameAll_ok hv)) fun v48 hv48 H47 => ?_
          refine wpo_lt H47 eB rfl rfl rfl (o_un tk rfl rfl) fun v50 H49 => ?_
          refine wpo_mv (a := (eB v50)) rfl rfl rfl (o_pick_f tk rfl rfl (Wk.refl _)) ?_
          refine wpo_mv (a := (eB v50)) rfl rfl rfl (o_mv tk rfl (Wk.refl _)) ?_
          refine if_split H49 (fun hb H51 => ?_) (fun hb H51 => ?_)
          · subst hb
            refine wpo_skip rfl rfl rfl ?_
            refine wpo_skip rfl rfl rfl ?_
            refine wpo_skip rfl rfl rfl ?_
            refine wpo_skip rfl rfl rfl ?_
            refine wpo_mv (a := (eB true)) rfl rfl rfl (o_pick_t tk rfl rfl (Wk.refl _)) ?_
            refine wpo_nil ?_
            have e := Option.some.inj H51
            subst e
            exact ⟨(wkf_cons (.of_eq rfl) (wkf_cons (.of_eq rfl) (wkf_cons (.of_eq rfl) (wkf_cons (.of_eq rfl) (wkf_nil _))))), hH⟩
          · subst hb
            refine wpo_mv (a := (eErr v35.2.2)) rfl rfl rfl (o_mv tk rfl (Wk.refl _)) ?_
            refine wpo_bdr H51 eI rfl rfl rfl (fun v53 hv => h_callr rfl rfl (.cons (.of_eq rfl) .nil) (trouble_Of_ok hv _ (hH.gl.trans hg))) fun v53 hv53 H52 => ?_
            refine wpo_mv (a := (eI v37.2.2)) rfl rfl rfl (o_mv tk rfl (Wk.refl _)) ?_
            refine wpo_lt H52 eB rfl rfl rfl (o_ar tk rfl rfl rfl) fun v55 H54 => ?_
            refine wpo_mv (a := (eB v55)) rfl rfl rfl (o_pick_f tk rfl rfl (Wk.refl _)) ?_
            refine wpo_nil ?_
            have e := Option.some.inj H54
            subst e
            exact ⟨(wkf_cons (.of_eq rfl) (wkf_cons (.of_eq rfl) (wkf_cons (.of_eq rfl) (wkf_cons (.of_eq rfl) (wkf_nil _))))), hH⟩
  · refine awp_region rfl ?_
    refine wpo_mv (a := ((eL 5 e_api_Entry) x0)) rfl rfl rfl (o_mv tk rfl (Wk.refl _)) ?_
    refine wpo_bd hs3 eI rfl rfl rfl (fun v6 hv => OpP.of_call rfl rfl (.cons (.of_eq rfl) .nil) (butterylaw06_Light_ok hv)) fun v6 hv6 H5 => ?_
    refine wpo_lt H5 eB rfl rfl rfl (o_ar tk rfl rfl rfl) fun v8 H7 => ?_
    refine wpo_mv (a := (eB v8)) rfl rfl rfl (o_mv tk rfl (Wk.refl _)) ?_
    refine if_split H7 (fun hb H9 => ?_) (fun hb H9 => ?_)
    · subst hb
      refine wpo_skip rfl rfl rfl ?_
      refine wpo_skip rfl rfl rfl ?_
      refine wpo_skip rfl rfl rfl ?_
      refine wpo_skip rfl rfl rfl ?_
      refine wpo_mv (a := (eB true)) rfl rfl rfl (o_pick_t tk rfl rfl (Wk.refl _)) ?_
      refine wpo_mv (a := (eB true)) rfl rfl rfl (o_mv tk rfl (Wk.refl _)) ?_
      refine wpo_skip rfl rfl rfl ?_
      refine wpo_skip rfl rfl rfl ?_
      refine wpo_skip rfl rfl rfl ?_
      refine wpo_mv (a := (eB true)) rfl rfl rfl (o_pick_t tk rfl rfl (Wk.refl _)) ?_
      refine wpo_mv (a := (eB true)) rfl rfl rfl (o_mv tk rfl (Wk.refl _)) ?_
      refine wpo_skip rfl rfl rfl ?_
      refine wpo_skip rfl rfl rfl ?_
      refine wpo_skip rfl rfl rfl ?_
      refine wpo_mv (a := (eB true)) rfl rfl rfl (o_pick_t tk rfl rfl (Wk.refl _)) ?_
      refine wpo_nil ?_
      have e := Option.some.inj H9
      subst e
      exact ⟨(wkf_cons (.of_eq rfl) (wkf_cons (.of_eq rfl) (wkf_cons (.of_eq rfl) (wkf_cons (.of_eq rfl) (wkf_nil _))))), hH⟩
    · subst hb
      refine wpo_mv (a := (e_api_Entry x1)) rfl rfl rfl (o_ld tk rfl rfl) ?_
      refine wpo_lt H9 (eF 5 e_api_Entry) rfl rfl rfl (o_c tk false rfl (fun _ => rfl)) fun v11 H10 => ?_
      refine wpo_bd H10 eI rfl rfl rfl (fun v13 hv => OpP.of_call rfl rfl (.cons wk_no .nil) (butterylaw06_Light_ok hv)) fun v13 hv13 H12 => ?_
      refine wpo_lt H12 eB rfl rfl rfl (o_ar tk rfl rfl rfl) fun v15 H14 => ?_
      refine wpo_mv (a := (eB v15)) rfl rfl rfl (o_pick_f tk rfl rfl (Wk.refl _)) ?_
      refine wpo_mv (a := (eB v15)) rfl rfl rfl (o_mv tk rfl (Wk.refl _)) ?_
      refine if_split H14 (fun hb H16 => ?_) (fun hb H16 => ?_)
      · subst hb
        refine wpo_skip rfl rfl rfl ?_
        refine wpo_skip rfl rfl rfl ?_
        refine wpo_skip rfl rfl rfl ?_
        refine wpo_mv (a := (eB true)) rfl rfl rfl (o_pick_t tk rfl rfl (Wk.refl _)) ?_
        refine wpo_mv (a := (eB true)) rfl rfl rfl (o_mv tk rfl (Wk.refl _)) ?_
        refine wpo_skip rfl rfl rfl ?_
        refine wpo_skip rfl rfl rfl ?_
        refine wpo_skip rfl rfl rfl ?_
        refine wpo_mv (a := (eB true)) rfl rfl rfl (o_pick_t tk rfl rfl (Wk.refl _)) ?_
        refine wpo_nil ?_
        have e := Option.some.inj H16
        subst e
        exact ⟨(wkf_cons (.of_eq rfl) (wkf_cons (.of_eq rfl) (wkf_cons (.of_eq rfl) (wkf_cons (.of_eq rfl) (wkf_nil _))))), hH⟩
      · subst hb
        refine wpo_mv (a := (eS x2)) rfl rfl rfl (o_mv tk rfl (Wk.refl _)) ?_
        refine wpo_lt H16 eI rfl rfl rfl (o_len_s tk td9 rfl) fun v18 H17 => ?_
        refine wpo_lt H17 eB rfl rfl rfl (o_ar tk rfl rfl rfl) fun v20 H19 => ?_
        refine wpo_mv (a := (eB v20)) rfl rfl rfl (o_pick_f tk rfl rfl (Wk.refl _)) ?_
        refine wpo_mv (a := (eB v20)) rfl rfl rfl (o_mv tk rfl (Wk.refl _)) ?_
        refine if_split H19 (fun hb H21 => ?_) (fun hb H21 => ?_)
        · subst hb
          refine wpo_skip rfl rfl rfl ?_
          refine wpo_skip rfl rfl rfl ?_
          refine wpo_skip rfl rfl rfl ?_
          refine wpo_mv (a := (eB true)) rfl rfl rfl (o_pick_t tk rfl rfl (Wk.refl _)) ?_
          refine wpo_nil ?_
          have e := Option.some.inj H21
          subst e
          exact ⟨(wkf_cons (.of_eq rfl) (wkf_cons (.of_eq rfl) (wkf_cons (.of_eq rfl) (wkf_cons (.of_eq rfl) (wkf_nil _))))), hH⟩
        · subst hb
          refine wpo_mv (a := ((eL 5 e_api_Entry) x0)) rfl rfl rfl (o_mv tk rfl (Wk.refl _)) ?_
          refine wpo_bd H21 eB rfl rfl rfl (fun v23 hv => OpP.of_call rfl rfl (.cons (.of_eq rfl) .nil) (butterylaw12_right_ok hv)) fun v23 hv23 H22 => ?_
          refine wpo_lt H22 eB rfl rfl rfl (o_un tk rfl rfl) fun v25 H24 => ?_
          refine wpo_mv (a := (eB v25)) rfl rfl rfl (o_pick_f tk rfl rfl (Wk.refl _)) ?_
          refine wpo_nil ?_
          have e := Option.some.inj H24
          subst e
          exact ⟨(wkf_cons (.of_eq rfl) (wkf_cons (.of_eq rfl) (wkf_cons (.of_eq rfl) (wkf_cons (.of_eq rfl) (wkf_nil _))))), hH⟩
end Go.Proofs.YtkmlinaofbcbaaaDoor
namespace Go.Va
open Go
set_option linter.unusedVariables false
set_option linter.unusedSimpArgs false
theorem shr64_nat {n m : Nat} (h : m ≤ 64) : shr64 (n : Int) m = ((n / 2 ^ m : Nat) : Int) := by
  unfold shr64
  rw [Nat.min_eq_left h]
  have : (2 : Int) ^ m = ((2 ^ m : Nat) : Int) := by simp
  rw [this, Int.fdiv_eq_ediv_of_nonneg _ (Int.natCast_nonneg _), ← Int.natCast_ediv]
theorem quo64_nat {n m : Nat} (h : n < 9223372036854775808) : quo64 (n : Int) (m : Int) = ((n / m : Nat) : Int) := by
  unfold quo64
  have := Nat.div_le_self n m
  rw [Int.tdiv_eq_ediv_of_nonneg (Int.natCast_nonneg _), ← Int.natCast_ediv]
  generalize n / m = q at *
  exact w64_eq (by omega) (by omega)
theorem tmod_nat (n m : Nat) : Int.tmod (n : Int) (m : Int) = ((n % m : Nat) : Int) := by
  rw [Int.tmod_eq_emod_of_nonneg (Int.natCast_nonneg _)]; rfl
theorem or_low (a b : Nat) (h : b < 128) : a * 128 ||| b = a * 128 + b := by
  have := Nat.two_pow_add_eq_or_of_lt (i := 7) (b := b) (by omega) a
  rw [show 2 ^ 7 * a + b = a * 128 + b by omega, show 2 ^ 7 * a = a * 128 by omega] at this
  exact this.symm
theorem or64_nat {a b : Nat} (ha : a < 9223372036854775808) (hb : b < 9223372036854775808) : or64 (a : Int) (b : Int) = ((a ||| b : Nat) : Int) := by
  have h : a ||| b < 2 ^ 63 := Nat.or_lt_two_pow (by omega) (by omega)
  show w64 ((BitVec.ofInt 64 (a : Int) ||| BitVec.ofInt 64 (b : Int) : BitVec 64).toNat : Int) = _
  rw [BitVec.toNat_or, BitVec.toNat_ofInt, BitVec.toNat_ofInt]
  have e1 : ((a : Int) % ((2 ^ 64 : Nat) : Int)).toNat = a := by omega
  have e2 : ((b : Int) % ((2 ^ 64 : Nat) : Int)).toNat = b := by omega
  rw [e1, e2, w64_eq (by omega) (by omega)]
theorem shl64_7 {a : Nat} (ha : a < 72057594037927936) : shl64 (a : Int) 7 = ((a * 128 : Nat) : Int) := by
  unfold shl64
  rw [w64_eq] <;> simp <;> omega
theorem or64_7 {a b : Nat} (ha : a < 72057594037927936) (hb : b < 128) : or64 (shl64 (a : Int) 7) (b : Int) = ((a * 128 + b : Nat) : Int) := by
  rw [shl64_7 ha, or64_nat (by omega) (by omega), or_low a b hb]
theorem byte_and (x : BitVec 8) : (x &&& 127#8).toNat = x.toNat % 128 := by
  rw [BitVec.toNat_and, show (127#8).toNat = 2 ^ 7 - 1 from rfl, Nat.and_two_pow_sub_one_eq_mod]
theorem byte_or (x : BitVec 8) : x ||| 128#8 = BitVec.ofNat 8 (x.toNat % 128 + 128) := by
  have : ∀ y : Fin 256, (BitVec.ofFin y : BitVec 8) ||| 128#8 = BitVec.ofNat 8 ((BitVec.ofFin y : BitVec 8).toNat % 128 + 128) := by decide +kernel
  exact this x.toFin
theorem byte_and' (x : BitVec 8) : x &&& 127#8 = BitVec.ofNat 8 (x.toNat % 128) := by
  apply BitVec.eq_of_toNat_eq
  rw [byte_and]; simp
  have := x.isLt
  omega
theorem byte_int (n : Nat) : BitVec.ofInt 8 (n : Int) = BitVec.ofNat 8 n := by
  apply BitVec.eq_of_toNat_eq
  simp [BitVec.toNat_ofInt]
theorem byte_hi (n : Nat) : BitVec.ofInt 8 (n : Int) ||| 128#8 = BitVec.ofNat 8 (n % 128 + 128) := by
  rw [byte_int, byte_or]; congr 1; simp
theorem byte_lo (n : Nat) : BitVec.ofInt 8 (n : Int) &&& 127#8 = BitVec.ofNat 8 (n % 128) := by
  rw [byte_int, byte_and']; congr 1; simp
/-! ### seven bits a byte -/
/-- The bytes that go on. -/
def pre (m : Nat) : List (BitVec 8) := if m = 0 then [] else pre (m / 128) ++ [BitVec.ofNat 8 (m % 128 + 128)]
termination_by m
decreasing_by omega
def num7 (n : Nat) : List (BitVec 8) := pre (n / 128) ++ [BitVec.ofNat 8 (n % 128)]
theorem pre_zero : pre 0 = [] := by rw [pre]; rfl
theorem pre_pos {m : Nat} (h : 0 < m) : pre m = pre (m / 128) ++ [BitVec.ofNat 8 (m % 128 + 128)] := by
  rw [pre, if_neg (by omega)]
theorem pre_len : ∀ (k m : Nat), m < 128 ^ k → (pre m).length ≤ k
  | 0, m, h => by
    have : m = 0 := by simpa using h
    subst this; rw [pre_zero]; simp
  | k + 1, m, h => by
    by_cases h0 : m = 0
    · subst h0; rw [pre_zero]; simp
    · rw [pre_pos (by omega)]
      have := pre_len k (m / 128) (by rw [Nat.div_lt_iff_lt_mul (by decide)]; rw [Nat.pow_succ] at h; exact h)
      simp; exact this
theorem num7_len {n : Nat} (h : n < 9223372036854775808) : (num7 n).length ≤ 9 := by
  have := pre_len 8 (n / 128) (by omega)
  simp [num7]; omega
theorem num7_small {n : Nat} (h : n < 128) : num7 n = [BitVec.ofNat 8 n] := by
  rw [num7, show n / 128 = 0 by omega, pre_zero, Nat.mod_eq_of_lt h]; rfl
/-- The same from the highest one on. -/
def seq7 (n : Nat) : Nat → List (BitVec 8)
  | 0 => []
  | c + 1 => BitVec.ofNat 8 (n / 128 ^ (c + 1) % 128 + 128) :: seq7 n c
theorem seq7_snoc (n : Nat) : ∀ c, seq7 n (c + 1) = seq7 (n / 128) c ++ [BitVec.ofNat 8 (n / 128 % 128 + 128)]
  | 0 => by simp [seq7]
  | c + 1 => by
    rw [seq7, seq7_snoc n c, seq7]
    simp only [List.cons_append]
    rw [Nat.div_div_eq_div_mul, ← Nat.pow_succ']
theorem seq7_pre : ∀ (h n : Nat), n / 128 ^ h < 128 → (∀ j, j < h → 128 ≤ n / 128 ^ j) → seq7 n h = pre (n / 128)
  | 0, n, h1, h2 => by
    rw [show n / 128 = 0 by simp at h1; omega, pre_zero]; rfl
  | h + 1, n, h1, h2 => by
    have h0 := h2 0 (by omega)
    simp at h0
    rw [seq7_snoc, pre_pos (by omega), seq7_pre h (n / 128) (by rw [Nat.div_div_eq_div_mul, ← Nat.pow_succ']; exact h1) (fun j hj => by
      rw [Nat.div_div_eq_div_mul, ← Nat.pow_succ']; exact h2 (j + 1) (by omega))]
/-- How many bytes. -/
def nlen (n : Nat) : Nat := if n < 128 then 1 else nlen (n / 128) + 1
termination_by n
decreasing_by omega
theorem nlen_lt {n : Nat} (h : n < 128) : nlen n = 1 := by rw [nlen, if_pos h]
theorem nlen_ge {n : Nat} (h : 128 ≤ n) : nlen n = nlen (n / 128) + 1 := by rw [nlen, if_neg (by omega)]
/-! ### reading -/
def up7 : Int ⊕ (Nat × Nat) → Int ⊕ (Nat × Nat)
  | .inl e => .inl e
  | .inr (m, k) => .inr (m, k + 1)
/-- What a number is that begins here, and how many bytes it has; or what is wrong first. -/
def rd7 (most : Nat) : List (BitVec 8) → Bool → Nat → Int ⊕ (Nat × Nat)
  | [], _, _ => .inl 6
  | c :: l, f, n =>
    if c = 128#8 ∧ f = true then .inl 5 else if most / 128 < n then .inl 2 else
    if 128 ≤ c.toNat then up7 (rd7 most l false (n * 128 + c.toNat % 128))
    else if most < n * 128 + c.toNat then .inl 2 else .inr (n * 128 + c.toNat, 1)
theorem rd7_le {most : Nat} : ∀ {l : List (BitVec 8)} {f : Bool} {n m k : Nat}, rd7 most l f n = .inr (m, k) → m ≤ most ∧ 1 ≤ k ∧ k ≤ l.length
  | [], f, n, m, k, h => by simp [rd7] at h
  | c :: l, f, n, m, k, h => by
    simp only [rd7] at h
    split at h
    · cases h
    · split at h
      · cases h
      · split at h
        · cases hr : rd7 most l false (n * 128 + c.toNat % 128) with
          | inl e => rw [hr] at h; cases h
          | inr p =>
            obtain ⟨m', k'⟩ := p
            rw [hr] at h
            simp only [up7, Sum.inr.injEq, Prod.mk.injEq] at h
            obtain ⟨rfl, rfl⟩ := h
            have := rd7_le hr
            simp; omega
        · split at h
          · cases h
          · simp only [Sum.inr.injEq, Prod.mk.injEq] at h
            obtain ⟨rfl, rfl⟩ := h
            simp; omega
end Go.Va
namespace Go.Proofs.YtkmlinaofbcbaaaDoor
open Go Go.Va
set_option linter.unusedVariables false
set_option linter.unusedSimpArgs false
theorem same_eq (x y : List (BitVec 8)) (hx : x.length < 9223372036854775807) : butteryref02_Same x y = some (decide (x = y)) := by
  unfold butteryref02_Same
  simp only [lt_eq]
  by_cases hl : x.length = y.length
  · rw [if_neg (by simp [hl])]
    have h := loopO_find (body := fun s => butteryref02_Same_b0 x y s) (fun i : Nat => (i : Int)) x.length (fun i => if x[i]? ≠ y[i]? then some (Sum.inr false) else none) (x := .inl ()) (fun i hi => by
      simp only [butteryref02_Same_b0, lt_eq, ix_nat hi, ix_nat (show i < y.length by omega), Option.bind_some]
      rw [if_pos (by simpa using hi)]
      by_cases he : x[i] = y[i]
      · rw [if_neg (by simp [he]), if_neg (by simp [hi, show i < y.length by omega, he]), w64_nat (by omega)]; rfl
      · rw [if_pos (by simpa using he), if_pos (by simp [hi, show i < y.length by omega, he])]; rfl) (by simp [butteryref02_Same_b0, lt_eq])
    rw [show ((0 : Nat) : Int) = 0 from rfl] at h
    simp only [butteryref02_Same_l0, h, Option.bind_some]
    by_cases he : x = y
    · rw [List.findSome?_eq_none_iff.2 (fun i _ => by rw [if_neg (by simp [he])])]
      simp [he]
    · cases hf : (List.range x.length).findSome? (fun i => if x[i]? ≠ y[i]? then some (Sum.inr (α := Unit) false) else none) with
      | none =>
        refine absurd (List.ext_getElem? fun i => ?_) he
        have h1 := List.findSome?_eq_none_iff.1 hf
        rcases Nat.lt_or_ge i x.length with hi | hi
        · have := h1 i (by simpa using hi)
          by_cases hne : x[i]? = y[i]?
          · exact hne
          · rw [if_pos hne] at this; cases this
        · rw [List.getElem?_eq_none hi, List.getElem?_eq_none (by omega)]
      | some w =>
        obtain ⟨i, _, h2⟩ := List.exists_of_findSome?_eq_some hf
        split at h2
        · cases h2; simp [he]
        · cases h2
  · rw [if_pos (by simpa using fun e => hl (by exact_mod_cast e))]
    rw [decide_eq_false (fun e => hl (by rw [e]))]
theorem refnum_l : ∀ (k m : Nat) (out : List (BitVec 8)), m < 128 ^ k → m < 9223372036854775808 → out.length + k ≤ 1000 → butteryref02_num_l0 (out, (m : Int)) = some (pre m ++ out)
  | 0, m, out, h, h2, hl => by
    have : m = 0 := by simpa using h
    subst this
    rw [pre_zero]
    exact loopO_out (by simp [butteryref02_num_b0, lt_eq])
  | k + 1, m, out, h, h2, hl => by
    by_cases h0 : m = 0
    · subst h0
      rw [pre_zero]
      exact loopO_out (by simp [butteryref02_num_b0, lt_eq])
    · have hb : butteryref02_num_b0 out (m : Int) = some (.inl (BitVec.ofNat 8 (m % 128 + 128) :: out, ((m / 128 : Nat) : Int))) := by
        simp only [butteryref02_num_b0, lt_eq]
        rw [if_pos (by simp; omega)]
        have e1 : Int.tmod (m : Int) 128 = ((m % 128 : Nat) : Int) := tmod_nat m 128
        have e2 : quo64 (m : Int) 128 = ((m / 128 : Nat) : Int) := quo64_nat h2
        rw [e1, e2, w64_eq (by omega) (by omega), app_eq (by simp; omega)]
        rw [show (((m % 128 : Nat) : Int) + 128) = ((m % 128 + 128 : Nat) : Int) by omega, byte_int]
        rfl
      have := loopO_in (body := fun s => butteryref02_num_b0 s.1 s.2) (s := (out, (m : Int))) hb
      rw [butteryref02_num_l0, this]
      have ih := refnum_l k (m / 128) (BitVec.ofNat 8 (m % 128 + 128) :: out) (by rw [Nat.div_lt_iff_lt_mul (by decide)]; rw [Nat.pow_succ] at h; exact h) (by omega) (by simp; omega)
      rw [butteryref02_num_l0] at ih
      rw [ih, pre_pos (m := m) (by omega)]
      simp
theorem refnum_eq {n : Nat} (h : n < 9223372036854775808) : butteryref02_num (n : Int) = some (num7 n) := by
  simp only [butteryref02_num, lt_eq]
  have e1 : Int.tmod (n : Int) 128 = ((n % 128 : Nat) : Int) := tmod_nat n 128
  have e2 : quo64 (n : Int) 128 = ((n / 128 : Nat) : Int) := quo64_nat h
  rw [e1, e2, byte_int, refnum_l 9 (n / 128) _ (by omega) (by omega) (by simp)]
  rfl
/-- Numbers one behind the other. -/
def nums (l : List Int) : List (BitVec 8) := l.flatMap fun n => num7 n.toNat
def okN (l : List Int) : Prop := l.length ≤ 1000 ∧ ∀ n ∈ l, 0 ≤ n ∧ n ≤ 9223372036854775807
theorem nums_len : ∀ {l : List Int}, (∀ n ∈ l, 0 ≤ n ∧ n ≤ 9223372036854775807) → (nums l).length ≤ 9 * l.length
  | [], _ => Nat.le_refl _
  | n :: l, h => by
    have h1 := nums_len (l := l) (fun m hm => h m (List.mem_cons_of_mem _ hm))
    have h2 := h n List.mem_cons_self
    have h3 := num7_len (n := n.toNat) (by omega)
    simp only [nums, List.flatMap_cons, List.length_append, List.length_cons] at h1 ⊢
    omega
theorem nums_snoc (l : List Int) (n : Int) : nums (l ++ [n]) = nums l ++ num7 n.toNat := by simp [nums]
theorem refPut_eq (b : List (BitVec 8)) {l : List Int} (hb : b.length ≤ 1000000) (hl : okN l) : butteryref02_Put b l = some (b ++ nums l) := by
  simp only [butteryref02_Put]
  rw [app_eq (by simp; omega)]
  simp only [List.nil_append, Option.bind_some]
  have h := loopO_up (body := fun s => butteryref02_Put_b0 l s.1 s.2) (fun i => (b ++ nums (l.take i), (i : Int))) l.length (x := b ++ nums l) (fun i hi => by
    obtain ⟨hn0, hn1⟩ := hl.2 _ (List.getElem_mem hi)
    have hn : butteryref02_num l[i] = some (num7 l[i].toNat) := by
      have := refnum_eq (n := l[i].toNat) (by omega)
      rwa [Int.toNat_of_nonneg hn0] at this
    have h1 := nums_len (l := l.take i) (fun m hm => hl.2 m (List.mem_of_mem_take hm))
    have h2 := num7_len (n := l[i].toNat) (by omega)
    have h3 := hl.1
    simp only [List.length_take] at h1
    simp only [butteryref02_Put_b0, lt_eq, ix_nat hi, Option.bind_some, hn]
    rw [if_pos (by simpa using hi), app_eq (by simp only [List.length_append]; omega), w64_nat (by omega)]
    simp only [Option.bind_some]
    rw [List.take_succ_eq_append_getElem hi, nums_snoc, List.append_assoc]) (by simp [butteryref02_Put_b0, lt_eq])
  simp only [butteryref02_Put_l0]
  have h0 : b ++ nums (l.take 0) = b := by simp [nums]
  rw [h0] at h
  rw [show ((0 : Nat) : Int) = 0 from rfl] at h
  rw [h]; rfl
theorem oct_l1 (l : List Int) (v6 : Int) (c7 : List (BitVec 8)) (c8 : Int) {n : Nat} (hn : n < 9223372036854775808) : ∃ h : Nat, octets_Put_l1 l v6 c7 c8 (n : Int) 0 = some (h : Int) ∧ h ≤ 9 ∧ n / 128 ^ h < 128 ∧ ∀ j, j < h → 128 ≤ n / 128 ^ j := by
  have key := loopO_inv (body := fun s => octets_Put_b1 l v6 c7 c8 (n : Int) s) (fun s => ∃ h : Nat, s = (h : Int) ∧ h ≤ 9 ∧ ∀ j, j < h → 128 ≤ n / 128 ^ j) (fun s => 10 - s.toNat) (fun x => ∃ h : Nat, x = (h : Int) ∧ h ≤ 9 ∧ n / 128 ^ h < 128 ∧ ∀ j, j < h → 128 ≤ n / 128 ^ j) (fun s => by
    rintro ⟨h, rfl, h9, hj⟩
    have ew : w64 (7 * (h : Int)) = ((7 * h : Nat) : Int) := by rw [w64_eq (by omega) (by omega)]; omega
    have es : shr64 (n : Int) (7 * h) = ((n / 128 ^ h : Nat) : Int) := by
      rw [shr64_nat (by omega), Nat.pow_mul]
    simp only [octets_Put_b1, lt_eq, ew, sc_eq (Int.natCast_nonneg _), Int.toNat_natCast, Option.map_some, Option.bind_some, es]
    by_cases hc : 128 ≤ n / 128 ^ h
    · left
      have h8 : h ≤ 8 := by
        rcases Nat.lt_or_ge 8 h with h8 | h8
        · have : h = 9 := by omega
          subst this
          omega
        · exact h8
      refine ⟨((h + 1 : Nat) : Int), ?_, ⟨h + 1, rfl, by omega, fun j hj' => ?_⟩, by omega⟩
      · rw [if_pos (decide_eq_true (show ((n / 128 ^ h : Nat) : Int) ≥ 128 by omega)), w64_nat (by omega)]
      · by_cases e : j = h
        · subst e; exact hc
        · exact hj j (by omega)
    · right
      exact ⟨_, by rw [if_neg (by rw [decide_eq_false (show ¬ ((n / 128 ^ h : Nat) : Int) ≥ 128 by omega)]; simp)], h, rfl, h9, by omega, hj⟩) (s := 0) ⟨0, rfl, by omega, fun j hj => by omega⟩
  obtain ⟨x, h1, h, rfl, h2⟩ := key
  exact ⟨h, h1, h2⟩
theorem oct_l2 (l : List Int) (v6 : Int) (c8 : Int) {n : Nat} : ∀ (h : Nat) (out : List (BitVec 8)), h ≤ 9 → out.length + h ≤ 100000000 → octets_Put_l2 l v6 c8 (n : Int) (out, (h : Int)) = some (out ++ seq7 n h)
  | 0, out, h9, hl => by
    simp only [seq7, List.append_nil]
    exact loopO_out (by simp [octets_Put_b2, lt_eq])
  | h + 1, out, h9, hl => by
    have ew : w64 (7 * ((h + 1 : Nat) : Int)) = ((7 * (h + 1) : Nat) : Int) := by rw [w64_eq (by omega) (by omega)]; omega
    have es : shr64 (n : Int) (7 * (h + 1)) = ((n / 128 ^ (h + 1) : Nat) : Int) := by
      rw [shr64_nat (by omega), Nat.pow_mul]
    have hb : octets_Put_b2 l v6 c8 (n : Int) out ((h + 1 : Nat) : Int) = some (.inl (out ++ [BitVec.ofNat 8 (n / 128 ^ (h + 1) % 128 + 128)], (h : Int))) := by
      simp only [octets_Put_b2, lt_eq, ew, sc_eq (Int.natCast_nonneg _), Int.toNat_natCast, Option.map_some, Option.bind_some, es]
      rw [if_pos (decide_eq_true (by omega)), app_eq (by simp; omega), byte_hi, w64_eq (by omega) (by omega)]
      simp only [Option.bind_some]
      rw [show (((h + 1 : Nat) : Int) - 1) = (h : Int) by omega]
    have := loopO_in (body := fun s => octets_Put_b2 l v6 c8 (n : Int) s.1 s.2) (s := (out, ((h + 1 : Nat) : Int))) hb
    rw [octets_Put_l2, this]
    have ih := oct_l2 l v6 c8 (n := n) h (out ++ [BitVec.ofNat 8 (n / 128 ^ (h + 1) % 128 + 128)]) (by omega) (by simp; omega)
    rw [octets_Put_l2] at ih
    rw [ih, seq7, List.append_assoc]; rfl
theorem octPut_eq (b : List (BitVec 8)) {l : List Int} (hb : b.length ≤ 1000000) (hl : okN l) : octets_Put b l = some (b ++ nums l) := by
  simp only [octets_Put]
  rw [app_eq (by simp; omega)]
  simp only [List.nil_append, Option.bind_some, lt_eq]
  have h := loopO_up (body := fun s => octets_Put_b0 l (l.length : Int) s.1 s.2) (fun i => (b ++ nums (l.take i), (i : Int))) l.length (x := b ++ nums l) (fun i hi => by
    obtain ⟨hn0, hn1⟩ := hl.2 _ (List.getElem_mem hi)
    obtain ⟨n, hn⟩ : ∃ n : Nat, l[i] = (n : Int) := ⟨l[i].toNat, by omega⟩
    have hlt : n < 9223372036854775808 := by omega
    have h1 := nums_len (l := l.take i) (fun m hm => hl.2 m (List.mem_of_mem_take hm))
    have h3 := hl.1
    simp only [List.length_take] at h1
    obtain ⟨h, k1, k2, k3, k4⟩ := oct_l1 l (l.length : Int) (b ++ nums (l.take i)) (i : Int) hlt
    have h2 := num7_len hlt
    have hs := seq7_pre h n k3 k4
    simp only [octets_Put_b0, lt_eq, ix_nat hi, Option.bind_some, hn, k1]
    rw [oct_l2 l _ _ h _ k2 (by simp only [List.length_append]; omega), hs]
    have h2' : (pre (n / 128)).length ≤ 9 := by simp [num7] at h2; omega
    simp only [Option.bind_some, byte_lo]
    rw [if_pos (by simpa using hi), app_eq (by simp only [List.length_append, List.length_cons, List.length_nil]; omega), w64_nat (by omega)]
    simp only [Option.bind_some]
    rw [List.take_succ_eq_append_getElem hi, nums_snoc, hn, Int.toNat_natCast, num7]
    simp only [List.append_assoc]) (by simp [octets_Put_b0, lt_eq])
  simp only [octets_Put_l0]
  have h0 : b ++ nums (l.take 0) = b := by simp [nums]
  rw [h0] at h
  rw [show ((0 : Nat) : Int) = 0 from rfl] at h
  rw [h]; rfl
theorem okN_one {n : Nat} (h : n < 9223372036854775808) : okN [(n : Int)] := ⟨by simp, fun m hm => by simp at hm; omega⟩
theorem octBytes_eq (b t : List (BitVec 8)) (hb : b.length ≤ 1000000) (ht : t.length ≤ 1000000) : octets_Bytes b t = some (b ++ num7 t.length ++ t) := by
  have h2 := num7_len (n := t.length) (by omega)
  simp only [octets_Bytes, lt_eq, octPut_eq b hb (okN_one (n := t.length) (by omega)), Option.bind_some, nums, List.flatMap_cons, List.flatMap_nil, List.append_nil, Int.toNat_natCast]
  rw [app_eq (by simp only [List.length_append]; omega)]; rfl
theorem refBytes_eq (b t : List (BitVec 8)) (hb : b.length ≤ 1000000) (ht : t.length ≤ 1000000) : butteryref02_Bytes b t = some (b ++ num7 t.length ++ t) := by
  have h2 := num7_len (n := t.length) (by omega)
  simp only [butteryref02_Bytes, lt_eq, refPut_eq b hb (okN_one (n := t.length) (by omega)), Option.bind_some, nums, List.flatMap_cons, List.flatMap_nil, List.append_nil, Int.toNat_natCast]
  rw [app_eq (by simp only [List.length_append]; omega)]; rfl
end Go.Proofs.YtkmlinaofbcbaaaDoor
namespace Go.Proofs.YtkmlinaofbcbaaaDoor
open Go Go.Va
set_option linter.unusedVariables false
set_option linter.unusedSimpArgs false
/-- The first i bytes of a word. -/
def wd (n : BitVec 64) (i : Nat) : List (BitVec 8) := (List.range i).map fun j => (n >>> (56 - 8 * j)).setWidth 8
theorem wd_succ (n : BitVec 64) (i : Nat) : wd n (i + 1) = wd n i ++ [(n >>> (56 - 8 * i)).setWidth 8] := by
  simp [wd, List.range_succ]
theorem wd_len (n : BitVec 64) (i : Nat) : (wd n i).length = i := by simp [wd]
theorem shr35 {n : Nat} : shr64 (n : Int) 35 = ((n / 34359738368 : Nat) : Int) := by rw [shr64_nat (by omega)]
theorem octLen_n {n : Nat} (h : n < 9223372036854775808) : ∀ k, octets_Len_n (k + 3) (n : Int) = some (nlen n : Int) := by
  have hs : ∀ (rec : Int → Option Int) {n : Nat}, n < 34359738368 → octets_Len_F rec (n : Int) = some (nlen n : Int) := by
    intro rec n hn
    simp only [octets_Len_F, lt_eq]
    rw [if_neg (by rw [decide_eq_false (by omega)]; simp)]
    by_cases h4 : 268435456 ≤ n
    · rw [if_pos (decide_eq_true (by omega)), nlen_ge (by omega), nlen_ge (by omega), nlen_ge (by omega), nlen_ge (by omega), nlen_lt (by omega)]; rfl
    rw [if_neg (by rw [decide_eq_false (by omega)]; simp)]
    by_cases h3 : 2097152 ≤ n
    · rw [if_pos (decide_eq_true (by omega)), nlen_ge (by omega), nlen_ge (by omega), nlen_ge (by omega), nlen_lt (by omega)]; rfl
    rw [if_neg (by rw [decide_eq_false (by omega)]; simp)]
    by_cases h2 : 16384 ≤ n
    · rw [if_pos (decide_eq_true (by omega)), nlen_ge (by omega), nlen_ge (by omega), nlen_lt (by omega)]; rfl
    rw [if_neg (by rw [decide_eq_false (by omega)]; simp)]
    by_cases h1 : 128 ≤ n
    · rw [if_pos (decide_eq_true (by omega)), nlen_ge (by omega), nlen_lt (by omega)]; rfl
    rw [if_neg (by rw [decide_eq_false (by omega)]; simp), nlen_lt (by omega)]; rfl
  intro k
  by_cases hn : n < 34359738368
  · exact hs (octets_Len_n (k + 2)) hn
  · show octets_Len_F (octets_Len_n (k + 2)) (n : Int) = _
    simp only [octets_Len_F, lt_eq]
    rw [if_pos (decide_eq_true (by omega)), shr35]
    have : octets_Len_n (k + 2) ((n / 34359738368 : Nat) : Int) = _ := hs (octets_Len_n (k + 1)) (by omega)
    rw [this, Option.bind_some]
    have hq : nlen n = nlen (n / 34359738368) + 5 := by
      rw [nlen_ge (n := n) (by omega), nlen_ge (n := n / 128) (by omega), nlen_ge (n := n / 128 / 128) (by omega), nlen_ge (n := n / 128 / 128 / 128) (by omega), nlen_ge (n := n / 128 / 128 / 128 / 128) (by omega)]
      rw [show n / 128 / 128 / 128 / 128 / 128 = n / 34359738368 by omega]
    have hb : nlen (n / 34359738368) ≤ 10 := by
      have : n / 34359738368 < 268435456 := by omega
      generalize n / 34359738368 = m at this
      rcases Nat.lt_or_ge m 128 with h1 | h1
      · rw [nlen_lt h1]; omega
      rw [nlen_ge h1]
      rcases Nat.lt_or_ge (m / 128) 128 with h2 | h2
      · rw [nlen_lt h2]; omega
      rw [nlen_ge h2]
      rcases Nat.lt_or_ge (m / 128 / 128) 128 with h3 | h3
      · rw [nlen_lt h3]; omega
      rw [nlen_ge h3, nlen_lt (by omega)]; omega
    rw [w64_eq (by omega) (by omega), hq]
    congr 1; omega
theorem octLen_eq {n : Nat} (h : n < 9223372036854775808) : octets_Len (n : Int) = some (nlen n : Int) := octLen_n h 999997
theorem key_eq (x : List (BitVec 8)) : octets_Key x = butteryref02_Key x := by
  simp only [octets_Key, butteryref02_Key, lt_eq]
  cases x with
  | nil => rfl
  | cons a x => rw [if_neg (show ¬ ((((a :: x).length : Int) == 0) = true) by simp; omega), if_neg (show ¬ ((a :: x == []) = true) by simp)]
theorem key_some (x : List (BitVec 8)) : ∃ v, octets_Key x = some v := by
  simp only [octets_Key, lt_eq]
  split
  · exact ⟨_, rfl⟩
  · split <;> exact ⟨_, rfl⟩
end Go.Proofs.YtkmlinaofbcbaaaDoor
namespace Go.Proofs.YtkmlinaofbcbaaaDoor
open Go Go.Va
set_option linter.unusedVariables false
set_option linter.unusedSimpArgs false
set_option maxRecDepth 20000
noncomputable def octets_Reader_End (x0 : octets_Reader) : Option (Int × octets_Reader) :=
  (octets_Reader_Left x0).bind fun v2 =>
  lt (decide (v2 > (0 : Int))) fun v4 =>
  (
    if v4 = true then
      (octets_Reader_Fail x0 (5 : Int)).bind fun v11 =>
      some v11
    else
      some x0
   : Option (octets_Reader)).bind fun s5 =>
    some (s5.code, s5)
end Go.Proofs.YtkmlinaofbcbaaaDoor
namespace Go.Proofs.YtkmlinaofbcbaaaDoor
open Go Go.Va
set_option linter.unusedVariables false
set_option linter.unusedSimpArgs false
set_option maxRecDepth 20000
noncomputable def butteryref02_fail (x0 : butteryref02_Reader) (x1 : Int) : Option (butteryref02_Reader) :=
  lt (x0.Code == (0 : Int)) fun v7 =>
  if v7 = true then
    lt (({ (x0 : butteryref02_Reader) with Code := x1 } : butteryref02_Reader)) fun c10 =>
    some (c10 : butteryref02_Reader)
  else
    some ((x0 : butteryref02_Reader) : butteryref02_Reader)
end Go.Proofs.YtkmlinaofbcbaaaDoor
namespace Go.Proofs.YtkmlinaofbcbaaaDoor
open Go Go.Va
set_option linter.unusedVariables false
set_option linter.unusedSimpArgs false
set_option maxRecDepth 20000
noncomputable def butteryref02_Number_b0 (x0 : butteryref02_Reader) (x1 : Int) (c7 : Int) (c8 : Int) : Option ((Int × Int) ⊕ (Unit ⊕ (butteryref02_Reader × Int))) :=
  lt (((x0.B).length : Int)) fun v19 =>
  lt (decide (c8 < v19)) fun v21 =>
  if v21 = true then
    (ix x0.B c8).bind fun v24 =>
    lt ((BitVec.toNat v24 : Int)) fun v26 =>
    (
      lt (v26 == (128 : Int)) fun v32 =>
      if v32 = true then
        lt (c8 == x0.At) fun v35 =>
        some v35
      else
        some false
     : Option (Bool)).bind fun s27 =>
      if s27 = true then
        (butteryref02_fail x0 (5 : Int)).bind fun v39 =>
        some (.inr (.inr ((v39 : butteryref02_Reader), (0 : Int))))
      else
        lt (quo64 x1 (128 : Int)) fun v43 =>
        lt (decide (c7 > v43)) fun v45 =>
        if v45 = true then
          (butteryref02_fail x0 (2 : Int)).bind fun v48 =>
          some (.inr (.inr ((v48 : butteryref02_Reader), (0 : Int))))
        else
          lt (w64 (c7 * (128 : Int))) fun v52 =>
          lt (Int.tmod v26 (128 : Int)) fun v54 =>
          lt (w64 (v52 + v54)) fun v56 =>
          lt (decide (v26 ≥ (128 : Int))) fun v58 =>
          if v58 = true then
            lt (w64 (c8 + (1 : Int))) fun v61 =>
            some (.inl (v56, v61))
          else
            lt (decide (v56 > x1)) fun v63 =>
            if v63 = true then
              (butteryref02_fail x0 (2 : Int)).bind fun v66 =>
              some (.inr (.inr ((v66 : butteryref02_Reader), (0 : Int))))
            else
              lt (w64 (c8 + (1 : Int))) fun v73 =>
              lt (({ (x0 : butteryref02_Reader) with At := v73 } : butteryref02_Reader)) fun c75 =>
              some (.inr (.inr ((c75 : butteryref02_Reader), v56)))
  else
    some (.inr (.inl ()))
noncomputable def butteryref02_Number_l0 (x0 : butteryref02_Reader) (x1 : Int) (s : Int × Int) : Option (Unit ⊕ (butteryref02_Reader × Int)) := loopO (fun s => butteryref02_Number_b0 x0 x1 s.1 s.2) s
noncomputable def butteryref02_Number (x0 : butteryref02_Reader) (x1 : Int) : Option (butteryref02_Reader × Int) :=
  lt (x0.Code != (0 : Int)) fun v4 =>
  if v4 = true then
    some ((x0 : butteryref02_Reader), (0 : Int))
  else
    (butteryref02_Number_l0 x0 x1 ((0 : Int), x0.At)).bind fun o9 =>
      Sum.elim (fun s16 : Unit =>
        (butteryref02_fail x0 (6 : Int)).bind fun v81 =>
        some ((v81 : butteryref02_Reader), (0 : Int))
        ) (fun y => some y) o9
end Go.Proofs.YtkmlinaofbcbaaaDoor
namespace Go.Proofs.YtkmlinaofbcbaaaDoor
open Go Go.Va
set_option linter.unusedVariables false
set_option linter.unusedSimpArgs false
set_option maxRecDepth 20000
noncomputable def butteryref02_Text (x0 : butteryref02_Reader) (x1 : Int) : Option (butteryref02_Reader × (List (BitVec 8))) :=
  (butteryref02_Number x0 x1).bind fun v4 =>
  lt (((v4.1 : butteryref02_Reader).Code) != (0 : Int)) fun v9 =>
  if v9 = true then
    some (((v4.1 : butteryref02_Reader) : butteryref02_Reader), [])
  else
    lt ((((v4.1 : butteryref02_Reader).B).length : Int)) fun v13 =>
    lt (w64 (v13 - ((v4.1 : butteryref02_Reader).At))) fun v15 =>
    lt (decide (v4.2 > v15)) fun v17 =>
    if v17 = true then
      (butteryref02_fail x0 (6 : Int)).bind fun v20 =>
      some ((v20 : butteryref02_Reader), [])
    else
      lt (w64 (((v4.1 : butteryref02_Reader).At) + v4.2)) fun v23 =>
      (cutO ((v4.1 : butteryref02_Reader).B) ((v4.1 : butteryref02_Reader).At) v23).bind fun v25 =>
      (app 1 ([] : List (BitVec 8)) v25).bind fun v27 =>
      lt (w64 (((v4.1 : butteryref02_Reader).At) + v4.2)) fun v31 =>
      lt (({ (v4.1 : butteryref02_Reader) with At := v31 } : butteryref02_Reader)) fun c33 =>
      some ((c33 : butteryref02_Reader), v27)
end Go.Proofs.YtkmlinaofbcbaaaDoor
namespace Go.Proofs.YtkmlinaofbcbaaaDoor
open Go Go.Va
set_option linter.unusedVariables false
set_option linter.unusedSimpArgs false
set_option maxRecDepth 20000
noncomputable def butteryref02_End (x0 : butteryref02_Reader) : Option (Int) :=
  (
    lt (x0.Code == (0 : Int)) fun v6 =>
    if v6 = true then
      lt (((x0.B).length : Int)) fun v9 =>
      lt (decide (x0.At < v9)) fun v11 =>
      some v11
    else
      some false
   : Option (Bool)).bind fun s1 =>
    if s1 = true then
      some (5 : Int)
    else
      some x0.Code
end Go.Proofs.YtkmlinaofbcbaaaDoor
namespace Go.Proofs.YtkmlinaofbcbaaaDoor
open Go Go.Va
set_option linter.unusedVariables false
set_option linter.unusedSimpArgs false
theorem drop_cons {b l : List (BitVec 8)} {c : BitVec 8} {pos : Nat} (h : b.drop pos = c :: l) : ∃ hp : pos < b.length, b[pos] = c ∧ b.drop (pos + 1) = l := by
  have hp : pos < b.length := by
    rcases Nat.lt_or_ge pos b.length with h1 | h1
    · exact h1
    · rw [List.drop_of_length_le h1] at h; cases h
  rw [List.drop_eq_getElem_cons hp] at h
  simp only [List.cons.injEq] at h
  exact ⟨hp, h.1, h.2⟩
theorem fail_eq (b : List (BitVec 8)) (a e : Int) : octets_Reader_Fail ⟨b, a, 0⟩ e = some ⟨b, a, e⟩ := rfl
theorem rfail_eq (b : List (BitVec 8)) (a e : Int) : butteryref02_fail ⟨b, a, 0⟩ e = some ⟨b, a, e⟩ := rfl
def oOut (b : List (BitVec 8)) (a pos : Nat) : Int ⊕ (Nat × Nat) → octets_Reader ⊕ (Int × octets_Reader)
  | .inl e => .inl ⟨b, a, e⟩
  | .inr (m, k) => .inr ((m : Int), ⟨b, ((pos + k : Nat) : Int), 0⟩)
theorem oOut_go (b : List (BitVec 8)) (a pos : Nat) (r : Int ⊕ (Nat × Nat)) : oOut b a pos (up7 r) = oOut b a (pos + 1) r := by
  cases r with
  | inl e => rfl
  | inr p => simp only [up7, oOut]; rw [show pos + (p.2 + 1) = pos + 1 + p.2 by omega]
theorem rd7_err {most : Nat} : ∀ {l : List (BitVec 8)} {f : Bool} {n : Nat} {e : Int}, rd7 most l f n = .inl e → e = 2 ∨ e = 5 ∨ e = 6
  | [], f, n, e, h => by simp [rd7] at h; omega
  | c :: l, f, n, e, h => by
    simp only [rd7] at h
    split at h
    · cases h; simp
    · split at h
      · cases h; simp
      · split at h
        · cases hr : rd7 most l false (n * 128 + c.toNat % 128) with
          | inl e' => rw [hr] at h; cases h; exact rd7_err hr
          | inr p => rw [hr] at h; cases h
        · split at h
          · cases h; simp
          · cases h
theorem octNum_stop (most : Int) (b : List (BitVec 8)) (n pos a e : Int) (he : e ≠ 0) : octets_Reader_Number_l0 most (n, pos, ⟨b, a, e⟩) = some (.inl ⟨b, a, e⟩) :=
  loopO_out (by simp [octets_Reader_Number_b0, lt_eq, he])
theorem le_byte (c : BitVec 8) : (128#8 ≤ c) ↔ 128 ≤ c.toNat := by rw [BitVec.le_def]; rfl
theorem octNum_l {b : List (BitVec 8)} {most a : Nat} (hb : b.length ≤ 1000000) (hm : most < 9223372036854775808) : ∀ (l : List (BitVec 8)) (pos n : Nat) (f : Bool), b.drop pos = l → pos ≤ b.length → (f = true → n = 0 ∧ pos = a) → (f = false → a < pos) → n < 9223372036854775808 →
    octets_Reader_Number_l0 (most : Int) ((n : Int), (pos : Int), ⟨b, (a : Int), 0⟩) = some (oOut b a pos (rd7 most l f n))
  | [], pos, n, f, hl, hp, _, _, _ => by
    have hlen : pos = b.length := by
      have := congrArg List.length hl
      simp at this; omega
    refine loopO_out ?_
    simp only [octets_Reader_Number_b0, lt_eq]
    rw [if_pos (by rfl), if_pos (decide_eq_true (by omega)), fail_eq]
    rfl
  | c :: l, pos, n, f, hl, hp, hf, hg, hn => by
    obtain ⟨hlt, hc, hd⟩ := drop_cons hl
    have e0 : w64 ((pos : Int) + 1) = ((pos + 1 : Nat) : Int) := w64_nat (by omega)
    have e1 : w64 ((a : Int) + 1) = ((a + 1 : Nat) : Int) := by
      have : a ≤ pos := by cases f with | true => have := (hf rfl).2; omega | false => have := hg rfl; omega
      exact w64_nat (by omega)
    have e2 : shr64 (most : Int) 7 = ((most / 128 : Nat) : Int) := by rw [shr64_nat (by omega)]
    have hcl := c.isLt
    have hcond : (if (c == 128#8) = true then (if ((n : Int) == 0) = true then some (((pos + 1 : Nat) : Int) == ((a + 1 : Nat) : Int)) else some false) else some false) = some (decide (c = 128#8 ∧ f = true)) := by
      by_cases h1 : c = 128#8
      · rw [if_pos (by simp [h1])]
        cases f with
        | true =>
          obtain ⟨rfl, rfl⟩ := hf rfl
          simp [h1]
        | false =>
          have := hg rfl
          split
          · have : (((pos + 1 : Nat) : Int) == ((a + 1 : Nat) : Int)) = false := by simp; omega
            rw [this]; simp
          · simp
      · rw [if_neg (by simpa using h1)]; simp [h1]
    have hb0 : octets_Reader_Number_b0 (most : Int) (n : Int) (pos : Int) ⟨b, (a : Int), 0⟩ =
        if c = 128#8 ∧ f = true then some (.inl ((n : Int), ((pos + 1 : Nat) : Int), ⟨b, (a : Int), 5⟩)) else if most / 128 < n then some (.inl ((n : Int), ((pos + 1 : Nat) : Int), ⟨b, (a : Int), 2⟩)) else
        if 128 ≤ c.toNat then some (.inl (((n * 128 + c.toNat % 128 : Nat) : Int), ((pos + 1 : Nat) : Int), ⟨b, (a : Int), 0⟩)) else
        if most < n * 128 + c.toNat then some (.inl (((n * 128 + c.toNat : Nat) : Int), ((pos + 1 : Nat) : Int), ⟨b, (a : Int), 2⟩)) else some (.inr (.inr (((n * 128 + c.toNat : Nat) : Int), ⟨b, ((pos + 1 : Nat) : Int), 0⟩))) := by
      simp only [octets_Reader_Number_b0, lt_eq]
      rw [if_pos (by rfl), if_neg (by rw [decide_eq_false (by omega)]; simp), ix_nat hlt, hc]
      simp only [Option.bind_some, e0, e1, e2]
      rw [hcond]
      simp only [Option.bind_some, decide_eq_true_eq]
      by_cases h1 : c = 128#8 ∧ f = true
      · rw [if_pos h1, if_pos h1, fail_eq]; rfl
      · rw [if_neg h1, if_neg h1]
        by_cases h2 : most / 128 < n
        · rw [if_pos (by omega), if_pos h2, fail_eq]; rfl
        · rw [if_neg (by omega), if_neg h2]
          by_cases h3 : 128 ≤ c.toNat
          · rw [if_pos ((le_byte c).2 h3), if_pos h3, byte_and, or64_7 (by omega) (by omega)]
          · rw [if_neg (fun h => h3 ((le_byte c).1 h)), if_neg h3, or64_7 (by omega) (by omega)]
            by_cases h4 : most < n * 128 + c.toNat
            · rw [if_pos (by omega), if_pos h4, fail_eq]; rfl
            · rw [if_neg (by omega), if_neg h4]
    have step : ∀ (s' : Int × Int × octets_Reader), octets_Reader_Number_b0 (most : Int) (n : Int) (pos : Int) ⟨b, (a : Int), 0⟩ = some (.inl s') → octets_Reader_Number_l0 (most : Int) ((n : Int), (pos : Int), ⟨b, (a : Int), 0⟩) = octets_Reader_Number_l0 (most : Int) s' := fun s' h => loopO_in (body := fun s => octets_Reader_Number_b0 (most : Int) s.1 s.2.1 s.2.2) h
    simp only [rd7]
    by_cases h1 : c = 128#8 ∧ f = true
    · rw [if_pos h1] at hb0 ⊢
      rw [step _ hb0, octNum_stop _ _ _ _ _ _ (by decide)]; rfl
    · rw [if_neg h1] at hb0 ⊢
      by_cases h2 : most / 128 < n
      · rw [if_pos h2] at hb0 ⊢
        rw [step _ hb0, octNum_stop _ _ _ _ _ _ (by decide)]; rfl
      · rw [if_neg h2] at hb0 ⊢
        by_cases h3 : 128 ≤ c.toNat
        · rw [if_pos h3] at hb0 ⊢
          rw [step _ hb0, octNum_l hb hm l (pos + 1) (n * 128 + c.toNat % 128) false hd (by omega) (by simp) (fun _ => by cases f with | true => have := (hf rfl).2; omega | false => have := hg rfl; omega) (by omega), oOut_go]
        · rw [if_neg h3] at hb0 ⊢
          by_cases h4 : most < n * 128 + c.toNat
          · rw [if_pos h4] at hb0 ⊢
            rw [step _ hb0, octNum_stop _ _ _ _ _ _ (by decide)]; rfl
          · rw [if_neg h4] at hb0 ⊢
            exact loopO_out (body := fun s => octets_Reader_Number_b0 (most : Int) s.1 s.2.1 s.2.2) hb0
def rOut (b : List (BitVec 8)) (a pos : Nat) : Int ⊕ (Nat × Nat) → Unit ⊕ (butteryref02_Reader × Int)
  | .inl e => if e = 6 then .inl () else .inr (⟨b, a, e⟩, 0)
  | .inr (m, k) => .inr (⟨b, ((pos + k : Nat) : Int), 0⟩, (m : Int))
theorem rOut_go (b : List (BitVec 8)) (a pos : Nat) (r : Int ⊕ (Nat × Nat)) : rOut b a pos (up7 r) = rOut b a (pos + 1) r := by
  cases r with
  | inl e => rfl
  | inr p => simp only [up7, rOut]; rw [show pos + (p.2 + 1) = pos + 1 + p.2 by omega]
theorem refNum_l {b : List (BitVec 8)} {most a : Nat} (hb : b.length ≤ 1000000) (hm : most < 9223372036854775808) : ∀ (l : List (BitVec 8)) (pos n : Nat) (f : Bool), b.drop pos = l → pos ≤ b.length → (f = true → n = 0 ∧ pos = a) → (f = false → a < pos) → n < 9223372036854775808 →
    butteryref02_Number_l0 ⟨b, (a : Int), 0⟩ (most : Int) ((n : Int), (pos : Int)) = some (rOut b a pos (rd7 most l f n))
  | [], pos, n, f, hl, hp, _, _, _ => by
    have hlen : pos = b.length := by
      have := congrArg List.length hl
      simp at this; omega
    refine loopO_out ?_
    simp only [butteryref02_Number_b0, lt_eq]
    rw [if_neg (by rw [decide_eq_false (by omega)]; simp)]
    rfl
  | c :: l, pos, n, f, hl, hp, hf, hg, hn => by
    obtain ⟨hlt, hc, hd⟩ := drop_cons hl
    have e0 : w64 ((pos : Int) + 1) = ((pos + 1 : Nat) : Int) := w64_nat (by omega)
    have e2 : quo64 (most : Int) 128 = ((most / 128 : Nat) : Int) := quo64_nat hm
    have e3 : Int.tmod (c.toNat : Int) 128 = ((c.toNat % 128 : Nat) : Int) := tmod_nat _ 128
    have hcl := c.isLt
    have e4 : ((c.toNat : Int) == 128) = decide (c = 128#8) := by
      rw [Bool.eq_iff_iff]; simp only [beq_iff_eq, decide_eq_true_eq]
      constructor
      · intro h; apply BitVec.eq_of_toNat_eq; show _ = 128; omega
      · rintro rfl; rfl
    have hcond : (if decide (c = 128#8) = true then some ((pos : Int) == (a : Int)) else some false) = some (decide (c = 128#8 ∧ f = true)) := by
      by_cases h1 : c = 128#8
      · rw [if_pos (by simp [h1])]
        cases f with
        | true =>
          obtain ⟨rfl, rfl⟩ := hf rfl
          simp [h1]
        | false =>
          have := hg rfl
          have : ((pos : Int) == (a : Int)) = false := by simp; omega
          rw [this]; simp
      · rw [if_neg (by simpa using h1)]; simp [h1]
    have hb0 : butteryref02_Number_b0 ⟨b, (a : Int), 0⟩ (most : Int) (n : Int) (pos : Int) =
        if c = 128#8 ∧ f = true then some (.inr (.inr (⟨b, (a : Int), 5⟩, 0))) else if most / 128 < n then some (.inr (.inr (⟨b, (a : Int), 2⟩, 0))) else
        if 128 ≤ c.toNat then some (.inl (((n * 128 + c.toNat % 128 : Nat) : Int), ((pos + 1 : Nat) : Int))) else
        if most < n * 128 + c.toNat then some (.inr (.inr (⟨b, (a : Int), 2⟩, 0))) else some (.inr (.inr (⟨b, ((pos + 1 : Nat) : Int), 0⟩, ((n * 128 + c.toNat : Nat) : Int)))) := by
      simp only [butteryref02_Number_b0, lt_eq]
      rw [if_pos (decide_eq_true (by omega)), ix_nat hlt, hc]
      simp only [Option.bind_some, e0, e2, e3, e4]
      rw [hcond]
      simp only [Option.bind_some, decide_eq_true_eq]
      by_cases h1 : c = 128#8 ∧ f = true
      · rw [if_pos h1, if_pos h1, rfail_eq]; rfl
      · rw [if_neg h1, if_neg h1]
        by_cases h2 : most / 128 < n
        · rw [if_pos (by omega), if_pos h2, rfail_eq]; rfl
        · rw [if_neg (by omega), if_neg h2, w64_eq (n := (n : Int) * 128) (by omega) (by omega), w64_eq (by omega) (by omega)]
          by_cases h3 : 128 ≤ c.toNat
          · rw [if_pos (by omega), if_pos h3]
            rw [show ((n : Int) * 128 + ((c.toNat % 128 : Nat) : Int)) = ((n * 128 + c.toNat % 128 : Nat) : Int) by omega]
          · rw [if_neg (by omega), if_neg h3]
            rw [show ((n : Int) * 128 + ((c.toNat % 128 : Nat) : Int)) = ((n * 128 + c.toNat : Nat) : Int) by omega]
            by_cases h4 : most < n * 128 + c.toNat
            · rw [if_pos (by omega), if_pos h4, rfail_eq]; rfl
            · rw [if_neg (by omega), if_neg h4]
    have hout : ∀ x, butteryref02_Number_b0 ⟨b, (a : Int), 0⟩ (most : Int) (n : Int) (pos : Int) = some (.inr x) → butteryref02_Number_l0 ⟨b, (a : Int), 0⟩ (most : Int) ((n : Int), (pos : Int)) = some x := fun x h => loopO_out (body := fun s => butteryref02_Number_b0 ⟨b, (a : Int), 0⟩ (most : Int) s.1 s.2) h
    have step : ∀ (s' : Int × Int), butteryref02_Number_b0 ⟨b, (a : Int), 0⟩ (most : Int) (n : Int) (pos : Int) = some (.inl s') → butteryref02_Number_l0 ⟨b, (a : Int), 0⟩ (most : Int) ((n : Int), (pos : Int)) = butteryref02_Number_l0 ⟨b, (a : Int), 0⟩ (most : Int) s' := fun s' h => loopO_in (body := fun s => butteryref02_Number_b0 ⟨b, (a : Int), 0⟩ (most : Int) s.1 s.2) h
    simp only [rd7]
    by_cases h1 : c = 128#8 ∧ f = true
    · rw [if_pos h1] at hb0 ⊢
      exact hout _ hb0
    · rw [if_neg h1] at hb0 ⊢
      by_cases h2 : most / 128 < n
      · rw [if_pos h2] at hb0 ⊢
        exact hout _ hb0
      · rw [if_neg h2] at hb0 ⊢
        by_cases h3 : 128 ≤ c.toNat
        · rw [if_pos h3] at hb0 ⊢
          rw [step _ hb0, refNum_l hb hm l (pos + 1) (n * 128 + c.toNat % 128) false hd (by omega) (by simp) (fun _ => by cases f with | true => have := (hf rfl).2; omega | false => have := hg rfl; omega) (by omega), rOut_go]
        · rw [if_neg h3] at hb0 ⊢
          by_cases h4 : most < n * 128 + c.toNat
          · rw [if_pos h4] at hb0 ⊢
            exact hout _ hb0
          · rw [if_neg h4] at hb0 ⊢
            exact hout _ hb0
/-- What is read, and where the reader stands then. -/
def rdN (b : List (BitVec 8)) (a most : Nat) : Nat × Nat × Int := match rd7 most (b.drop a) true 0 with
  | .inl e => (0, a, e)
  | .inr (m, k) => (m, a + k, 0)
theorem octNum_eq {b : List (BitVec 8)} {a most : Nat} (hb : b.length ≤ 1000000) (ha : a ≤ b.length) (hm : most < 9223372036854775808) : octets_Reader_Number ⟨b, a, 0⟩ most = some (((rdN b a most).1 : Int), ⟨b, ((rdN b a most).2.1 : Int), (rdN b a most).2.2⟩) := by
  simp only [octets_Reader_Number]
  have := octNum_l hb hm (b.drop a) a 0 true rfl ha (fun _ => ⟨rfl, rfl⟩) (fun h => by cases h) (by omega)
  rw [show ((0 : Nat) : Int) = 0 from rfl] at this
  rw [this]
  unfold rdN
  cases rd7 most (b.drop a) true 0 with
  | inl e => rfl
  | inr p => rfl
theorem refNum_eq {b : List (BitVec 8)} {a most : Nat} (hb : b.length ≤ 1000000) (ha : a ≤ b.length) (hm : most < 9223372036854775808) : butteryref02_Number ⟨b, a, 0⟩ most = some (⟨b, ((rdN b a most).2.1 : Int), (rdN b a most).2.2⟩, ((rdN b a most).1 : Int)) := by
  simp only [butteryref02_Number, lt_eq]
  rw [if_neg (by simp)]
  have := refNum_l hb hm (b.drop a) a 0 true rfl ha (fun _ => ⟨rfl, rfl⟩) (fun h => by cases h) (by omega)
  rw [show ((0 : Nat) : Int) = 0 from rfl] at this
  rw [this]
  unfold rdN
  cases h : rd7 most (b.drop a) true 0 with
  | inl e =>
    rcases rd7_err h with rfl | rfl | rfl <;> rfl
  | inr p => rfl
theorem rdN_le {b : List (BitVec 8)} {a most : Nat} (ha : a ≤ b.length) : (rdN b a most).2.1 ≤ b.length ∧ a ≤ (rdN b a most).2.1 ∧ (rdN b a most).1 ≤ most ∧ ((rdN b a most).2.2 ≠ 0 → (rdN b a most).1 = 0 ∧ (rdN b a most).2.1 = a) := by
  unfold rdN
  cases h : rd7 most (b.drop a) true 0 with
  | inl e => exact ⟨ha, Nat.le_refl _, Nat.zero_le _, fun _ => ⟨rfl, rfl⟩⟩
  | inr p =>
    have := rd7_le h
    simp only [List.length_drop] at this
    exact ⟨by simp only; omega, by simp only; omega, this.1, fun h => absurd rfl h⟩
theorem rdN_off {b : List (BitVec 8)} {a : Int} {most e : Int} (he : e ≠ 0) : octets_Reader_Number ⟨b, a, e⟩ most = some (0, ⟨b, a, e⟩) := by
  simp only [octets_Reader_Number, octNum_stop _ _ _ _ _ _ he]; rfl
theorem refN_off {b : List (BitVec 8)} {a : Int} {most e : Int} (he : e ≠ 0) : butteryref02_Number ⟨b, a, e⟩ most = some (⟨b, a, e⟩, 0) := by
  simp [butteryref02_Number, lt_eq, he]
theorem left_eq {b : List (BitVec 8)} {a : Nat} {e : Int} (hb : b.length ≤ 1000000) (ha : a ≤ b.length) : octets_Reader_Left ⟨b, a, e⟩ = some ((b.length - a : Nat) : Int) := by
  simp only [octets_Reader_Left, lt_eq]
  rw [w64_eq (by omega) (by omega)]
  congr 1; omega
end Go.Proofs.YtkmlinaofbcbaaaDoor
namespace Go.Proofs.YtkmlinaofbcbaaaDoor
open Go Go.Va
set_option linter.unusedVariables false
set_option linter.unusedSimpArgs false
def stp (a : BitVec 64) (c : BitVec 8) : BitVec 64 := a <<< 8 ||| c.setWidth 64
def word (l : List (BitVec 8)) : BitVec 64 := l.foldl stp 0#64
theorem stp_add (a : BitVec 64) (c : BitVec 8) : a * 256#64 + c.setWidth 64 = stp a c := by
  have h1 : a * 256#64 = a <<< 8 := by
    apply BitVec.eq_of_toNat_eq
    simp [Nat.shiftLeft_eq]
  have h2 : a <<< 8 &&& c.setWidth 64 = 0#64 := by
    apply BitVec.eq_of_getLsbD_eq
    intro i hi
    simp only [BitVec.getLsbD_and, BitVec.getLsbD_shiftLeft, BitVec.getLsbD_setWidth, BitVec.getLsbD_zero]
    by_cases h : i < 8
    · simp [h]
    · rw [BitVec.getLsbD_of_ge c i (by omega)]; simp
  rw [h1, BitVec.add_eq_or_of_and_eq_zero _ _ h2]; rfl
theorem word_wd (n : BitVec 64) : ∀ i, i ≤ 8 → word (wd n i) = n >>> (64 - 8 * i)
  | 0, _ => by
    apply BitVec.eq_of_getLsbD_eq
    intro j hj
    rw [BitVec.getLsbD_ushiftRight, BitVec.getLsbD_of_ge n _ (by omega)]; simp [word, wd]
  | i + 1, h => by
    rw [wd_succ, word, List.foldl_append]
    have ih := word_wd n i (by omega)
    rw [word] at ih
    rw [ih]
    simp only [List.foldl_cons, List.foldl_nil, stp]
    apply BitVec.eq_of_getLsbD_eq
    intro j hj
    simp only [BitVec.getLsbD_or, BitVec.getLsbD_shiftLeft, BitVec.getLsbD_ushiftRight, BitVec.getLsbD_setWidth]
    by_cases h8 : j < 8
    · simp [h8, hj, show 64 - 8 * (i + 1) = 56 - 8 * i by omega]
    · simp only [h8, hj, decide_true, decide_false, Bool.not_false, Bool.and_true, Bool.true_and, Bool.false_and, Bool.and_false, Bool.or_false]
      congr 1; omega
theorem word_full (n : BitVec 64) : word (wd n 8) = n := by
  rw [word_wd n 8 (by omega)]; simp
/-- Eight bytes. -/
def cut8 (b : List (BitVec 8)) (a : Nat) : List (BitVec 8) := (b.take (a + 8)).drop a
theorem cut8_len {b : List (BitVec 8)} {a : Nat} (h : a + 8 ≤ b.length) : (cut8 b a).length = 8 := by simp [cut8]; omega
/-- What bytes are read: they, where the reader stands then, what is wrong. -/
def rdB (b : List (BitVec 8)) (a most : Nat) : List (BitVec 8) × Nat × Int :=
  if (rdN b a most).2.2 ≠ 0 then ([], (rdN b a most).2.1, (rdN b a most).2.2) else
  if b.length < (rdN b a most).2.1 + (rdN b a most).1 then ([], a, 6) else ((b.take ((rdN b a most).2.1 + (rdN b a most).1)).drop (rdN b a most).2.1, (rdN b a most).2.1 + (rdN b a most).1, 0)
theorem octBytesR_eq {b : List (BitVec 8)} {a most : Nat} (hb : b.length ≤ 1000000) (ha : a ≤ b.length) (hm : most < 9223372036854775808) : octets_Reader_Bytes ⟨b, a, 0⟩ most = some ((rdB b a most).1, ⟨b, ((rdB b a most).2.1 : Int), (rdB b a most).2.2⟩) := by
  simp only [octets_Reader_Bytes, octNum_eq hb ha hm, Option.bind_some, lt_eq]
  obtain ⟨h1, h2, h3, h4⟩ := rdN_le (most := most) ha
  unfold rdB
  generalize rdN b a most = z at *
  obtain ⟨n, p, e⟩ := z
  simp only at *
  by_cases he : e = 0
  · subst he
    rw [if_neg (by simp), if_neg (by simp), left_eq hb h1]
    simp only [Option.bind_some]
    by_cases hc : b.length < p + n
    · rw [if_pos hc, if_pos (decide_eq_true (by omega)), fail_eq]; rfl
    · rw [if_neg hc, if_neg (by rw [decide_eq_false (by omega)]; simp), w64_eq (by omega) (by omega), show (p : Int) + (n : Int) = ((p + n : Nat) : Int) by omega, cutO_eq (by omega) (by omega)]
      simp only [Option.bind_some]
      rw [app_eq (by simp; omega)]; rfl
  · rw [if_pos (by simpa using he), if_pos he]
theorem octBytesR_off {b : List (BitVec 8)} {a e most : Int} (he : e ≠ 0) : octets_Reader_Bytes ⟨b, a, e⟩ most = some ([], ⟨b, a, e⟩) := by
  simp [octets_Reader_Bytes, rdN_off he, lt_eq, he]
theorem text_eq {b : List (BitVec 8)} {a most : Nat} (hb : b.length ≤ 1000000) (ha : a ≤ b.length) (hm : most < 9223372036854775808) : butteryref02_Text ⟨b, a, 0⟩ most = some (⟨b, ((rdB b a most).2.1 : Int), (rdB b a most).2.2⟩, (rdB b a most).1) := by
  simp only [butteryref02_Text, refNum_eq hb ha hm, Option.bind_some, lt_eq]
  obtain ⟨h1, h2, h3, h4⟩ := rdN_le (most := most) ha
  unfold rdB
  generalize rdN b a most = z at *
  obtain ⟨n, p, e⟩ := z
  simp only at *
  by_cases he : e = 0
  · subst he
    rw [if_neg (show ¬ (((0 : Int) != 0) = true) by simp), if_neg (show ¬ ((0 : Int) ≠ 0) by simp), w64_eq (n := (b.length : Int) - (p : Int)) (by omega) (by omega)]
    by_cases hc : b.length < p + n
    · rw [if_pos hc, if_pos (decide_eq_true (by omega)), rfail_eq]; rfl
    · rw [if_neg hc, if_neg (by rw [decide_eq_false (by omega)]; simp), w64_eq (by omega) (by omega), show (p : Int) + (n : Int) = ((p + n : Nat) : Int) by omega, cutO_eq (by omega) (by omega)]
      simp only [Option.bind_some]
      rw [app_eq (by simp; omega)]; rfl
  · rw [if_pos (by simpa using he), if_pos he]
theorem text_off {b : List (BitVec 8)} {a e most : Int} (he : e ≠ 0) : butteryref02_Text ⟨b, a, e⟩ most = some (⟨b, a, e⟩, []) := by
  simp [butteryref02_Text, refN_off he, lt_eq, he]
theorem rdB_le {b : List (BitVec 8)} {a most : Nat} (ha : a ≤ b.length) : (rdB b a most).2.1 ≤ b.length ∧ a ≤ (rdB b a most).2.1 ∧ (rdB b a most).1.length ≤ b.length := by
  obtain ⟨h1, h2, h3, h4⟩ := rdN_le (most := most) ha
  unfold rdB
  generalize rdN b a most = z at *
  obtain ⟨n, p, e⟩ := z
  simp only at *
  split
  · exact ⟨h1, h2, by simp⟩
  · split
    · exact ⟨ha, Nat.le_refl _, by simp⟩
    · exact ⟨by simp only; omega, by simp only; omega, by simp; omega⟩
theorem end_eq {b : List (BitVec 8)} {a : Nat} {e : Int} (hb : b.length ≤ 1000000) (ha : a ≤ b.length) : octets_Reader_End ⟨b, a, e⟩ = some (if e = 0 ∧ a < b.length then 5 else e, ⟨b, a, if e = 0 ∧ a < b.length then 5 else e⟩) := by
  simp only [octets_Reader_End, left_eq hb ha, Option.bind_some, lt_eq]
  by_cases h : a < b.length
  · rw [if_pos (decide_eq_true (by omega))]
    by_cases he : e = 0
    · subst he; rw [fail_eq]; simp [h]
    · simp [octets_Reader_Fail, lt_eq, he]
  · rw [if_neg (by rw [decide_eq_false (by omega)]; simp)]; simp [h]
theorem rend_eq {b : List (BitVec 8)} {a : Nat} {e : Int} : butteryref02_End ⟨b, a, e⟩ = some (if e = 0 ∧ a < b.length then 5 else e) := by
  simp only [butteryref02_End, lt_eq]
  by_cases he : e = 0
  · subst he
    rw [if_pos (by rfl)]
    by_cases h : a < b.length
    · simp [h]
    · simp [h]
  · simp [he]
theorem read_eq {b : List (BitVec 8)} (hb : b.length ≤ 1000000) : octets_Read b = some ⟨b, 0, 0⟩ := by
  simp only [octets_Read, lt_eq]
  rw [app_eq (by simp; omega)]; rfl
end Go.Proofs.YtkmlinaofbcbaaaDoor
