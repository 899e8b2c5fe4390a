/- Whatever is sent, taken, lost, doubled and spoilt, each call answers what the chapter says, and all that is on its way is what it says. (part 5 of 8) -/
import Derived.Test.YtedcgeghgbgonaaGreatDoorKLinesDoes4
namespace Go.Proofs.YtedcgeghgbgonaaGreatDoor
open Go Go.Va
set_option linter.unusedVariables false
set_option linter.unusedSimpArgs false
set_option maxRecDepth 20000
theorem wire_Check_ok {x0 : api_Msg} {r : Err} (H : wire_Check x0 = some r) (σ : St)  : ACall Tryz.prog 43 [(e_api_Msg x0)] σ (fun a τ => a = eErr r ∧ τ = σ) := by
 unfold wire_Check at H
 refine ACall.pure (acall_start tk Tryz.func43 (by decide) rfl (nb rfl) ?_)
 have hH := Holds.init σ
 refine sr rfl (m_ (.fptr (c_api_Msg x0) 0) rfl (o_boxf tk rfl wr (b := (e_api_Msg x0)) (enc44.flat _)) (ma tk (eErr Err.nil) rfl rfl (wpo_nil (awp_seq (awp_seq ?_)))))
 obtain ⟨s1, hs3, hj4⟩ := ob H
 refine awp_cutn (fun fr τ => WkF fr (fm [(1, (.fptr (c_api_Msg x0) 0)), (17, (eB s1))]) ∧ Holds σ [] [] τ) ?_ ?_
 ·rintro fr τ ⟨hfr, hH⟩
  have H10 := hj4
  refine AWP.fm [(1, (.fptr (c_api_Msg x0) 0)), (17, (eB s1))] hfr ?_
  refine awp_if H10 rfl (fun H11 => ?_) (fun H11 => ?_)
  ·refine sr rfl (mc tk (.fptr (c_api_Msg x0) 0) rfl rfl (fun _ => rfl) (m_ (eI x0.Kind) rfl (o_ld tk rfl rfl) ?_))
   refine b_ H11 eErr rfl (fun v13 hv => OpP.of_call rfl rfl (.cons wr (.cons wr (.cons wr .nil))) (trouble_New_ok hv)) fun v13 hv13 H12 => ?_
   refine ma tk (eErr v13) rfl rfl (wpo_nil (awp_ret ?_))
   obtain rfl := oi H12
   exact ⟨_, (eErr v13), rfl, wr, .of_eq (encErr.cut _ _ _), hH.noT⟩
  ·refine awp_skip (awp_seq ?_)
   refine awp_drawS mixed [] rfl (by decide +kernel) rfl rfl ?_
   refine wpdS_mv (a := (.fptr (c_api_Msg x0) 1)) rfl rfl rfl (o_c tk false rfl (fun _ => rfl)) (wpdS_mv (a := (eI x0.From)) rfl rfl rfl (o_ld tk rfl rfl) (wpdS_mv (a := (.fptr (c_api_Msg x0) 2)) rfl rfl rfl (o_c tk false rfl (fun _ => rfl)) (wpdS_mv (a := (eI x0.To)) rfl rfl rfl (o_ld tk rfl rfl) (wpdS_mv (a := (eI x0.From)) rfl rfl rfl (o_as tk rfl (Wk.refl _)) (wpdS_mv (a := (eI x0.To)) rfl rfl rfl (o_as tk rfl (Wk.refl _)) (wpdS_nil (awp_seq (sr rfl ?_))))))))
   refine mc tk (.fptr (c_api_Msg x0) 0) rfl rfl (fun _ => rfl) (m_ (eI x0.Kind) rfl (o_ld tk rfl rfl) ?_)
   refine b_ H11 eB rfl (fun v15 hv => OpP.of_call rfl rfl (.cons wr .nil) (wire_down_ok hv)) fun v15 hv15 H14 => ?_
   refine wpo_nil ?_
   obtain ⟨s16, hs18, hj19⟩ := ob H14
   refine awp_cutn (fun fr τ => WkF fr (fm [(1, (.fptr (c_api_Msg x0) 0)), (3, (eI s16.1)), (4, (eI s16.2))]) ∧ Holds σ [] [] τ) ?_ ?_
   ·rintro fr τ ⟨hfr, hH⟩
    have H21 := hj19
    refine AWP.fm [(1, (.fptr (c_api_Msg x0) 0)), (3, (eI s16.1)), (4, (eI s16.2))] hfr ?_
    refine awp_seq (awp_block (awp_seq ?_))
    obtain ⟨s22, hs24, hj25⟩ := ob H21
    refine awp_cutn (fun fr τ => WkF fr (fm [(1, (.fptr (c_api_Msg x0) 0)), (3, (eI s16.1)), (30, (eB s22))]) ∧ Holds σ [] [] τ) ?_ ?_
    ·rintro fr τ ⟨hfr, hH⟩
     have H34 := hj25
     refine AWP.fm [(1, (.fptr (c_api_Msg x0) 0)), (3, (eI s16.1)), (30, (eB s22))] hfr ?_
     refine awp_if H34 rfl (fun H35 => ?_) (fun H35 => ?_)
     ·refine sr rfl (mm tk (eI s16.1) rfl rfl ?_)
      refine b_ H35 eErr rfl (fun v37 hv => OpP.of_call rfl rfl (.cons wr (.cons wr (.cons wr .nil))) (trouble_New_ok hv)) fun v37 hv37 H36 => ?_
      refine ma tk (eErr v37) rfl rfl (wpo_nil (awp_ret ?_))
      obtain rfl := oi H36
      exact ⟨_, (eErr v37), rfl, wr, .of_eq (encErr.cut _ _ _), hH.noT⟩
     ·refine awp_seq ?_
      obtain ⟨s38, hs40, hj41⟩ := ob H35
      refine awp_cutn (fun fr τ => WkF fr (fm [(1, (.fptr (c_api_Msg x0) 0)), (43, (eB s38))]) ∧ Holds σ [] [] τ) ?_ ?_
      ·rintro fr τ ⟨hfr, hH⟩
       have H47 := hj41
       refine AWP.fm [(1, (.fptr (c_api_Msg x0) 0)), (43, (eB s38))] hfr ?_
       refine awp_if H47 rfl (fun H48 => ?_) (fun H48 => ?_)
       ·refine sr rfl (mc tk (.fptr (c_api_Msg x0) 3) rfl rfl (fun _ => rfl) (m_ (eI x0.Epoch) rfl (o_ld tk rfl rfl) ?_))
        refine b_ H48 eErr rfl (fun v50 hv => OpP.of_call rfl rfl (.cons wr (.cons wr (.cons wr .nil))) (trouble_New_ok hv)) fun v50 hv50 H49 => ?_
        refine ma tk (eErr v50) rfl rfl (wpo_nil (awp_ret ?_))
        obtain rfl := oi H49
        exact ⟨_, (eErr v50), rfl, wr, .of_eq (encErr.cut _ _ _), hH.noT⟩
       ·refine awp_skip (sr rfl (m_ (e_api_Msg x0) rfl (o_ld tk rfl rfl) ?_))
        refine wpo_a (av := fun id => .ref id 0) rfl rfl rfl (h_allocw tk hH ty44 (c_api_Msg z_api_Msg) (.cons wr (.cons wr (.cons wr (.cons wr (.cons wr (.cons wr (.cons wr (.cons wr (.cons wr (.cons (by exact wk_nils _) (.cons wr .nil)))))))))))) fun id51 τ ⟨hH, n52⟩ => ?_
        obtain ⟨c54, hc55, H53⟩ := lt_ex H48
        refine wpo_z rfl rfl (h_st tk hH 0 rfl ty44 (by simp) rfl rfl wr (b := (e_api_Msg x0)) (enc44.flat _) rfl (nb rfl) (c_api_Msg c54) (by rw [← hc55]; rfl)) fun τ hH => ?_
        refine wpo_nil (sr rfl (mc tk (.ref id51 0) rfl rfl (fun _ => rfl) ?_))
        obtain ⟨c57, hc58, H56⟩ := lt_ex H53
        refine wpo_z rfl rfl (h_st tk hH 0 rfl ty3 (by simp) rfl rfl wr (b := (eI (0 : Int))) rfl rfl (nb rfl) (c_api_Msg c57) (by rw [← hc58]; rfl)) fun τ hH => ?_
        refine mc tk (.ref id51 1) rfl rfl (fun _ => rfl) ?_
        obtain ⟨c60, hc61, H59⟩ := lt_ex H56
        refine wpo_z rfl rfl (h_st tk hH 0 rfl ty3 (by simp) rfl rfl wr (b := (eI (0 : Int))) rfl rfl (nb rfl) (c_api_Msg c60) (by rw [← hc61]; rfl)) fun τ hH => ?_
        refine mc tk (.ref id51 2) rfl rfl (fun _ => rfl) ?_
        obtain ⟨c63, hc64, H62⟩ := lt_ex H59
        refine wpo_z rfl rfl (h_st tk hH 0 rfl ty3 (by simp) rfl rfl wr (b := (eI (0 : Int))) rfl rfl (nb rfl) (c_api_Msg c63) (by rw [← hc64]; rfl)) fun τ hH => ?_
        refine mc tk (.ref id51 3) rfl rfl (fun _ => rfl) ?_
        obtain ⟨c66, hc67, H65⟩ := lt_ex H62
        refine wpo_z rfl rfl (h_st tk hH 0 rfl ty3 (by simp) rfl rfl wr (b := (eI (0 : Int))) rfl rfl (nb rfl) (c_api_Msg c66) (by rw [← hc67]; rfl)) fun τ hH => ?_
        refine wpo_nil (awp_seq (sr rfl (mc tk (.fptr (c_api_Msg x0) 0) rfl rfl (fun _ => rfl) (m_ (eI x0.Kind) rfl (o_ld tk rfl rfl) ?_))))
        refine b_ H65 eS rfl (fun v69 hv => OpP.of_call rfl rfl (.cons wr .nil) (wire_parts_ok hv)) fun v69 hv69 H68 => ?_
        refine wpo_a (av := fun id => .spc id) rfl rfl rfl (h_range tk hH td9 rfl) fun id70 τ ⟨hH, n71⟩ => ?_
        refine wpo_nil (awp_block ?_)
        obtain ⟨o74, hs75, hj76⟩ := ob H68
        refine awp_cutx 1 (fun fr τ => ∃ s81 : (List (BitVec 8) × Nat) × api_Msg, o74 = .inl s81 ∧ WkF fr (fm [(1, (.fptr (c_api_Msg x0) 0)), (5, (.ref id51 0))]) ∧ Holds σ [(id70, (cIt s81.1)), (id51, (c_api_Msg s81.2))] [] τ) ?_ ?_
        ·rintro fr τ ⟨s81, rfl, hfr, hH⟩
         have H166 := hj76
         simp only [Sum.elim_inl] at H166
         refine AWP.fm [(1, (.fptr (c_api_Msg x0) 0)), (5, (.ref id51 0))] hfr ?_
         refine awp_seq (awp_seq ?_)
         obtain ⟨s167, hs169, hj170⟩ := ob H166
         refine awp_cutn (fun fr τ => WkF fr (fm [(1, (.fptr (c_api_Msg x0) 0)), (148, (eB s167))]) ∧ Holds σ [(id70, (cIt s81.1)), (id51, (c_api_Msg s81.2))] [] τ) ?_ ?_
         ·rintro fr τ ⟨hfr, hH⟩
          have H179 := hj170
          refine AWP.fm [(1, (.fptr (c_api_Msg x0) 0)), (148, (eB s167))] hfr ?_
          refine awp_if H179 rfl (fun H180 => ?_) (fun H180 => ?_)
          ·refine sr rfl (mc tk (.fptr (c_api_Msg x0) 0) rfl rfl (fun _ => rfl) (m_ (eI x0.Kind) rfl (o_ld tk rfl rfl) ?_))
           refine b_ H180 eErr rfl (fun v182 hv => OpP.of_call rfl rfl (.cons wr (.cons wr (.cons wr .nil))) (trouble_New_ok hv)) fun v182 hv182 H181 => ?_
           refine ma tk (eErr v182) rfl rfl (wpo_nil (awp_ret ?_))
           obtain rfl := oi H181
           exact ⟨_, (eErr v182), rfl, wr, .of_eq (encErr.cut _ _ _), ((hH.noT.drop n71).drop n52)⟩
          ·refine awp_skip (sr rfl (ma tk (eErr Err.nil) rfl rfl (wpo_nil (awp_ret ?_))))
           obtain rfl := oi H180
           exact ⟨_, (eErr Err.nil), rfl, wr, .of_eq (encErr.cut _ _ _), ((hH.noT.drop n71).drop n52)⟩
         ·refine awp_region rfl (mc tk (.ref id51 4) rfl rfl (fun _ => rfl) (wpo_rd (a := (eI s81.2.Id)) rfl rfl rfl (h_ld tk hH 1 rfl rfl rfl) ?_))
          refine l_ hs169 eB rfl (o_ar tk rfl rfl rfl) fun v172 H171 => ?_
          refine mm tk (eB v172) rfl rfl ?_
          refine if_split H171 (fun hb H173 => ?_) (fun hb H173 => ?_)
          ·subst hb
           refine k_ rfl (k_ rfl (pt tk (eB true) rfl rfl rfl (mm tk (eB true) rfl rfl (k_ rfl (k_ rfl (k_ rfl (k_ rfl (k_ rfl ?_))))))))
           refine pt tk (eB true) rfl rfl rfl (wpo_nil ?_)
           have e := oi H173
           subst e
           exact ⟨(wc (wc (wkf_nil _))), hH⟩
          ·subst hb
           refine mc tk (.ref id51 10) rfl rfl (fun _ => rfl) (wpo_rd (a := (eB s81.2.Found)) rfl rfl rfl (h_ld tk hH 1 rfl rfl rfl) (pf tk (eB s81.2.Found) rfl rfl rfl (mm tk (eB s81.2.Found) rfl rfl ?_)))
           refine if_split H173 (fun hb H174 => ?_) (fun hb H174 => ?_)
           ·rw [hb]
            refine k_ rfl (k_ rfl (k_ rfl (k_ rfl (k_ rfl (pt tk (eB true) rfl rfl rfl (wpo_nil ?_))))))
            have e := oi H174
            subst e
            exact ⟨(wc (wc (wkf_nil _))), hH⟩
           ·rw [hb]
            refine mc tk (.ref id51 5) rfl rfl (fun _ => rfl) (wpo_rd (a := (e_api_Entry s81.2.X)) rfl rfl rfl (h_ld tk hH 1 rfl rfl rfl) (mc tk (.agg [(eS (⟨([] : List (BitVec 8)), (0 : Int), (0 : Int), (0 : Int), ([] : List (BitVec 8))⟩ : api_Entry).Key), (eI (⟨([] : List (BitVec 8)), (0 : Int), (0 : Int), (0 : Int), ([] : List (BitVec 8))⟩ : api_Entry).Version), (eI (⟨([] : List (BitVec 8)), (0 : Int), (0 : Int), (0 : Int), ([] : List (BitVec 8))⟩ : api_Entry).AsOf), (eI (⟨([] : List (BitVec 8)), (0 : Int), (0 : Int), (0 : Int), ([] : List (BitVec 8))⟩ : api_Entry).Ends), AV.nils]) rfl rfl (fun _ => rfl) ?_))
            refine b_ H174 eB rfl (fun v176 hv => OpP.of_call rfl rfl (.cons wr (.cons (wk_agg (.cons wr (.cons wr (.cons wr (.cons wr (.cons (wk_nils _) .nil)))))) .nil)) (item_Same_ok hv)) fun v176 hv176 H175 => ?_
            refine l_ H175 eB rfl (o_un tk rfl rfl) fun v178 H177 => ?_
            refine pf tk (eB v178) rfl rfl rfl (wpo_nil ?_)
            have e := oi H177
            subst e
            exact ⟨(wc (wc (wkf_nil _))), hH⟩
        ·refine awp_loopO (body := fun s => wire_Check_b0 x0 s.1 s.2) hs75 (fun (s : (List (BitVec 8) × Nat) × api_Msg) fr τ => WkF fr (fm [(1, (.fptr (c_api_Msg x0) 0)), (5, (.ref id51 0)), (63, (.spc id70))]) ∧ Holds σ [(id70, (cIt s.1)), (id51, (c_api_Msg s.2))] [] τ) ⟨(wc (wc (wc (wkf_nil _)))), hH⟩ ?_
         rintro ⟨c72, c73⟩ fr τ y77 ⟨hfr, hH⟩ hb79 hy80
         have H82 : wire_Check_b0 x0 c72 c73 = some y77 := hb79
         unfold wire_Check_b0 at H82
         refine AWP.fm [(1, (.fptr (c_api_Msg x0) 0)), (5, (.ref id51 0)), (63, (.spc id70))] hfr ?_
         have hH : Holds σ [(id70, (cIt c72)), (id51, (c_api_Msg c73))] [] τ := hH
         refine sr rfl ?_
         obtain ⟨v84, hv85, H83⟩ := ob H82
         rcases v84 with _ | c86
         ·rw [Option.elim_none] at H83
          refine wpo_a (av := fun _ => .tup [eB false]) rfl rfl rfl (h_next0 hH 0 hv85 rfl rfl) fun _ τ hH => ?_
          refine m_ (eB false) rfl (o_ext tk rfl rfl) (wpo_nil (awp_seq ?_))
          refine awp_false rfl ?_
          refine awp_exit ?_
          have hz := hy80 _ (inj_inr H83)
          exact ⟨⟨_, inj_inr H83⟩, (c72, c73), hz.symm, (wc (wc (wkf_nil _))), hH⟩
         ·rw [Option.elim_some] at H83
          refine wpo_a (av := fun _ => .tup [eB true, eI (c72.2 : Int), eK .i32 c86]) rfl rfl rfl (h_next1 hH 0 hv85 rfl rfl) fun _ τ (hH : Holds σ [(id70, (cIt (c72.1, c72.2 + 1))), (id51, (c_api_Msg c73))] [] τ) => ?_
          refine m_ (eB true) rfl (o_ext tk rfl rfl) (wpo_nil (awp_seq ?_))
          refine awp_true rfl ?_
          refine awp_skip (awp_block (sr rfl (m_ ((eK .i32) c86) rfl (o_ext tk rfl rfl) (ma tk ((eK .i32) c86) rfl rfl (wpo_nil (sr rfl (mm tk ((eK .i32) c86) rfl rfl (wpo_nil ?_))))))))
          refine awp_block (sr rfl ?_)
          refine l_ H83 eB rfl (o_ar tk rfl rfl rfl) fun v88 H87 => ?_
          refine ma tk (eB v88) rfl rfl (wpo_nil ?_)
          refine awp_if H87 rfl (fun H89 => ?_) (fun H89 => ?_)
          ·refine awp_seq (awp_seq ?_)
           obtain ⟨s90, hs92, hj93⟩ := ob H89
           refine awp_cutn (fun fr τ => WkF fr (fm [(1, (.fptr (c_api_Msg x0) 0)), (5, (.ref id51 0)), (63, (.spc id70)), (77, (eB s90))]) ∧ Holds σ [(id70, (cIt (c72.1, c72.2 + 1))), (id51, (c_api_Msg c73))] [] τ) ?_ ?_
           ·rintro fr τ ⟨hfr, hH⟩
            have H99 := hj93
            refine AWP.fm [(1, (.fptr (c_api_Msg x0) 0)), (5, (.ref id51 0)), (63, (.spc id70)), (77, (eB s90))] hfr ?_
            refine awp_if H99 rfl (fun H100 => ?_) (fun H100 => ?_)
            ·refine sr rfl (mc tk (.fptr (c_api_Msg x0) 4) rfl rfl (fun _ => rfl) (m_ (eI x0.Id) rfl (o_ld tk rfl rfl) ?_))
             refine b_ H100 eErr rfl (fun v102 hv => OpP.of_call rfl rfl (.cons wr (.cons wr (.cons wr .nil))) (trouble_New_ok hv)) fun v102 hv102 H101 => ?_
             refine ma tk (eErr v102) rfl rfl (wpo_nil (awp_ret ?_))
             have hz := hy80 _ (inj_inr H101)
             refine ⟨⟨_, inj_inr H101⟩, ?_⟩
             rw [← hz] at hj76
             have H103 := (show some _ = some _ from hj76)
             obtain rfl := oi H103
             exact ⟨_, (eErr v102), rfl, wr, .of_eq (encErr.cut _ _ _), ((hH.noT.drop n71).drop n52)⟩
            ·refine awp_skip (awp_region rfl (mc tk (.ref id51 4) rfl rfl (fun _ => rfl) ?_))
             obtain ⟨c105, hc106, H104⟩ := lt_ex H100
             refine wpo_z rfl rfl (h_st tk hH 1 rfl ty3 (by simp) rfl rfl wr (b := (eI (0 : Int))) rfl rfl (nb rfl) (c_api_Msg c105) (by rw [← hc106]; rfl)) fun τ hH => ?_
             refine wpo_nil ?_
             exact ⟨((c72.1, c72.2 + 1), c105), inj_inl H104, (wc (wc (wc (wkf_nil _)))), hH⟩
           ·refine awp_region rfl (mc tk (.fptr (c_api_Msg x0) 4) rfl rfl (fun _ => rfl) (m_ (eI x0.Id) rfl (o_ld tk rfl rfl) ?_))
            refine l_ hs92 eB rfl (o_ar tk rfl rfl rfl) fun v95 H94 => ?_
            refine mm tk (eB v95) rfl rfl ?_
            refine if_split H94 (fun hb H96 => ?_) (fun hb H96 => ?_)
            ·subst hb
             refine k_ rfl (k_ rfl (k_ rfl (pt tk (eB true) rfl rfl rfl (wpo_nil ?_))))
             have e := oi H96
             subst e
             exact ⟨(wc (wc (wc (wc (wkf_nil _))))), hH⟩
            ·subst hb
             refine mc tk (.fptr (c_api_Msg x0) 4) rfl rfl (fun _ => rfl) (m_ (eI x0.Id) rfl (o_ld tk rfl rfl) ?_)
             refine l_ H96 eB rfl (o_ar tk rfl rfl rfl) fun v98 H97 => ?_
             refine pf tk (eB v98) rfl rfl rfl (wpo_nil ?_)
             have e := oi H97
             subst e
             exact ⟨(wc (wc (wc (wc (wkf_nil _))))), hH⟩
          ·refine sr rfl ?_
           refine l_ H89 eB rfl (o_ar tk rfl rfl rfl) fun v108 H107 => ?_
           refine ma tk (eB v108) rfl rfl (wpo_nil ?_)
           refine awp_if H107 rfl (fun H109 => ?_) (fun H109 => ?_)
           ·refine awp_seq (sr rfl (mc tk (.fptr (c_api_Msg x0) 5) rfl rfl (fun _ => rfl) (mc tk (.fptr (c_api_Msg x0) 5) rfl rfl (fun _ => rfl) (m_ (eS x0.X.Key) rfl (o_ld tk rfl rfl) ?_))))
            refine b_ H109 eI rfl (fun v111 hv => OpP.of_call rfl rfl (.cons wr .nil) (octets_Key_ok hv)) fun v111 hv111 H110 => ?_
            refine ma tk (eI v111) rfl rfl (wpo_nil (sr rfl (mm tk (eI v111) rfl rfl ?_)))
            refine l_ H110 eB rfl (o_ar tk rfl rfl rfl) fun v113 H112 => ?_
            refine wpo_nil ?_
            refine awp_if H112 rfl (fun H114 => ?_) (fun H114 => ?_)
            ·refine sr rfl (mc tk (.fptr (c_api_Msg x0) 5) rfl rfl (fun _ => rfl) (mc tk (.fptr (c_api_Msg x0) 5) rfl rfl (fun _ => rfl) (m_ (eS x0.X.Key) rfl (o_ld tk rfl rfl) ?_)))
             refine l_ H114 eI rfl (o_len_s tk td9 rfl) fun v116 H115 => ?_
             refine mm tk (eI v111) rfl rfl ?_
             refine b_ H115 eErr rfl (fun v118 hv => OpP.of_call rfl rfl (.cons wr (.cons wr (.cons wr .nil))) (trouble_New_ok hv)) fun v118 hv118 H117 => ?_
             refine ma tk (eErr v118) rfl rfl (wpo_nil (awp_ret ?_))
             have hz := hy80 _ (inj_inr H117)
             refine ⟨⟨_, inj_inr H117⟩, ?_⟩
             rw [← hz] at hj76
             have H119 := (show some _ = some _ from hj76)
             obtain rfl := oi H119
             exact ⟨_, (eErr v118), rfl, wr, .of_eq (encErr.cut _ _ _), ((hH.noT.drop n71).drop n52)⟩
            ·refine awp_skip (awp_region rfl (mc tk (.ref id51 5) rfl rfl (fun _ => rfl) (mc tk (.ref id51 5) rfl rfl (fun _ => rfl) ?_)))
             obtain ⟨c121, hc122, H120⟩ := lt_ex H114
             refine wpo_z rfl rfl (h_st tk hH 1 rfl ty9 (by simp) rfl rfl wr (b := (eS ([] : List (BitVec 8)))) rfl rfl (nb rfl) (c_api_Msg c121) (by rw [← hc122]; rfl)) fun τ hH => ?_
             refine wpo_nil ?_
             exact ⟨((c72.1, c72.2 + 1), c121), inj_inl H120, (wc (wc (wc (wkf_nil _)))), hH⟩
           ·refine sr rfl ?_
            refine l_ H109 eB rfl (o_ar tk rfl rfl rfl) fun v124 H123 => ?_
            refine ma tk (eB v124) rfl rfl (wpo_nil ?_)
            refine awp_if H123 rfl (fun H125 => ?_) (fun H125 => ?_)
            ·refine awp_seq (awp_seq ?_)
             obtain ⟨s126, hs128, hj129⟩ := ob H125
             refine awp_cutn (fun fr τ => WkF fr (fm [(1, (.fptr (c_api_Msg x0) 0)), (5, (.ref id51 0)), (63, (.spc id70)), (109, (eB s126))]) ∧ Holds σ [(id70, (cIt (c72.1, c72.2 + 1))), (id51, (c_api_Msg c73))] [] τ) ?_ ?_
             ·rintro fr τ ⟨hfr, hH⟩
              have H135 := hj129
              refine AWP.fm [(1, (.fptr (c_api_Msg x0) 0)), (5, (.ref id51 0)), (63, (.spc id70)), (109, (eB s126))] hfr ?_
              refine awp_if H135 rfl (fun H136 => ?_) (fun H136 => ?_)
              ·refine sr rfl (mc tk (.fptr (c_api_Msg x0) 5) rfl rfl (fun _ => rfl) (mc tk (.fptr (c_api_Msg x0) 7) rfl rfl (fun _ => rfl) (m_ (eI x0.X.AsOf) rfl (o_ld tk rfl rfl) ?_)))
               refine b_ H136 eErr rfl (fun v138 hv => OpP.of_call rfl rfl (.cons wr (.cons wr (.cons wr .nil))) (trouble_New_ok hv)) fun v138 hv138 H137 => ?_
               refine ma tk (eErr v138) rfl rfl (wpo_nil (awp_ret ?_))
               have hz := hy80 _ (inj_inr H137)
               refine ⟨⟨_, inj_inr H137⟩, ?_⟩
               rw [← hz] at hj76
               have H139 := (show some _ = some _ from hj76)
               obtain rfl := oi H139
               exact ⟨_, (eErr v138), rfl, wr, .of_eq (encErr.cut _ _ _), ((hH.noT.drop n71).drop n52)⟩
              ·refine awp_skip (awp_region rfl (mc tk (.ref id51 5) rfl rfl (fun _ => rfl) (mc tk (.ref id51 7) rfl rfl (fun _ => rfl) ?_)))
               obtain ⟨c141, hc142, H140⟩ := lt_ex H136
               refine wpo_z rfl rfl (h_st tk hH 1 rfl ty3 (by simp) rfl rfl wr (b := (eI (0 : Int))) rfl rfl (nb rfl) (c_api_Msg c141) (by rw [← hc142]; rfl)) fun τ hH => ?_
               refine wpo_nil ?_
               exact ⟨((c72.1, c72.2 + 1), c141), inj_inl H140, (wc (wc (wc (wkf_nil _)))), hH⟩
             ·refine awp_region rfl (mc tk (.fptr (c_api_Msg x0) 5) rfl rfl (fun _ => rfl) (mc tk (.fptr (c_api_Msg x0) 7) rfl rfl (fun _ => rfl) (m_ (eI x0.X.AsOf) rfl (o_ld tk rfl rfl) ?_)))
              refine l_ hs128 eB rfl (o_ar tk rfl rfl rfl) fun v131 H130 => ?_
              refine mm tk (eB v131) rfl rfl ?_
              refine if_split H130 (fun hb H132 => ?_) (fun hb H132 => ?_)
              ·subst hb
               refine k_ rfl (k_ rfl (k_ rfl (k_ rfl (pt tk (eB true) rfl rfl rfl (wpo_nil ?_)))))
               have e := oi H132
               subst e
               exact ⟨(wc (wc (wc (wc (wkf_nil _))))), hH⟩
              ·subst hb
               refine mc tk (.fptr (c_api_Msg x0) 5) rfl rfl (fun _ => rfl) (mc tk (.fptr (c_api_Msg x0) 7) rfl rfl (fun _ => rfl) (m_ (eI x0.X.AsOf) rfl (o_ld tk rfl rfl) ?_))
               refine l_ H132 eB rfl (o_ar tk rfl rfl rfl) fun v134 H133 => ?_
               refine pf tk (eB v134) rfl rfl rfl (wpo_nil ?_)
               have e := oi H133
               subst e
               exact ⟨(wc (wc (wc (wc (wkf_nil _))))), hH⟩
            ·refine sr rfl ?_
             refine l_ H125 eB rfl (o_ar tk rfl rfl rfl) fun v144 H143 => ?_
             refine ma tk (eB v144) rfl rfl (wpo_nil ?_)
             refine awp_if H143 rfl (fun H145 => ?_) (fun H145 => ?_)
             ·refine awp_region rfl (mc tk (.ref id51 10) rfl rfl (fun _ => rfl) ?_)
              obtain ⟨c147, hc148, H146⟩ := lt_ex H145
              refine wpo_z rfl rfl (h_st tk hH 1 rfl ty4 (by simp) rfl rfl wr (b := (eB false)) rfl rfl (nb rfl) (c_api_Msg c147) (by rw [← hc148]; rfl)) fun τ hH => ?_
              refine wpo_nil ?_
              exact ⟨((c72.1, c72.2 + 1), c147), inj_inl H146, (wc (wc (wc (wkf_nil _)))), hH⟩
             ·refine sr rfl ?_
              refine l_ H145 eB rfl (o_ar tk rfl rfl rfl) fun v150 H149 => ?_
              refine ma tk (eB v150) rfl rfl (wpo_nil ?_)
              refine awp_if H149 rfl (fun H151 => ?_) (fun H151 => ?_)
              ·refine awp_seq (sr rfl (mc tk (.fptr (c_api_Msg x0) 10) rfl rfl (fun _ => rfl) (m_ (eB x0.Found) rfl (o_ld tk rfl rfl) ?_)))
               refine l_ H151 eB rfl (o_un tk rfl rfl) fun v153 H152 => ?_
               refine wpo_nil ?_
               refine awp_if H152 rfl (fun H154 => ?_) (fun H154 => ?_)
               ·refine awp_exit ?_
                exact ⟨((c72.1, c72.2 + 1), c73), inj_inl H154, (wc (wc (wc (wkf_nil _)))), hH⟩
               ·refine awp_skip (awp_seq (sr rfl (mc tk (.fptr (c_api_Msg x0) 5) rfl rfl (fun _ => rfl) (m_ (e_api_Entry x0.X) rfl (o_ld tk rfl rfl) ?_))))
                refine b_ H154 eErr rfl (fun v156 hv => OpP.of_call rfl rfl (.cons wr .nil) (item_Check_ok hv)) fun v156 hv156 H155 => ?_
                refine ma tk (eErr v156) rfl rfl (wpo_nil (sr rfl (mm tk (eErr v156) rfl rfl ?_)))
                refine l_ H155 eB rfl (o_err_neq tk rfl rfl rfl) fun v158 H157 => ?_
                refine wpo_nil ?_
                refine awp_if H157 rfl (fun H159 => ?_) (fun H159 => ?_)
                ·refine sr rfl (mc tk (.fptr (c_api_Msg x0) 4) rfl rfl (fun _ => rfl) (m_ (eI x0.Id) rfl (o_ld tk rfl rfl) (mm tk (eErr v156) rfl rfl ?_)))
                 refine b_ H159 eErr rfl (fun v161 hv => OpP.of_call rfl rfl (.cons wr (.cons wr (.cons wr .nil))) (trouble_Wrap_ok hv)) fun v161 hv161 H160 => ?_
                 refine ma tk (eErr v161) rfl rfl (wpo_nil (awp_ret ?_))
                 have hz := hy80 _ (inj_inr H160)
                 refine ⟨⟨_, inj_inr H160⟩, ?_⟩
                 rw [← hz] at hj76
                 have H162 := (show some _ = some _ from hj76)
                 obtain rfl := oi H162
                 exact ⟨_, (eErr v161), rfl, wr, .of_eq (encErr.cut _ _ _), ((hH.noT.drop n71).drop n52)⟩
                ·refine awp_skip (awp_region rfl (mc tk (.agg [(eS (⟨([] : List (BitVec 8)), (0 : Int), (0 : Int), (0 : Int), ([] : List (BitVec 8))⟩ : api_Entry).Key), (eI (⟨([] : List (BitVec 8)), (0 : Int), (0 : Int), (0 : Int), ([] : List (BitVec 8))⟩ : api_Entry).Version), (eI (⟨([] : List (BitVec 8)), (0 : Int), (0 : Int), (0 : Int), ([] : List (BitVec 8))⟩ : api_Entry).AsOf), (eI (⟨([] : List (BitVec 8)), (0 : Int), (0 : Int), (0 : Int), ([] : List (BitVec 8))⟩ : api_Entry).Ends), AV.nils]) rfl rfl (fun _ => rfl) (mc tk (.ref id51 5) rfl rfl (fun _ => rfl) ?_)))
                 obtain ⟨c164, hc165, H163⟩ := lt_ex H159
                 refine wpo_z rfl rfl (h_st (y := (.agg [(eS (⟨([] : List (BitVec 8)), (0 : Int), (0 : Int), (0 : Int), ([] : List (BitVec 8))⟩ : api_Entry).Key), (eI (⟨([] : List (BitVec 8)), (0 : Int), (0 : Int), (0 : Int), ([] : List (BitVec 8))⟩ : api_Entry).Version), (eI (⟨([] : List (BitVec 8)), (0 : Int), (0 : Int), (0 : Int), ([] : List (BitVec 8))⟩ : api_Entry).AsOf), (eI (⟨([] : List (BitVec 8)), (0 : Int), (0 : Int), (0 : Int), ([] : List (BitVec 8))⟩ : api_Entry).Ends), AV.nils])) tk hH 1 rfl ty42 (by simp) rfl rfl (wk_agg (.cons wr (.cons wr (.cons wr (.cons wr (.cons (wk_nils _) .nil)))))) (b := (e_api_Entry (⟨([] : List (BitVec 8)), (0 : Int), (0 : Int), (0 : Int), ([] : List (BitVec 8))⟩ : api_Entry))) (enc42.flat _) rfl (nb rfl) (c_api_Msg c164) (by rw [← hc165]; rfl)) fun τ hH => ?_
                 refine wpo_nil ?_
                 exact ⟨((c72.1, c72.2 + 1), c164), inj_inl H163, (wc (wc (wc (wkf_nil _)))), hH⟩
              ·refine awp_skip ?_
               exact ⟨((c72.1, c72.2 + 1), c73), inj_inl H151, (wc (wc (wc (wkf_nil _)))), hH⟩
      ·refine awp_region rfl (mc tk (.fptr (c_api_Msg x0) 3) rfl rfl (fun _ => rfl) (m_ (eI x0.Epoch) rfl (o_ld tk rfl rfl) ?_))
       refine l_ hs40 eB rfl (o_ar tk rfl rfl rfl) fun v43 H42 => ?_
       refine mm tk (eB v43) rfl rfl ?_
       refine if_split H42 (fun hb H44 => ?_) (fun hb H44 => ?_)
       ·subst hb
        refine k_ rfl (k_ rfl (k_ rfl (pt tk (eB true) rfl rfl rfl (ma tk (eB true) rfl rfl (wpo_nil ?_)))))
        have e := oi H44
        subst e
        exact ⟨(wc (wc (wkf_nil _))), hH⟩
       ·subst hb
        refine mc tk (.fptr (c_api_Msg x0) 3) rfl rfl (fun _ => rfl) (m_ (eI x0.Epoch) rfl (o_ld tk rfl rfl) ?_)
        refine l_ H44 eB rfl (o_ar tk rfl rfl rfl) fun v46 H45 => ?_
        refine pf tk (eB v46) rfl rfl rfl (ma tk (eB v46) rfl rfl (wpo_nil ?_))
        have e := oi H45
        subst e
        exact ⟨(wc (wc (wkf_nil _))), hH⟩
    ·refine awp_region rfl (mm tk (eI s16.1) rfl rfl ?_)
     refine l_ hs24 eB rfl (o_ar tk rfl rfl rfl) fun v27 H26 => ?_
     refine mm tk (eB v27) rfl rfl ?_
     refine if_split H26 (fun hb H28 => ?_) (fun hb H28 => ?_)
     ·subst hb
      refine k_ rfl (k_ rfl (pt tk (eB true) rfl rfl rfl (mm tk (eB true) rfl rfl (k_ rfl (k_ rfl (pt tk (eB true) rfl rfl rfl (ma tk (eB true) rfl rfl (wpo_nil ?_))))))))
      have e := oi H28
      subst e
      exact ⟨(wc (wc (wc (wkf_nil _)))), hH⟩
     ·subst hb
      refine mm tk (eI s16.1) rfl rfl ?_
      refine l_ H28 eB rfl (o_ar tk rfl rfl rfl) fun v30 H29 => ?_
      refine pf tk (eB v30) rfl rfl rfl (mm tk (eB v30) rfl rfl ?_)
      refine if_split H29 (fun hb H31 => ?_) (fun hb H31 => ?_)
      ·subst hb
       refine k_ rfl (k_ rfl (pt tk (eB true) rfl rfl rfl (ma tk (eB true) rfl rfl (wpo_nil ?_))))
       have e := oi H31
       subst e
       exact ⟨(wc (wc (wc (wkf_nil _)))), hH⟩
      ·subst hb
       refine mm tk (eI s16.2) rfl rfl ?_
       refine l_ H31 eB rfl (o_ar tk rfl rfl rfl) fun v33 H32 => ?_
       refine pf tk (eB v33) rfl rfl rfl (ma tk (eB v33) rfl rfl (wpo_nil ?_))
       have e := oi H32
       subst e
       exact ⟨(wc (wc (wc (wkf_nil _)))), hH⟩
   ·refine awp_if hs18 rfl (fun H20 => ?_) (fun H20 => ?_)
    ·refine awp_region rfl (mm tk (eI x0.To) rfl rfl (mm tk (eI x0.From) rfl rfl (ma tk (eI x0.To) rfl rfl (ma tk (eI x0.From) rfl rfl (wpo_nil ?_)))))
     have e := oi H20
     subst e
     exact ⟨(wc (wc (wc (wkf_nil _)))), hH⟩
    ·refine awp_skip ?_
     have e := oi H20
     subst e
     exact ⟨(wc (wc (wc (wkf_nil _)))), hH⟩
 ·refine awp_region rfl (mc tk (.fptr (c_api_Msg x0) 0) rfl rfl (fun _ => rfl) (m_ (eI x0.Kind) rfl (o_ld tk rfl rfl) ?_))
  refine l_ hs3 eB rfl (o_ar tk rfl rfl rfl) fun v6 H5 => ?_
  refine mm tk (eB v6) rfl rfl ?_
  refine if_split H5 (fun hb H7 => ?_) (fun hb H7 => ?_)
  ·subst hb
   refine k_ rfl (k_ rfl (k_ rfl (pt tk (eB true) rfl rfl rfl (wpo_nil ?_))))
   have e := oi H7
   subst e
   exact ⟨(wc (wc (wkf_nil _))), hH⟩
  ·subst hb
   refine mc tk (.fptr (c_api_Msg x0) 0) rfl rfl (fun _ => rfl) (m_ (eI x0.Kind) rfl (o_ld tk rfl rfl) ?_)
   refine l_ H7 eB rfl (o_ar tk rfl rfl rfl) fun v9 H8 => ?_
   refine pf tk (eB v9) rfl rfl rfl (wpo_nil ?_)
   have e := oi H8
   subst e
   exact ⟨(wc (wc (wkf_nil _))), hH⟩
theorem checksum_Four_ok {x0 : BitVec 32} {r : (List (BitVec 8))} (H : checksum_Four x0 = some r) (σ : St)  : ACall Tryz.prog 74 [((@eU .u32 32) x0)] σ (fun a τ => a = (eA (@eU .u8 8)) r ∧ τ = σ) := by
 unfold checksum_Four at H
 refine ACall.pure (acall_start tk Tryz.func74 (by decide) rfl (nb rfl) ?_)
 have hH := Holds.init σ
 refine sr rfl ?_
 refine wpo_a (av := fun id => .ref id 0) rfl rfl rfl (h_alloc tk hH ty123 (cL (@eU .u8 8) (List.replicate 4 0#8)) rfl) fun id1 τ ⟨hH, n2⟩ => ?_
 refine wpo_nil (sr rfl (mm tk ((@eU .u32 32) x0) rfl rfl ?_))
 refine l_ H (@eU .u8 8) rfl (o_cv_uu tk td125 td5 rfl rfl) fun v4 H3 => ?_
 refine mm tk ((@eU .u32 32) x0) rfl rfl ?_
 refine l_ H3 (@eU .u32 32) rfl (o_shr_u tk rfl (y := (8 : Int)) rfl rfl rfl) fun v6 H5 => ?_
 refine l_ H5 (@eU .u8 8) rfl (o_cv_uu tk td125 td5 rfl rfl) fun v8 H7 => ?_
 refine mm tk ((@eU .u32 32) x0) rfl rfl ?_
 refine l_ H7 (@eU .u32 32) rfl (o_shr_u tk rfl (y := (16 : Int)) rfl rfl rfl) fun v10 H9 => ?_
 refine l_ H9 (@eU .u8 8) rfl (o_cv_uu tk td125 td5 rfl rfl) fun v12 H11 => ?_
 refine mm tk ((@eU .u32 32) x0) rfl rfl ?_
 refine l_ H11 (@eU .u32 32) rfl (o_shr_u tk rfl (y := (24 : Int)) rfl rfl rfl) fun v14 H13 => ?_
 refine l_ H13 (@eU .u8 8) rfl (o_cv_uu tk td125 td5 rfl rfl) fun v16 H15 => ?_
 refine l_ H15 (eA (@eU .u8 8)) rfl (o_c tk false rfl (fun _ => rfl)) fun v18 H17 => ?_
 obtain ⟨c20, hc21, H19⟩ := ob H17
 refine wpo_z rfl rfl (h_stw tk hH 0 hc21 rfl (enc_u td5 sz5) ty123 rfl (by simp) rfl rfl) fun τ hH => ?_
 refine wpo_nil (awp_ret ?_)
 obtain ⟨w22, hw22, H23⟩ := ob H19
 obtain ⟨hw22, rfl⟩ := whole_some hw22
 obtain rfl := oi H23
 exact ⟨_, ((eA (@eU .u8 8)) w22), (ares_1 (ares_cell hH 0 rfl rfl (acut_whole (enc_u td5 sz5) td123 sz123 rfl (hw22)) (hsp := spcl_cL (enc_u td5 sz5) _))), wr, .of_eq ((cut_eA (enc_u td5 sz5).cut) _ _ _), (hH.noT.drop n2)⟩
theorem checksum_column_ok {x0 : BitVec 8} {r : (BitVec 32)} (H : checksum_column x0 = some r) (σ : St)  : ACall Tryz.prog 88 [((@eU .u8 8) x0)] σ (fun a τ => a = (@eU .u32 32) r ∧ τ = σ) := by
 unfold checksum_column at H
 refine ACall.pure (acall_start tk Tryz.func88 (by decide) rfl (nb rfl) ?_)
 have hH := Holds.init σ
 refine sr rfl (ma tk ((@eU .u32 32) 0#32) rfl rfl (wpo_nil (sr rfl (mm tk ((@eU .u8 8) x0) rfl rfl ?_))))
 refine l_ H (@eU .u32 32) rfl (o_cv_uu tk td5 td125 rfl rfl) fun v2 H1 => ?_
 refine ma tk ((@eU .u32 32) v2) rfl rfl (wpo_nil (awp_seq (sr rfl (mm tk (eI (0 : Int)) rfl rfl (wpo_nil (awp_block ?_))))))
 obtain ⟨s12, hs6, hj7⟩ := ob H1
 refine awp_cutx 0 (fun fr τ => WkF fr (fm [(3, ((@eU .u32 32) s12))]) ∧ Holds σ [] [] τ) ?_ ?_
 ·rintro fr τ ⟨hfr, hH⟩
  have H32 := hj7
  refine AWP.fm [(3, ((@eU .u32 32) s12))] hfr ?_
  refine sr rfl (mm tk ((@eU .u32 32) s12) rfl rfl (ma tk ((@eU .u32 32) s12) rfl rfl (wpo_nil (awp_ret ?_))))
  obtain rfl := oi H32
  exact ⟨_, ((@eU .u32 32) s12), rfl, wr, .of_eq ((enc_u td125 sz125).cut _ _ _), hH.noT⟩
 ·refine awp_loopO (body := fun s => checksum_column_b0 s.1 s.2) hs6 (fun (s : (BitVec 32) × Int) fr τ => WkF fr (fm [(3, ((@eU .u32 32) s.1)), (6, (eI s.2))]) ∧ Holds σ [] [] τ) ⟨(wc (wc (wkf_nil _))), hH⟩ ?_
  rintro ⟨c3, c4⟩ fr τ y8 ⟨hfr, hH⟩ hb10 hy11
  have H13 : checksum_column_b0 c3 c4 = some y8 := hb10
  unfold checksum_column_b0 at H13
  refine AWP.fm [(3, ((@eU .u32 32) c3)), (6, (eI c4))] hfr ?_
  have hH : Holds σ [] [] τ := hH
  refine sr rfl ?_
  refine l_ H13 eB rfl (o_ar tk rfl rfl rfl) fun v15 H14 => ?_
  refine wpo_nil (awp_seq ?_)
  refine awp_if H14 rfl (fun H16 => ?_) (fun H16 => ?_)
  ·refine awp_skip (awp_seq (awp_block (sr rfl (mm tk ((@eU .u32 32) c3) rfl rfl ?_))))
   refine l_ H16 (@eU .u32 32) rfl (o_and_u tk rfl rfl rfl) fun v18 H17 => ?_
   refine l_ H17 eB rfl (o_eql_u tk rfl rfl) fun v20 H19 => ?_
   refine wpo_nil ?_
   refine awp_if H19 rfl (fun H21 => ?_) (fun H21 => ?_)
   ·refine awp_region rfl (mm tk ((@eU .u32 32) c3) rfl rfl ?_)
    refine l_ H21 (@eU .u32 32) rfl (o_shr_u tk rfl (y := (1 : Int)) rfl rfl rfl) fun v23 H22 => ?_
    refine l_ H22 (@eU .u32 32) rfl (o_xor_u tk rfl rfl rfl) fun v25 H24 => ?_
    refine ma tk ((@eU .u32 32) v25) rfl rfl (wpo_nil (awp_region rfl ?_))
    refine l_ H24 eI rfl (o_ar tk rfl rfl rfl) fun v27 H26 => ?_
    refine mm tk (eI v27) rfl rfl (wpo_nil ?_)
    exact ⟨(v25, v27), inj_inl H26, (wc (wc (wkf_nil _))), hH⟩
   ·refine awp_region rfl (mm tk ((@eU .u32 32) c3) rfl rfl ?_)
    refine l_ H21 (@eU .u32 32) rfl (o_shr_u tk rfl (y := (1 : Int)) rfl rfl rfl) fun v29 H28 => ?_
    refine ma tk ((@eU .u32 32) v29) rfl rfl (wpo_nil (awp_region rfl ?_))
    refine l_ H28 eI rfl (o_ar tk rfl rfl rfl) fun v31 H30 => ?_
    refine mm tk (eI v31) rfl rfl (wpo_nil ?_)
    exact ⟨(v29, v31), inj_inl H30, (wc (wc (wkf_nil _))), hH⟩
  ·refine awp_exit ?_
   have hz := hy11 _ (inj_inr H16)
   subst hz
   exact ⟨⟨_, inj_inr H16⟩, (wc (wkf_nil _)), hH⟩
theorem checksum_More_ok {x0 : BitVec 32} {x1 : List (BitVec 8)} {r : (BitVec 32)} (H : checksum_More x0 x1 = some r) (σ : St)  : ACall Tryz.prog 87 [((@eU .u32 32) x0), ((eL 1 (@eU .u8 8)) x1)] σ (fun a τ => a = (@eU .u32 32) r ∧ τ = σ) := by
 unfold checksum_More at H
 refine ACall.pure (acall_start tk Tryz.func87 (by decide) rfl (nb rfl) ?_)
 have hH := Holds.init σ
 refine sr rfl (ma tk ((@eU .u32 32) 0#32) rfl rfl (wpo_nil (sr rfl (mm tk ((@eU .u32 32) x0) rfl rfl ?_))))
 refine l_ H (@eU .u32 32) rfl (o_not_u tk rfl rfl) fun v2 H1 => ?_
 refine ma tk ((@eU .u32 32) v2) rfl rfl (wpo_nil (awp_seq (sr rfl (mm tk ((eL 1 (@eU .u8 8)) x1) rfl rfl ?_))))
 refine l_ H1 eI rfl (o_len tk td40 rfl) fun v4 H3 => ?_
 refine mm tk (eI (0 : Int)) rfl rfl (wpo_nil (awp_block ?_))
 obtain ⟨s14, hs8, hj9⟩ := ob H3
 refine awp_cutx 0 (fun fr τ => WkF fr (fm [(5, ((@eU .u32 32) s14))]) ∧ Holds σ [] [] τ) ?_ ?_
 ·rintro fr τ ⟨hfr, hH⟩
  have H33 := hj9
  refine AWP.fm [(5, ((@eU .u32 32) s14))] hfr ?_
  refine sr rfl (mm tk ((@eU .u32 32) s14) rfl rfl ?_)
  refine l_ H33 (@eU .u32 32) rfl (o_not_u tk rfl rfl) fun v35 H34 => ?_
  refine ma tk ((@eU .u32 32) v35) rfl rfl (wpo_nil (awp_ret ?_))
  obtain rfl := oi H34
  exact ⟨_, ((@eU .u32 32) v35), rfl, wr, .of_eq ((enc_u td125 sz125).cut _ _ _), hH.noT⟩
 ·refine awp_loopO (body := fun s => checksum_More_b0 x1 v4 s.1 s.2) hs8 (fun (s : (BitVec 32) × Int) fr τ => WkF fr (fm [(5, ((@eU .u32 32) s.1)), (10, ((eL 1 (@eU .u8 8)) x1)), (11, (eI v4)), (12, (eI s.2))]) ∧ Holds σ [] [] τ) ⟨(wc (wc (wc (wc (wkf_nil _))))), hH⟩ ?_
  rintro ⟨c5, c6⟩ fr τ y10 ⟨hfr, hH⟩ hb12 hy13
  have H15 : checksum_More_b0 x1 v4 c5 c6 = some y10 := hb12
  unfold checksum_More_b0 at H15
  refine AWP.fm [(5, ((@eU .u32 32) c5)), (10, ((eL 1 (@eU .u8 8)) x1)), (11, (eI v4)), (12, (eI c6))] hfr ?_
  have hH : Holds σ [] [] τ := hH
  refine sr rfl ?_
  refine l_ H15 eB rfl (o_ar tk rfl rfl rfl) fun v17 H16 => ?_
  refine wpo_nil (awp_seq ?_)
  refine awp_if H16 rfl (fun H18 => ?_) (fun H18 => ?_)
  ·refine awp_skip (awp_seq (awp_block (sr rfl ?_)))
   refine b_ H18 (fun y => .fptr ((@eU .u8 8) y).cells 0) rfl (fun v20 hv => o_ixa tk hv td40 (enc_u td5 sz5) rfl rfl) fun v20 hv20 H19 => ?_
   refine m_ ((@eU .u8 8) v20) rfl (o_ld_e tk (enc_u td5 sz5) rfl rfl) (ma tk ((@eU .u8 8) v20) rfl rfl (wpo_nil (awp_region rfl (mm tk ((@eU .u32 32) c5) rfl rfl ?_))))
   refine l_ H19 (@eU .u32 32) rfl (o_shr_u tk rfl (y := (8 : Int)) rfl rfl rfl) fun v22 H21 => ?_
   refine mm tk ((@eU .u32 32) c5) rfl rfl ?_
   refine l_ H21 (@eU .u8 8) rfl (o_cv_uu tk td125 td5 rfl rfl) fun v24 H23 => ?_
   refine mm tk ((@eU .u8 8) v20) rfl rfl ?_
   refine l_ H23 (@eU .u8 8) rfl (o_xor_u tk rfl rfl rfl) fun v26 H25 => ?_
   refine b_ H25 (@eU .u32 32) rfl (fun v28 hv => OpP.of_call rfl rfl (.cons wr .nil) (checksum_column_ok hv)) fun v28 hv28 H27 => ?_
   refine l_ H27 (@eU .u32 32) rfl (o_xor_u tk rfl rfl rfl) fun v30 H29 => ?_
   refine ma tk ((@eU .u32 32) v30) rfl rfl (wpo_nil (awp_region rfl ?_))
   refine l_ H29 eI rfl (o_ar tk rfl rfl rfl) fun v32 H31 => ?_
   refine mm tk (eI v32) rfl rfl (wpo_nil ?_)
   exact ⟨(v30, v32), inj_inl H31, (wc (wc (wc (wc (wkf_nil _))))), hH⟩
  ·refine awp_exit ?_
   have hz := hy13 _ (inj_inr H18)
   subst hz
   exact ⟨⟨_, inj_inr H18⟩, (wc (wkf_nil _)), hH⟩
theorem checksum_Sum_ok {x0 : List (BitVec 8)} {r : (BitVec 32)} (H : checksum_Sum x0 = some r) (σ : St)  : ACall Tryz.prog 75 [((eL 1 (@eU .u8 8)) x0)] σ (fun a τ => a = (@eU .u32 32) r ∧ τ = σ) := by
 unfold checksum_Sum at H
 refine ACall.pure (acall_start tk Tryz.func75 (by decide) rfl (nb rfl) ?_)
 have hH := Holds.init σ
 refine sr rfl (ma tk ((@eU .u32 32) 0#32) rfl rfl (wpo_nil (sr rfl (mm tk ((eL 1 (@eU .u8 8)) x0) rfl rfl ?_))))
 refine b_ H (@eU .u32 32) rfl (fun v2 hv => OpP.of_call rfl rfl (.cons wr (.cons wr .nil)) (checksum_More_ok hv)) fun v2 hv2 H1 => ?_
 refine ma tk ((@eU .u32 32) v2) rfl rfl (wpo_nil (awp_ret ?_))
 obtain rfl := oi H1
 exact ⟨_, ((@eU .u32 32) v2), rfl, wr, .of_eq ((enc_u td125 sz125).cut _ _ _), hH.noT⟩
theorem checksum_Fits_ok {x0 : List (BitVec 8)} {r : Bool} (H : checksum_Fits x0 = some r) (σ : St)  : ACall Tryz.prog 63 [((eL 1 (@eU .u8 8)) x0)] σ (fun a τ => a = eB r ∧ τ = σ) := by
 unfold checksum_Fits at H
 refine ACall.pure (acall_start tk Tryz.func63 (by decide) rfl (nb rfl) ?_)
 have hH := Holds.init σ
 refine sr rfl (ma tk (eB false) rfl rfl (wpo_nil (sr rfl (mm tk ((eL 1 (@eU .u8 8)) x0) rfl rfl ?_))))
 refine l_ H eI rfl (o_len tk td40 rfl) fun v2 H1 => ?_
 refine l_ H1 eI rfl (o_ar tk rfl rfl rfl) fun v4 H3 => ?_
 refine ma tk (eI v4) rfl rfl (wpo_nil (awp_seq (sr rfl (mm tk (eI v4) rfl rfl ?_))))
 refine l_ H3 eB rfl (o_ar tk rfl rfl rfl) fun v6 H5 => ?_
 refine wpo_nil ?_
 refine awp_if H5 rfl (fun H7 => ?_) (fun H7 => ?_)
 ·refine sr rfl (ma tk (eB false) rfl rfl (wpo_nil (awp_ret ?_)))
  obtain rfl := oi H7
  exact ⟨_, (eB false), rfl, wr, .of_eq ((enc_b td4 sz4).cut _ _ _), hH.noT⟩
 ·refine awp_skip (awp_seq ?_)
  refine awp_drawS mixed [] rfl (by decide +kernel) rfl rfl ?_
  refine wpdS_mv (a := ((eL 1 (@eU .u8 8)) x0)) rfl rfl rfl (o_mv tk rfl (Wk.refl _)) (wpdS_mv (a := (eI v4)) rfl rfl rfl (o_mv tk rfl (Wk.refl _)) ?_)
  refine wpdS_bd H7 (eL 1 (@eU .u8 8)) rfl rfl rfl (fun v9 hv => o_cutTo tk hv td40 (enc_u td5 sz5) rfl rfl) fun v9 hv9 H8 => ?_
  refine wpdS_bd H8 (@eU .u32 32) rfl rfl rfl (fun v11 hv => OpP.of_call rfl rfl (.cons wr .nil) (checksum_Sum_ok hv)) fun v11 hv11 H10 => ?_
  refine wpdS_bd H10 (eA (@eU .u8 8)) rfl rfl rfl (fun v13 hv => OpP.of_call rfl rfl (.cons wr .nil) (checksum_Four_ok hv)) fun v13 hv13 H12 => ?_
  refine wpdS_mv (a := ((eL 1 (@eU .u8 8)) x0)) rfl rfl rfl (o_mv tk rfl (Wk.refl _)) (wpdS_mv (a := (eI v4)) rfl rfl rfl (o_mv tk rfl (Wk.refl _)) ?_)
  refine wpdS_bd H12 (eL 1 (@eU .u8 8)) rfl rfl rfl (fun v15 hv => o_cutFrom tk hv td40 (enc_u td5 sz5) rfl rfl) fun v15 hv15 H14 => ?_
  refine wpdS_bd H14 (fun z => .fptr (cL (@eU .u8 8) z) 0) rfl rfl rfl (fun v17 hv => o_arr tk hv td123 (enc_u td5 sz5) (by decide) rfl) fun v17 hv17 H16 => ?_
  refine wpdS_bd H16 (eA (@eU .u8 8)) rfl rfl rfl (fun v19 hv => o_ldw tk hv (enc_u td5 sz5) td123 sz123 rfl rfl) fun v19 hv19 H18 => ?_
  refine wpdS_bd H18 eB rfl rfl rfl (fun v21 hv => om_eql_a tk hv td123 td5 sz5 rfl rfl) fun v21 hv21 H20 => ?_
  refine wpdS_mv (a := (eB v21)) rfl rfl rfl (o_as tk rfl (Wk.refl _)) (wpdS_nil (awp_ret ?_))
  obtain rfl := oi H20
  exact ⟨_, (eB v21), rfl, wr, .of_eq ((enc_b td4 sz4).cut _ _ _), hH.noT⟩
theorem octets_Read_ok {x0 : List (BitVec 8)} {r : octets_Reader} (H : octets_Read x0 = some r) (σ : St)  : ACall Tryz.prog 64 [((eL 1 (@eU .u8 8)) x0)] σ (fun a τ => a = .ref σ.objs.length 0 ∧ τ = ⟨σ.objs ++ [(c_octets_Reader r)], σ.opn, σ.gl⟩) := by
 unfold octets_Read at H
 refine ACall.new (fun ρ κ => c_octets_Reader_cut ρ κ r) (acall_start tk Tryz.func64 (by decide) rfl (nb rfl) ?_)
 have hH := Holds.init σ
 refine sr rfl (ma tk .nilp rfl rfl (wpo_nil (sr rfl (mc tk (eF 1 (@eU .u8 8) ([] : List (BitVec 8))) rfl rfl (fun _ => rfl) (mm tk ((eL 1 (@eU .u8 8)) x0) rfl rfl ?_)))))
 obtain ⟨v2, hv3, H1⟩ := ob H
 refine wpo_a (av := fun t => eT t 1 (@eU .u8 8) v2) rfl rfl rfl (h_app0 tk hH hv3 td40 ty5 rfl (by decide) (.inr rfl) (src_l td40 rfl)) fun tk4 τ hH => ?_
 refine l_ H1 e_octets_Reader rfl (OpP.wk (wkf_up (t := 5) (a := ((eL 1 (@eU .u8 8)) v2)) wk_no) (o_c tk false rfl (fun _ => rfl))) fun v6 H5 => ?_
 refine wpo_a (av := fun id => .ref id 0) rfl rfl rfl (h_box tk hH rfl wr (b := (e_octets_Reader v6)) (enc144.flat _) (c_octets_Reader v6) rfl) fun id7 τ ⟨hH, n8⟩ => ?_
 refine ma tk (.ref id7 0) rfl rfl (wpo_nil (awp_ret ?_))
 obtain rfl := oi H5
 exact ⟨_, .ref id7 0, rfl, .of_eq rfl, id7, rfl, n8, hH.noT⟩
theorem octets_Reader_Fail_ok {x0 : octets_Reader} {x1 : Int} {r : octets_Reader} (H : octets_Reader_Fail x0 x1 = some r) (σ : St) {p0 : Nat} (h0 : σ.objs[p0]? = some (c_octets_Reader x0)) : ACall Tryz.prog 84 [(.ref p0 0), (eI x1)] σ (fun a τ => a = .tup [] ∧ τ = σ.puts [(p0, (c_octets_Reader r))]) := by
 unfold octets_Reader_Fail at H
 refine ACall.out [(p0, (c_octets_Reader r))] (by simp only [List.mem_cons, List.not_mem_nil, or_false]; rintro _ (rfl) ρ κ <;> exact c_octets_Reader_cut ρ κ _) (acall_start tk Tryz.func84 (by decide) rfl (nb rfl) ?_)
 have hH := Holds.init σ
 have hH := hH.bring h0 (fun _ h => by cases h)
 refine sr rfl (mm tk (.ref p0 0) rfl rfl (mc tk (.ref p0 0) rfl rfl (fun _ => rfl) (mc tk (.ref p0 2) rfl rfl (fun _ => rfl) (wpo_rd (a := (eI x0.code)) rfl rfl rfl (h_ld tk hH 0 rfl rfl rfl) ?_))))
 refine l_ H eB rfl (o_ar tk rfl rfl rfl) fun v2 H1 => ?_
 refine wpo_nil ?_
 refine awp_if H1 rfl (fun H3 => ?_) (fun H3 => ?_)
 ·refine awp_region rfl (mm tk (.ref p0 0) rfl rfl (mm tk (eI x1) rfl rfl (mc tk (.ref p0 0) rfl rfl (fun _ => rfl) (mc tk (.ref p0 2) rfl rfl (fun _ => rfl) ?_))))
  obtain ⟨c5, hc6, H4⟩ := lt_ex H3
  refine wpo_z rfl rfl (h_st tk hH 0 rfl ty53 (by simp) rfl rfl wr (b := (eI x1)) rfl rfl (nb rfl) (c_octets_Reader c5) (by rw [← hc6]; rfl)) fun τ hH => ?_
  refine wpo_nil ?_
  obtain rfl := oi H4
  exact ⟨_, (.tup []), rfl, wr, .of_eq rfl, hH.noT⟩
 ·refine awp_skip ?_
  obtain rfl := oi H3
  exact ⟨_, (.tup []), rfl, wr, .of_eq rfl, hH.noT⟩
theorem octets_Reader_Number_ok {x0 : octets_Reader} {x1 : Int} {r : Int × octets_Reader} (H : octets_Reader_Number x0 x1 = some r) (σ : St) {p0 : Nat} (h0 : σ.objs[p0]? = some (c_octets_Reader x0)) : ACall Tryz.prog 65 [(.ref p0 0), (eI x1)] σ (fun a τ => a = eI r.1 ∧ τ = σ.puts [(p0, (c_octets_Reader r.2))]) := by
 unfold octets_Reader_Number at H
 refine ACall.out [(p0, (c_octets_Reader r.2))] (by simp only [List.mem_cons, List.not_mem_nil, or_false]; rintro _ (rfl) ρ κ <;> exact c_octets_Reader_cut ρ κ _) (acall_start tk Tryz.func65 (by decide) rfl (nb rfl) ?_)
 have hH := Holds.init σ
 have hH := hH.bring h0 (fun _ h => by cases h)
 refine sr rfl (ma tk (eI (0 : Int)) rfl rfl (wpo_nil (awp_seq ?_)))
 refine awp_drawS mixed [] rfl (by decide +kernel) rfl rfl ?_
 refine wpdS_mv (a := (.ref p0 0)) rfl rfl rfl (o_mv tk rfl (Wk.refl _)) (wpdS_mv (a := (.ref p0 0)) rfl rfl rfl (o_c tk false rfl (fun _ => rfl)) (wpdS_mv (a := (.ref p0 1)) rfl rfl rfl (o_c tk false rfl (fun _ => rfl)) (wpdS_rd (a := (eI x0.at_)) rfl (by decide +kernel) rfl rfl (h_ld tk hH 0 rfl rfl rfl) (wpdS_mv (a := (eI (0 : Int))) rfl rfl rfl (o_as tk rfl (Wk.refl _)) (wpdS_mv (a := (eI x0.at_)) rfl rfl rfl (o_as tk rfl (Wk.refl _)) (wpdS_nil (awp_seq (awp_block ?_))))))))
 obtain ⟨o4, hs5, hj6⟩ := ob H
 refine awp_cutx 0 (fun fr τ => ∃ s11 : octets_Reader, o4 = .inl s11 ∧ WkF fr (fm []) ∧ Holds σ [(p0, (c_octets_Reader s11))] [] τ) ?_ ?_
 ·rintro fr τ ⟨s11, rfl, hfr, hH⟩
  have H78 := hj6
  simp only [Sum.elim_inl] at H78
  refine AWP.fm [] hfr ?_
  refine sr rfl (ma tk (eI (0 : Int)) rfl rfl (wpo_nil (awp_ret ?_)))
  obtain rfl := oi H78
  exact ⟨_, (eI (0 : Int)), rfl, wr, .of_eq ((enc_i64 td3 sz3).cut _ _ _), hH.noT⟩
 ·refine awp_loopO (body := fun s => octets_Reader_Number_b0 x1 s.1 s.2.1 s.2.2) hs5 (fun (s : Int × Int × octets_Reader) fr τ => WkF fr (fm [(0, (.ref p0 0)), (1, (eI x1)), (5, (eI s.1)), (6, (eI s.2.1))]) ∧ Holds σ [(p0, (c_octets_Reader s.2.2))] [] τ) ⟨(wc (wc (wc (wc (wkf_nil _))))), hH⟩ ?_
  rintro ⟨c1, c2, c3⟩ fr τ y7 ⟨hfr, hH⟩ hb9 hy10
  have H12 : octets_Reader_Number_b0 x1 c1 c2 c3 = some y7 := hb9
  unfold octets_Reader_Number_b0 at H12
  refine AWP.fm [(0, (.ref p0 0)), (1, (eI x1)), (5, (eI c1)), (6, (eI c2))] hfr ?_
  have hH : Holds σ [(p0, (c_octets_Reader c3))] [] τ := hH
  refine awp_seq (sr rfl (mm tk (.ref p0 0) rfl rfl (mc tk (.ref p0 0) rfl rfl (fun _ => rfl) (mc tk (.ref p0 2) rfl rfl (fun _ => rfl) (wpo_rd (a := (eI c3.code)) rfl rfl rfl (h_ld tk hH 0 rfl rfl rfl) ?_)))))
  refine l_ H12 eB rfl (o_ar tk rfl rfl rfl) fun v14 H13 => ?_
  refine wpo_nil ?_
  refine awp_if H13 rfl (fun H15 => ?_) (fun H15 => ?_)
  ·refine awp_skip (awp_block (awp_seq (sr rfl (mm tk (eI c2) rfl rfl (mm tk (.ref p0 0) rfl rfl (mc tk (.ref p0 0) rfl rfl (fun _ => rfl) (mc tk (.ref p0 0) rfl rfl (fun _ => rfl) (wpo_rd (a := ((eL 1 (@eU .u8 8)) c3.b)) rfl rfl rfl (h_ld tk hH 0 rfl rfl rfl) ?_))))))))
   refine l_ H15 eI rfl (o_len tk td40 rfl) fun v17 H16 => ?_
   refine l_ H16 eB rfl (o_ar tk rfl rfl rfl) fun v19 H18 => ?_
   refine wpo_nil ?_
   refine awp_if H18 rfl (fun H20 => ?_) (fun H20 => ?_)
   ·refine sr rfl (mm tk (.ref p0 0) rfl rfl ?_)
    refine wpo_cb H20 (fun x _ => .tup []) rfl rfl rfl (fun v22 hv => h_call1 hH [(0, (p0, (c_octets_Reader v22)))] ⟨⟨_, rfl⟩, trivial⟩ rfl rfl (.cons wr (.cons wr .nil)) (octets_Reader_Fail_ok hv _ (hH.at_ 0 rfl))) fun v22 _ τ hv22 H21 hH => ?_
    refine wpo_nil (awp_exit ?_)
    have hz := hy10 _ (inj_inr H21)
    exact ⟨⟨_, inj_inr H21⟩, v22, hz.symm, (wkf_nil _), hH⟩
   ·refine awp_skip (sr rfl (mm tk (.ref p0 0) rfl rfl (mc tk (.ref p0 0) rfl rfl (fun _ => rfl) (mc tk (.ref p0 0) rfl rfl (fun _ => rfl) (wpo_rd (a := ((eL 1 (@eU .u8 8)) c3.b)) rfl rfl rfl (h_ld tk hH 0 rfl rfl rfl) (mm tk (eI c2) rfl rfl ?_))))))
    refine b_ H20 (fun y => .fptr ((@eU .u8 8) y).cells 0) rfl (fun v24 hv => o_ixa tk hv td40 (enc_u td5 sz5) rfl rfl) fun v24 hv24 H23 => ?_
    refine m_ ((@eU .u8 8) v24) rfl (o_ld_e tk (enc_u td5 sz5) rfl rfl) (ma tk ((@eU .u8 8) v24) rfl rfl (wpo_nil (sr rfl (mm tk (eI c2) rfl rfl ?_))))
    refine l_ H23 eI rfl (o_ar tk rfl rfl rfl) fun v26 H25 => ?_
    refine ma tk (eI v26) rfl rfl (wpo_nil (awp_block (awp_seq ?_)))
    obtain ⟨s27, hs29, hj30⟩ := ob H25
    refine awp_cutn (fun fr τ => WkF fr (fm [(0, (.ref p0 0)), (1, (eI x1)), (5, (eI c1)), (6, (eI v26)), (7, ((@eU .u8 8) v24)), (50, (eB s27))]) ∧ Holds σ [(p0, (c_octets_Reader c3))] [] τ) ?_ ?_
    ·rintro fr τ ⟨hfr, hH⟩
     have H41 := hj30
     refine AWP.fm [(0, (.ref p0 0)), (1, (eI x1)), (5, (eI c1)), (6, (eI v26)), (7, ((@eU .u8 8) v24)), (50, (eB s27))] hfr ?_
     refine awp_if H41 rfl (fun H42 => ?_) (fun H42 => ?_)
     ·refine awp_region rfl (mm tk (.ref p0 0) rfl rfl ?_)
      refine wpo_cb H42 (fun x _ => .tup []) rfl rfl rfl (fun v44 hv => h_call1 hH [(0, (p0, (c_octets_Reader v44)))] ⟨⟨_, rfl⟩, trivial⟩ rfl rfl (.cons wr (.cons wr .nil)) (octets_Reader_Fail_ok hv _ (hH.at_ 0 rfl))) fun v44 _ τ hv44 H43 hH => ?_
      refine wpo_nil ?_
      exact ⟨(c1, v26, v44), inj_inl H43, (wc (wc (wc (wc (wkf_nil _))))), hH⟩
     ·refine sr rfl (mm tk (eI c1) rfl rfl (mm tk (eI x1) rfl rfl ?_))
      refine l_ H42 eI rfl (o_shr tk (y := (7 : Int)) rfl rfl rfl) fun v46 H45 => ?_
      refine l_ H45 eB rfl (o_ar tk rfl rfl rfl) fun v48 H47 => ?_
      refine ma tk (eB v48) rfl rfl (wpo_nil ?_)
      refine awp_if H47 rfl (fun H49 => ?_) (fun H49 => ?_)
      ·refine awp_region rfl (mm tk (.ref p0 0) rfl rfl ?_)
       refine wpo_cb H49 (fun x _ => .tup []) rfl rfl rfl (fun v51 hv => h_call1 hH [(0, (p0, (c_octets_Reader v51)))] ⟨⟨_, rfl⟩, trivial⟩ rfl rfl (.cons wr (.cons wr .nil)) (octets_Reader_Fail_ok hv _ (hH.at_ 0 rfl))) fun v51 _ τ hv51 H50 hH => ?_
       refine wpo_nil ?_
       exact ⟨(c1, v26, v51), inj_inl H50, (wc (wc (wc (wc (wkf_nil _))))), hH⟩
      ·refine sr rfl (mm tk ((@eU .u8 8) v24) rfl rfl ?_)
       refine l_ H49 eB rfl (o_geq_u tk rfl rfl) fun v53 H52 => ?_
       refine ma tk (eB v53) rfl rfl (wpo_nil ?_)
       refine awp_if H52 rfl (fun H54 => ?_) (fun H54 => ?_)
       ·refine sr rfl (mm tk (eI c1) rfl rfl ?_)
        refine l_ H54 eI rfl (o_shl tk (y := (7 : Int)) rfl rfl rfl) fun v56 H55 => ?_
        refine mm tk ((@eU .u8 8) v24) rfl rfl ?_
        refine l_ H55 (@eU .u8 8) rfl (o_and_u tk rfl rfl rfl) fun v58 H57 => ?_
        refine l_ H57 eI rfl (o_cv_ui tk td5 td3 (by decide) rfl) fun v60 H59 => ?_
        refine l_ H59 eI rfl (o_ar tk rfl rfl rfl) fun v62 H61 => ?_
        refine ma tk (eI v62) rfl rfl (wpo_nil (awp_exit ?_))
        exact ⟨(v62, v26, c3), inj_inl H61, (wc (wc (wc (wc (wkf_nil _))))), hH⟩
       ·refine awp_seq (sr rfl (mm tk (eI c1) rfl rfl ?_))
        refine l_ H54 eI rfl (o_shl tk (y := (7 : Int)) rfl rfl rfl) fun v64 H63 => ?_
        refine mm tk ((@eU .u8 8) v24) rfl rfl ?_
        refine l_ H63 eI rfl (o_cv_ui tk td5 td3 (by decide) rfl) fun v66 H65 => ?_
        refine l_ H65 eI rfl (o_ar tk rfl rfl rfl) fun v68 H67 => ?_
        refine ma tk (eI v68) rfl rfl (wpo_nil (sr rfl (mm tk (eI v68) rfl rfl (mm tk (eI x1) rfl rfl ?_))))
        refine l_ H67 eB rfl (o_ar tk rfl rfl rfl) fun v70 H69 => ?_
        refine wpo_nil ?_
        refine awp_if H69 rfl (fun H71 => ?_) (fun H71 => ?_)
        ·refine sr rfl (mm tk (.ref p0 0) rfl rfl ?_)
         refine wpo_cb H71 (fun x _ => .tup []) rfl rfl rfl (fun v73 hv => h_call1 hH [(0, (p0, (c_octets_Reader v73)))] ⟨⟨_, rfl⟩, trivial⟩ rfl rfl (.cons wr (.cons wr .nil)) (octets_Reader_Fail_ok hv _ (hH.at_ 0 rfl))) fun v73 _ τ hv73 H72 hH => ?_
         refine wpo_nil (awp_exit ?_)
         exact ⟨(v68, v26, v73), inj_inl H72, (wc (wc (wc (wc (wkf_nil _))))), hH⟩
        ·refine awp_skip (sr rfl (mm tk (.ref p0 0) rfl rfl (mm tk (eI v26) rfl rfl (mc tk (.ref p0 0) rfl rfl (fun _ => rfl) (mc tk (.ref p0 1) rfl rfl (fun _ => rfl) ?_)))))
         obtain ⟨c75, hc76, H74⟩ := lt_ex H71
         refine wpo_z rfl rfl (h_st tk hH 0 rfl ty3 (by simp) rfl rfl wr (b := (eI v26)) rfl rfl (nb rfl) (c_octets_Reader c75) (by rw [← hc76]; rfl)) fun τ hH => ?_
         refine wpo_nil (sr rfl (mm tk (eI v68) rfl rfl (ma tk (eI v68) rfl rfl (wpo_nil (awp_ret ?_)))))
         have hz := hy10 _ (inj_inr H74)
         refine ⟨⟨_, inj_inr H74⟩, ?_⟩
         rw [← hz] at hj6
         have H77 := (show some _ = some _ from hj6)
         obtain rfl := oi H77
         exact ⟨_, (eI v68), rfl, wr, .of_eq ((enc_i64 td3 sz3).cut _ _ _), hH.noT⟩
    ·refine awp_region rfl (mm tk ((@eU .u8 8) v24) rfl rfl ?_)
     refine l_ hs29 eB rfl (o_eql_u tk rfl rfl) fun v32 H31 => ?_
     refine mm tk (eB v32) rfl rfl ?_
     refine if_split H31 (fun hb H33 => ?_) (fun hb H33 => ?_)
     ·subst hb
      refine mm tk (eI c1) rfl rfl ?_
      refine l_ H33 eB rfl (o_ar tk rfl rfl rfl) fun v35 H34 => ?_
      refine pt tk (eB v35) rfl rfl rfl (mm tk (eB v35) rfl rfl ?_)
      refine if_split H34 (fun hb H36 => ?_) (fun hb H36 => ?_)
      ·subst hb
       refine mm tk (eI v26) rfl rfl (mm tk (.ref p0 0) rfl rfl (mc tk (.ref p0 0) rfl rfl (fun _ => rfl) (mc tk (.ref p0 1) rfl rfl (fun _ => rfl) (wpo_rd (a := (eI c3.at_)) rfl rfl rfl (h_ld tk hH 0 rfl rfl rfl) ?_))))
       refine l_ H36 eI rfl (o_ar tk rfl rfl rfl) fun v38 H37 => ?_
       refine l_ H37 eB rfl (o_ar tk rfl rfl rfl) fun v40 H39 => ?_
       refine pt tk (eB v40) rfl rfl rfl (ma tk (eB v40) rfl rfl (wpo_nil ?_))
       have e := oi H39
       subst e
       exact ⟨(wc (wc (wc (wc (wc (wc (wkf_nil _))))))), hH⟩
      ·subst hb
       refine k_ rfl (k_ rfl (k_ rfl (k_ rfl (k_ rfl (k_ rfl (k_ rfl (pf tk (eB false) rfl rfl rfl (ma tk (eB false) rfl rfl ?_))))))))
       refine wpo_nil ?_
       have e := oi H36
       subst e
       exact ⟨(wc (wc (wc (wc (wc (wc (wkf_nil _))))))), hH⟩
     ·subst hb
      refine k_ rfl (k_ rfl (pf tk (eB false) rfl rfl rfl (mm tk (eB false) rfl rfl (k_ rfl (k_ rfl (k_ rfl (k_ rfl (k_ rfl ?_))))))))
      refine k_ rfl (k_ rfl (pf tk (eB false) rfl rfl rfl (ma tk (eB false) rfl rfl (wpo_nil ?_))))
      have e := oi H33
      subst e
      exact ⟨(wc (wc (wc (wc (wc (wc (wkf_nil _))))))), hH⟩
  ·refine awp_exit ?_
   have hz := hy10 _ (inj_inr H15)
   exact ⟨⟨_, inj_inr H15⟩, c3, hz.symm, (wkf_nil _), hH⟩
theorem octets_Reader_Code_ok {x0 : octets_Reader} {r : Int} (H : octets_Reader_Code x0 = some r) (σ : St) {p0 : Nat} (h0 : σ.objs[p0]? = some (c_octets_Reader x0)) : ACall Tryz.prog 66 [(.ref p0 0)] σ (fun a τ => a = eI r ∧ τ = σ) := by
 unfold octets_Reader_Code at H
 refine ACall.pure (acall_start tk Tryz.func66 (by decide) rfl (nb rfl) ?_)
 have hH := Holds.init σ
 have hH := hH.bring h0 (fun _ h => by cases h)
 refine sr rfl (ma tk (eI (0 : Int)) rfl rfl (wpo_nil (sr rfl (mm tk (.ref p0 0) rfl rfl (mc tk (.ref p0 0) rfl rfl (fun _ => rfl) (mc tk (.ref p0 2) rfl rfl (fun _ => rfl) (wpo_rd (a := (eI x0.code)) rfl rfl rfl (h_ld tk hH 0 rfl rfl rfl) (ma tk (eI x0.code) rfl rfl ?_))))))))
 refine wpo_nil (awp_ret ?_)
 obtain rfl := oi H
 exact ⟨_, (eI x0.code), rfl, wr, .of_eq ((enc_i64 td53 sz53).cut _ _ _), (hH.noT.unbring h0)⟩
theorem octets_Reader_Left_ok {x0 : octets_Reader} {r : Int} (H : octets_Reader_Left x0 = some r) (σ : St) {p0 : Nat} (h0 : σ.objs[p0]? = some (c_octets_Reader x0)) : ACall Tryz.prog 85 [(.ref p0 0)] σ (fun a τ => a = eI r ∧ τ = σ) := by
 unfold octets_Reader_Left at H
 refine ACall.pure (acall_start tk Tryz.func85 (by decide) rfl (nb rfl) ?_)
 have hH := Holds.init σ
 have hH := hH.bring h0 (fun _ h => by cases h)
 refine sr rfl (ma tk (eI (0 : Int)) rfl rfl (wpo_nil (awp_seq ?_)))
 refine awp_drawS mixed [] rfl (by decide +kernel) rfl rfl ?_
 refine wpdS_mv (a := (.ref p0 0)) rfl rfl rfl (o_mv tk rfl (Wk.refl _)) (wpdS_mv (a := (.ref p0 0)) rfl rfl rfl (o_c tk false rfl (fun _ => rfl)) (wpdS_mv (a := (.ref p0 0)) rfl rfl rfl (o_c tk false rfl (fun _ => rfl)) (wpdS_rd (a := ((eL 1 (@eU .u8 8)) x0.b)) rfl (by decide +kernel) rfl rfl (h_ld tk hH 0 rfl rfl rfl) ?_)))
 refine wpdS_lt H eI rfl rfl rfl (o_len tk td40 rfl) fun v2 H1 => ?_
 refine wpdS_mv (a := (.ref p0 0)) rfl rfl rfl (o_mv tk rfl (Wk.refl _)) (wpdS_mv (a := (.ref p0 0)) rfl rfl rfl (o_c tk false rfl (fun _ => rfl)) (wpdS_mv (a := (.ref p0 1)) rfl rfl rfl (o_c tk false rfl (fun _ => rfl)) (wpdS_rd (a := (eI x0.at_)) rfl (by decide +kernel) rfl rfl (h_ld tk hH 0 rfl rfl rfl) ?_)))
 refine wpdS_lt H1 eI rfl rfl rfl (o_ar tk rfl rfl rfl) fun v4 H3 => ?_
 refine wpdS_mv (a := (eI v4)) rfl rfl rfl (o_as tk rfl (Wk.refl _)) (wpdS_nil (awp_ret ?_))
 obtain rfl := oi H3
 exact ⟨_, (eI v4), rfl, wr, .of_eq ((enc_i64 td3 sz3).cut _ _ _), (hH.noT.unbring h0)⟩
theorem octets_Reader_Bytes_ok {x0 : octets_Reader} {x1 : Int} {r : (List (BitVec 8)) × octets_Reader} (H : octets_Reader_Bytes x0 x1 = some r) (σ : St) {p0 : Nat} (h0 : σ.objs[p0]? = some (c_octets_Reader x0)) : ACall Tryz.prog 67 [(.ref p0 0), (eI x1)] σ (fun a τ => a = (eL 1 (@eU .u8 8)) r.1 ∧ τ = σ.puts [(p0, (c_octets_Reader r.2))]) := by
 unfold octets_Reader_Bytes at H
 refine ACall.out [(p0, (c_octets_Reader r.2))] (by simp only [List.mem_cons, List.not_mem_nil, or_false]; rintro _ (rfl) ρ κ <;> exact c_octets_Reader_cut ρ κ _) (acall_start tk Tryz.func67 (by decide) rfl (nb rfl) ?_)
 have hH := Holds.init σ
 have hH := hH.bring h0 (fun _ h => by cases h)
 refine sr rfl (ma tk AV.nils rfl rfl (wpo_nil (sr rfl (mm tk (.ref p0 0) rfl rfl (mc tk (.ref p0 0) rfl rfl (fun _ => rfl) (mc tk (.ref p0 1) rfl rfl (fun _ => rfl) (wpo_rd (a := (eI x0.at_)) rfl rfl rfl (h_ld tk hH 0 rfl rfl rfl) (ma tk (eI x0.at_) rfl rfl ?_))))))))
 refine wpo_nil (sr rfl (mm tk (.ref p0 0) rfl rfl (mm tk (eI x1) rfl rfl ?_)))
 refine wpo_cb H (fun x _ => eI x.1) rfl rfl rfl (fun v2 hv => h_call1 hH [(0, (p0, (c_octets_Reader v2.2)))] ⟨⟨_, rfl⟩, trivial⟩ rfl rfl (.cons wr (.cons wr .nil)) (octets_Reader_Number_ok hv _ (hH.at_ 0 rfl))) fun v2 _ τ hv2 H1 hH => ?_
 refine ma tk (eI v2.1) rfl rfl (wpo_nil (awp_seq (sr rfl (mm tk (.ref p0 0) rfl rfl (mc tk (.ref p0 0) rfl rfl (fun _ => rfl) (mc tk (.ref p0 2) rfl rfl (fun _ => rfl) (wpo_rd (a := (eI v2.2.code)) rfl rfl rfl (h_ld tk hH 0 rfl rfl rfl) ?_)))))))
 refine l_ H1 eB rfl (o_ar tk rfl rfl rfl) fun v4 H3 => ?_
 refine wpo_nil ?_
 refine awp_if H3 rfl (fun H5 => ?_) (fun H5 => ?_)
 ·refine sr rfl (ma tk AV.nils rfl rfl (wpo_nil (awp_ret ?_)))
  obtain rfl := oi H5
  exact ⟨_, ((eL 1 (@eU .u8 8)) []), rfl, (wk_nils _), .of_eq ((enc_l td40 sz40 (enc_u td5 sz5).cut).cut _ _ _), hH.noT⟩
 ·refine awp_skip (awp_seq (sr rfl (mm tk (eI v2.1) rfl rfl (mm tk (.ref p0 0) rfl rfl ?_))))
  refine wpo_bdr H5 eI rfl rfl rfl (fun v7 hv => h_callr rfl rfl (.cons wr .nil) (octets_Reader_Left_ok hv _ (hH.at_ 0 rfl))) fun v7 hv7 H6 => ?_
  refine l_ H6 eB rfl (o_ar tk rfl rfl rfl) fun v9 H8 => ?_
  refine wpo_nil ?_
  refine awp_if H8 rfl (fun H10 => ?_) (fun H10 => ?_)
  ·refine sr rfl (mm tk (.ref p0 0) rfl rfl (mm tk (eI x0.at_) rfl rfl (mc tk (.ref p0 0) rfl rfl (fun _ => rfl) (mc tk (.ref p0 1) rfl rfl (fun _ => rfl) ?_))))
   obtain ⟨c12, hc13, H11⟩ := lt_ex H10
   refine wpo_z rfl rfl (h_st tk hH 0 rfl ty3 (by simp) rfl rfl wr (b := (eI x0.at_)) rfl rfl (nb rfl) (c_octets_Reader c12) (by rw [← hc13]; rfl)) fun τ hH => ?_
   refine wpo_nil (sr rfl (mm tk (.ref p0 0) rfl rfl ?_))
   refine wpo_cb H11 (fun x _ => .tup []) rfl rfl rfl (fun v15 hv => h_call1 hH [(0, (p0, (c_octets_Reader v15)))] ⟨⟨_, rfl⟩, trivial⟩ rfl rfl (.cons wr (.cons wr .nil)) (octets_Reader_Fail_ok hv _ (hH.at_ 0 rfl))) fun v15 _ τ hv15 H14 hH => ?_
   refine wpo_nil (sr rfl (ma tk AV.nils rfl rfl (wpo_nil (awp_ret ?_))))
   obtain rfl := oi H14
   exact ⟨_, ((eL 1 (@eU .u8 8)) []), rfl, (wk_nils _), .of_eq ((enc_l td40 sz40 (enc_u td5 sz5).cut).cut _ _ _), hH.noT⟩
  ·refine awp_skip (awp_seq ?_)
   refine awp_drawS mixed [16] rfl (by decide +kernel) rfl rfl ?_
   refine wpdS_mv (a := (eF 1 (@eU .u8 8) ([] : List (BitVec 8)))) rfl rfl rfl (o_c tk false rfl (fun _ => rfl)) (wpdS_mv (a := (.ref p0 0)) rfl rfl rfl (o_mv tk rfl (Wk.refl _)) (wpdS_mv (a := (.ref p0 0)) rfl rfl rfl (o_c tk false rfl (fun _ => rfl)) (wpdS_mv (a := (.ref p0 0)) rfl rfl rfl (o_c tk false rfl (fun _ => rfl)) (wpdS_rd (a := ((eL 1 (@eU .u8 8)) v2.2.b)) rfl (by decide +kernel) rfl rfl (h_ld tk hH 0 rfl rfl rfl) (wpdS_mv (a := (.ref p0 0)) rfl rfl rfl (o_mv tk rfl (Wk.refl _)) (wpdS_mv (a := (.ref p0 0)) rfl rfl rfl (o_c tk false rfl (fun _ => rfl)) (wpdS_mv (a := (.ref p0 1)) rfl rfl rfl (o_c tk false rfl (fun _ => rfl)) (wpdS_rd (a := (eI v2.2.at_)) rfl (by decide +kernel) rfl rfl (h_ld tk hH 0 rfl rfl rfl) ?_))))))))
   refine wpdS_mv (a := (.ref p0 0)) rfl rfl rfl (o_mv tk rfl (Wk.refl _)) (wpdS_mv (a := (.ref p0 0)) rfl rfl rfl (o_c tk false rfl (fun _ => rfl)) (wpdS_mv (a := (.ref p0 1)) rfl rfl rfl (o_c tk false rfl (fun _ => rfl)) (wpdS_rd (a := (eI v2.2.at_)) rfl (by decide +kernel) rfl rfl (h_ld tk hH 0 rfl rfl rfl) (wpdS_mv (a := (eI v2.1)) rfl rfl rfl (o_mv tk rfl (Wk.refl _)) ?_))))
   refine wpdS_lt H10 eI rfl rfl rfl (o_ar tk rfl rfl rfl) fun v17 H16 => ?_
   refine wpdS_bd H16 (eL 1 (@eU .u8 8)) rfl rfl rfl (fun v19 hv => o_cut tk hv td40 (enc_u td5 sz5) rfl rfl rfl) fun v19 hv19 H18 => ?_
   obtain ⟨v21, hv22, H20⟩ := ob H18
   refine wpdS_a (av := fun t => eT t 1 (@eU .u8 8) v21) rfl rfl rfl (h_app0 tk hH hv22 td40 ty5 rfl (by decide) (.inr rfl) (src_l td40 rfl)) fun tk23 τ hH => ?_
   refine wpdS_mv (a := (eT tk23 1 (@eU .u8 8) v21)) rfl rfl rfl (o_as tk rfl (Wk.refl _)) (wpdS_nil (sr rfl (mm tk (.ref p0 0) rfl rfl (mc tk (.ref p0 0) rfl rfl (fun _ => rfl) (mc tk (.ref p0 1) rfl rfl (fun _ => rfl) (wpo_rd (a := (eI v2.2.at_)) rfl rfl rfl (h_ld tk hH 0 rfl rfl rfl) (mm tk (eI v2.1) rfl rfl ?_)))))))
   refine l_ H20 eI rfl (o_ar tk rfl rfl rfl) fun v25 H24 => ?_
   refine mc tk (.ref p0 0) rfl rfl (fun _ => rfl) (mc tk (.ref p0 1) rfl rfl (fun _ => rfl) ?_)
   obtain ⟨c27, hc28, H26⟩ := lt_ex H24
   refine wpo_z rfl rfl (h_st tk hH 0 rfl ty3 (by simp) rfl rfl wr (b := (eI v25)) rfl rfl (nb rfl) (c_octets_Reader c27) (by rw [← hc28]; rfl)) fun τ hH => ?_
   refine wpo_nil (sr rfl (mm tk (eT tk23 1 (@eU .u8 8) v21) rfl rfl (ma tk (eT tk23 1 (@eU .u8 8) v21) rfl rfl (wpo_nil (awp_ret ?_)))))
   obtain rfl := oi H26
   exact ⟨_, ((eL 1 (@eU .u8 8)) v21), rfl, wk_no, .of_eq ((enc_l td40 sz40 (enc_u td5 sz5).cut).cut _ _ _), hH.noT⟩
theorem octets_Reader_End_ok {x0 : octets_Reader} {r : Int × octets_Reader} (H : octets_Reader_End x0 = some r) (σ : St) {p0 : Nat} (h0 : σ.objs[p0]? = some (c_octets_Reader x0)) : ACall Tryz.prog 68 [(.ref p0 0)] σ (fun a τ => a = eI r.1 ∧ τ = σ.puts [(p0, (c_octets_Reader r.2))]) := by
 unfold octets_Reader_End at H
 refine ACall.out [(p0, (c_octets_Reader r.2))] (by simp only [List.mem_cons, List.not_mem_nil, or_false]; rintro _ (rfl) ρ κ <;> exact c_octets_Reader_cut ρ κ _) (acall_start tk Tryz.func68 (by decide) rfl (nb rfl) ?_)
 have hH := Holds.init σ
 have hH := hH.bring h0 (fun _ h => by cases h)
 refine sr rfl (ma tk (eI (0 : Int)) rfl rfl (wpo_nil (awp_seq (sr rfl (mm tk (.ref p0 0) rfl rfl ?_)))))
 refine wpo_bdr H eI rfl rfl rfl (fun v2 hv => h_callr rfl rfl (.cons wr .nil) (octets_Reader_Left_ok hv _ (hH.at_ 0 rfl))) fun v2 hv2 H1 => ?_
 refine l_ H1 eB rfl (o_ar tk rfl rfl rfl) fun v4 H3 => ?_
 refine wpo_nil ?_
 obtain ⟨s5, hs7, hj8⟩ := ob H3
 refine awp_cutn (fun fr τ => WkF fr (fm [(0, (.ref p0 0))]) ∧ Holds σ [(p0, (c_octets_Reader s5))] [] τ) ?_ ?_
 ·rintro fr τ ⟨hfr, hH⟩
  have H12 := hj8
  refine AWP.fm [(0, (.ref p0 0))] hfr ?_
  refine sr rfl (mm tk (.ref p0 0) rfl rfl (mc tk (.ref p0 0) rfl rfl (fun _ => rfl) (mc tk (.ref p0 2) rfl rfl (fun _ => rfl) (wpo_rd (a := (eI s5.code)) rfl rfl rfl (h_ld tk hH 0 rfl rfl rfl) (ma tk (eI s5.code) rfl rfl (wpo_nil (awp_ret ?_)))))))
  obtain rfl := oi H12
  exact ⟨_, (eI s5.code), rfl, wr, .of_eq ((enc_i64 td53 sz53).cut _ _ _), hH.noT⟩
 ·refine awp_if hs7 rfl (fun H9 => ?_) (fun H9 => ?_)
  ·refine awp_region rfl (mm tk (.ref p0 0) rfl rfl ?_)
   refine wpo_cb H9 (fun x _ => .tup []) rfl rfl rfl (fun v11 hv => h_call1 hH [(0, (p0, (c_octets_Reader v11)))] ⟨⟨_, rfl⟩, trivial⟩ rfl rfl (.cons wr (.cons wr .nil)) (octets_Reader_Fail_ok hv _ (hH.at_ 0 rfl))) fun v11 _ τ hv11 H10 hH => ?_
   refine wpo_nil ?_
   have e := oi H10
   subst e
   exact ⟨(wc (wkf_nil _)), hH⟩
  ·refine awp_skip ?_
   have e := oi H9
   subst e
   exact ⟨(wc (wkf_nil _)), hH⟩
theorem octets_Reader_At_ok {x0 : octets_Reader} {r : Int} (H : octets_Reader_At x0 = some r) (σ : St) {p0 : Nat} (h0 : σ.objs[p0]? = some (c_octets_Reader x0)) : ACall Tryz.prog 69 [(.ref p0 0)] σ (fun a τ => a = eI r ∧ τ = σ) := by
 unfold octets_Reader_At at H
 refine ACall.pure (acall_start tk Tryz.func69 (by decide) rfl (nb rfl) ?_)
 have hH := Holds.init σ
 have hH := hH.bring h0 (fun _ h => by cases h)
 refine sr rfl (ma tk (eI (0 : Int)) rfl rfl (wpo_nil (sr rfl (mm tk (.ref p0 0) rfl rfl (mc tk (.ref p0 0) rfl rfl (fun _ => rfl) (mc tk (.ref p0 1) rfl rfl (fun _ => rfl) (wpo_rd (a := (eI x0.at_)) rfl rfl rfl (h_ld tk hH 0 rfl rfl rfl) (ma tk (eI x0.at_) rfl rfl ?_))))))))
 refine wpo_nil (awp_ret ?_)
 obtain rfl := oi H
 exact ⟨_, (eI x0.at_), rfl, wr, .of_eq ((enc_i64 td3 sz3).cut _ _ _), (hH.noT.unbring h0)⟩
theorem wire_Get_ok {x0 : List (BitVec 8)} {r : api_Msg × Err} (H : wire_Get x0 = some r) (σ : St)  : ACall Tryz.prog 42 [((eL 1 (@eU .u8 8)) x0)] σ (fun a τ => a = .tup [e_api_Msg r.1, eErr r.2] ∧ τ = σ) := by
 unfold wire_Get at H
 refine ACall.pure (acall_start tk Tryz.func42 (by decide) rfl (nb rfl) ?_)
 have hH := Holds.init σ
 refine sr rfl ?_
 refine wpo_a (av := fun id => .ref id 0) rfl rfl rfl (h_allocw tk hH ty44 (c_api_Msg z_api_Msg) (.cons wr (.cons wr (.cons wr (.cons wr (.cons wr (.cons wr (.cons wr (.cons wr (.cons wr (.cons (by exact wk_nils _) (.cons wr .nil)))))))))))) fun id1 τ ⟨hH, n2⟩ => ?_
 refine ma tk (eErr Err.nil) rfl rfl (wpo_nil (awp_scope (awp_seq (sr rfl (mm tk ((eL 1 (@eU .u8 8)) x0) rfl rfl ?_)))))
 refine l_ H eI rfl (o_len tk td40 rfl) fun v4 H3 => ?_
 refine l_ H3 eB rfl (o_ar tk rfl rfl rfl) fun v6 H5 => ?_
 refine wpo_nil ?_
 refine awp_if H5 rfl (fun H7 => ?_) (fun H7 => ?_)
 ·refine sr rfl ?_
  refine l_ H7 e_api_Msg rfl (o_cw tk false (a := .agg ([AV.int .i64 0] ++ [AV.int .i64 0] ++ [AV.int .i64 0] ++ [AV.int .i64 0] ++ [AV.int .i64 0] ++ [AV.str ⟨#[]⟩, AV.int .i64 0, AV.int .i64 0, AV.int .i64 0, AV.nils] ++ [AV.bool false])) rfl (fun _ => rfl) (wk_agg (WkL.append (WkL.append (WkL.append (WkL.append (WkL.append (WkL.append (.cons wr .nil) (.cons wr .nil)) (.cons wr .nil)) (.cons wr .nil)) (.cons wr .nil)) (.cons wr (.cons wr (.cons wr (.cons wr (.cons (by exact wk_nils _) .nil)))))) (.cons wr .nil)))) fun v9 H8 => ?_
  refine mm tk ((eL 1 (@eU .u8 8)) x0) rfl rfl ?_
  refine l_ H8 eI rfl (o_len tk td40 rfl) fun v11 H10 => ?_
  refine b_ H10 eErr rfl (fun v13 hv => OpP.of_call rfl rfl (.cons wr (.cons wr (.cons wr .nil))) (trouble_New_ok hv)) fun v13 hv13 H12 => ?_
  obtain ⟨c15, hc16, H14⟩ := lt_ex H12
  refine wpo_z rfl rfl (h_st tk hH 0 rfl ty44 (by simp) rfl rfl wr (b := (e_api_Msg v9)) (enc44.flat _) rfl (nb rfl) (c_api_Msg c15) (by rw [← hc16]; rfl)) fun τ hH => ?_
  refine ma tk (eErr v13) rfl rfl (wpo_nil (awp_ret ?_))
  obtain rfl := oi H14
  exact ⟨_, (.tup [(e_api_Msg c15), (eErr v13)]), (ares_2 (ares_cell hH 0 rfl rfl rfl) rfl), (wk_tup (.cons wr (.cons wr .nil))), .of_eq (by simp only [cutAV, cutL, enc44.cut _ _ _, encErr.cut _ _ _]), (hH.noT.drop n2)⟩
 ·refine awp_skip (awp_seq (sr rfl (mm tk ((eL 1 (@eU .u8 8)) x0) rfl rfl ?_)))
  refine b_ H7 eB rfl (fun v18 hv => OpP.of_call rfl rfl (.cons wr .nil) (checksum_Fits_ok hv)) fun v18 hv18 H17 => ?_
  refine l_ H17 eB rfl (o_un tk rfl rfl) fun v20 H19 => ?_
  refine wpo_nil ?_
  refine awp_if H19 rfl (fun H21 => ?_) (fun H21 => ?_)
  ·refine sr rfl ?_
   refine l_ H21 e_api_Msg rfl (o_cw tk false (a := .agg ([AV.int .i64 0] ++ [AV.int .i64 0] ++ [AV.int .i64 0] ++ [AV.int .i64 0] ++ [AV.int .i64 0] ++ [AV.str ⟨#[]⟩, AV.int .i64 0, AV.int .i64 0, AV.int .i64 0, AV.nils] ++ [AV.bool false])) rfl (fun _ => rfl) (wk_agg (WkL.append (WkL.append (WkL.append (WkL.append (WkL.append (WkL.append (.cons wr .nil) (.cons wr .nil)) (.cons wr .nil)) (.cons wr .nil)) (.cons wr .nil)) (.cons wr (.cons wr (.cons wr (.cons wr (.cons (by exact wk_nils _) .nil)))))) (.cons wr .nil)))) fun v23 H22 => ?_
   refine mm tk ((eL 1 (@eU .u8 8)) x0) rfl rfl ?_
   refine l_ H22 eI rfl (o_len tk td40 rfl) fun v25 H24 => ?_
   refine b_ H24 eErr rfl (fun v27 hv => OpP.of_call rfl rfl (.cons wr (.cons wr (.cons wr .nil))) (trouble_New_ok hv)) fun v27 hv27 H26 => ?_
   obtain ⟨c29, hc30, H28⟩ := lt_ex H26
   refine wpo_z rfl rfl (h_st tk hH 0 rfl ty44 (by simp) rfl rfl wr (b := (e_api_Msg v23)) (enc44.flat _) rfl (nb rfl) (c_api_Msg c29) (by rw [← hc30]; rfl)) fun τ hH => ?_
   refine ma tk (eErr v27) rfl rfl (wpo_nil (awp_ret ?_))
   obtain rfl := oi H28
   exact ⟨_, (.tup [(e_api_Msg c29), (eErr v27)]), (ares_2 (ares_cell hH 0 rfl rfl rfl) rfl), (wk_tup (.cons wr (.cons wr .nil))), .of_eq (by simp only [cutAV, cutL, enc44.cut _ _ _, encErr.cut _ _ _]), (hH.noT.drop n2)⟩
  ·refine awp_skip (sr rfl (mm tk ((eL 1 (@eU .u8 8)) x0) rfl rfl (mm tk ((eL 1 (@eU .u8 8)) x0) rfl rfl ?_)))
   refine l_ H21 eI rfl (o_len tk td40 rfl) fun v32 H31 => ?_
   refine l_ H31 eI rfl (o_ar tk rfl rfl rfl) fun v34 H33 => ?_
   refine b_ H33 (eL 1 (@eU .u8 8)) rfl (fun v36 hv => o_cutTo tk hv td40 (enc_u td5 sz5) rfl rfl) fun v36 hv36 H35 => ?_
   refine wpo_cb H35 (fun _ id => .ref id 0) rfl rfl rfl (fun v38 hv => h_calln hH (c_octets_Reader v38) rfl rfl (.cons wr .nil) (octets_Read_ok hv _)) fun v38 id39 τ hv38 H37 ⟨hH, n40⟩ => ?_
   refine ma tk (.ref id39 0) rfl rfl (wpo_nil (sr rfl ?_))
   refine wpo_a (av := fun id => .ref id 0) rfl rfl rfl (h_allocw tk hH ty44 (c_api_Msg z_api_Msg) (.cons wr (.cons wr (.cons wr (.cons wr (.cons wr (.cons wr (.cons wr (.cons wr (.cons wr (.cons (by exact wk_nils _) (.cons wr .nil)))))))))))) fun id41 τ ⟨hH, n42⟩ => ?_
   refine wpo_nil (sr rfl (mm tk (.ref id39 0) rfl rfl ?_))
   refine wpo_cb H37 (fun x _ => eI x.1) rfl rfl rfl (fun v44 hv => h_call1 hH [(1, (id39, (c_octets_Reader v44.2)))] ⟨⟨_, rfl⟩, trivial⟩ rfl rfl (.cons wr (.cons wr .nil)) (octets_Reader_Number_ok hv _ (hH.at_ 1 rfl))) fun v44 _ τ hv44 H43 hH => ?_
   refine mm tk (.ref id39 0) rfl rfl ?_
   refine wpo_cb H43 (fun x _ => eI x.1) rfl rfl rfl (fun v46 hv => h_call1 hH [(1, (id39, (c_octets_Reader v46.2)))] ⟨⟨_, rfl⟩, trivial⟩ rfl rfl (.cons wr (.cons wr .nil)) (octets_Reader_Number_ok hv _ (hH.at_ 1 rfl))) fun v46 _ τ hv46 H45 hH => ?_
   refine mm tk (.ref id39 0) rfl rfl ?_
   refine wpo_cb H45 (fun x _ => eI x.1) rfl rfl rfl (fun v48 hv => h_call1 hH [(1, (id39, (c_octets_Reader v48.2)))] ⟨⟨_, rfl⟩, trivial⟩ rfl rfl (.cons wr (.cons wr .nil)) (octets_Reader_Number_ok hv _ (hH.at_ 1 rfl))) fun v48 _ τ hv48 H47 hH => ?_
   refine mm tk (.ref id39 0) rfl rfl ?_
   refine wpo_cb H47 (fun x _ => eI x.1) rfl rfl rfl (fun v50 hv => h_call1 hH [(1, (id39, (c_octets_Reader v50.2)))] ⟨⟨_, rfl⟩, trivial⟩ rfl rfl (.cons wr (.cons wr .nil)) (octets_Reader_Number_ok hv _ (hH.at_ 1 rfl))) fun v50 _ τ hv50 H49 hH => ?_
   refine mc tk (.ref id41 0) rfl rfl (fun _ => rfl) ?_
   obtain ⟨c52, hc53, H51⟩ := lt_ex H49
   refine wpo_z rfl rfl (h_st tk hH 0 rfl ty3 (by simp) rfl rfl wr (b := (eI v44.1)) rfl rfl (nb rfl) (c_api_Msg c52) (by rw [← hc53]; rfl)) fun τ hH => ?_
   refine mc tk (.ref id41 1) rfl rfl (fun _ => rfl) ?_
   obtain ⟨c55, hc56, H54⟩ := lt_ex H51
   refine wpo_z rfl rfl (h_st tk hH 0 rfl ty3 (by simp) rfl rfl wr (b := (eI v46.1)) rfl rfl (nb rfl) (c_api_Msg c55) (by rw [← hc56]; rfl)) fun τ hH => ?_
   refine mc tk (.ref id41 2) rfl rfl (fun _ => rfl) ?_
   obtain ⟨c58, hc59, H57⟩ := lt_ex H54
   refine wpo_z rfl rfl (h_st tk hH 0 rfl ty3 (by simp) rfl rfl wr (b := (eI v48.1)) rfl rfl (nb rfl) (c_api_Msg c58) (by rw [← hc59]; rfl)) fun τ hH => ?_
   refine mc tk (.ref id41 3) rfl rfl (fun _ => rfl) ?_
   obtain ⟨c61, hc62, H60⟩ := lt_ex H57
   refine wpo_z rfl rfl (h_st tk hH 0 rfl ty3 (by simp) rfl rfl wr (b := (eI v50.1)) rfl rfl (nb rfl) (c_api_Msg c61) (by rw [← hc62]; rfl)) fun τ hH => ?_
   refine wpo_nil (awp_seq (awp_label (awp_seq (sr rfl (mc tk (.ref id41 0) rfl rfl (fun _ => rfl) (wpo_rd (a := (eI c61.Kind)) rfl rfl rfl (h_ld tk hH 0 rfl rfl rfl) ?_))))))
   refine b_ H60 eS rfl (fun v64 hv => OpP.of_call rfl rfl (.cons wr .nil) (wire_parts_ok hv)) fun v64 hv64 H63 => ?_
   refine wpo_a (av := fun id => .spc id) rfl rfl rfl (h_range tk hH td9 rfl) fun id65 τ ⟨hH, n66⟩ => ?_
   refine wpo_nil (awp_block ?_)
   obtain ⟨s77, hs71, hj72⟩ := ob H63
   refine awp_cutx 0 (fun fr τ => WkF fr (fm [(0, ((eL 1 (@eU .u8 8)) x0)), (2, (.ref id1 0)), (4, (.ref id39 0)), (5, (.ref id41 0))]) ∧ Holds σ [(id65, (cIt s77.1)), (id41, (c_api_Msg s77.2.1)), (id39, (c_octets_Reader s77.2.2)), (id1, (c_api_Msg z_api_Msg))] [] τ) ?_ ?_
   ·rintro fr τ ⟨hfr, hH⟩
    have H141 := hj72
    refine AWP.fm [(0, ((eL 1 (@eU .u8 8)) x0)), (2, (.ref id1 0)), (4, (.ref id39 0)), (5, (.ref id41 0))] hfr ?_
    refine awp_seq (sr rfl (mm tk (.ref id39 0) rfl rfl ?_))
    refine wpo_cb H141 (fun x _ => eI x.1) rfl rfl rfl (fun v143 hv => h_call1 hH [(2, (id39, (c_octets_Reader v143.2)))] ⟨⟨_, rfl⟩, trivial⟩ rfl rfl (.cons wr .nil) (octets_Reader_End_ok hv _ (hH.at_ 2 rfl))) fun v143 _ τ hv143 H142 hH => ?_
    refine ma tk (eI v143.1) rfl rfl (wpo_nil (sr rfl (mm tk (eI v143.1) rfl rfl ?_)))
    refine l_ H142 eB rfl (o_ar tk rfl rfl rfl) fun v145 H144 => ?_
    refine wpo_nil ?_
    refine awp_if H144 rfl (fun H146 => ?_) (fun H146 => ?_)
    ·refine sr rfl ?_
     refine l_ H146 e_api_Msg rfl (o_cw tk false (a := .agg ([AV.int .i64 0] ++ [AV.int .i64 0] ++ [AV.int .i64 0] ++ [AV.int .i64 0] ++ [AV.int .i64 0] ++ [AV.str ⟨#[]⟩, AV.int .i64 0, AV.int .i64 0, AV.int .i64 0, AV.nils] ++ [AV.bool false])) rfl (fun _ => rfl) (wk_agg (WkL.append (WkL.append (WkL.append (WkL.append (WkL.append (WkL.append (.cons wr .nil) (.cons wr .nil)) (.cons wr .nil)) (.cons wr .nil)) (.cons wr .nil)) (.cons wr (.cons wr (.cons wr (.cons wr (.cons (by exact wk_nils _) .nil)))))) (.cons wr .nil)))) fun v148 H147 => ?_
     refine mm tk (.ref id39 0) rfl rfl ?_
     refine wpo_bdr H147 eI rfl rfl rfl (fun v150 hv => h_callr rfl rfl (.cons wr .nil) (octets_Reader_At_ok hv _ (hH.at_ 2 rfl))) fun v150 hv150 H149 => ?_
     refine mm tk (eI v143.1) rfl rfl ?_
     refine b_ H149 eErr rfl (fun v152 hv => OpP.of_call rfl rfl (.cons wr (.cons wr (.cons wr .nil))) (trouble_New_ok hv)) fun v152 hv152 H151 => ?_
     obtain ⟨c154, hc155, H153⟩ := lt_ex H151
     refine wpo_z rfl rfl (h_st tk hH 3 rfl ty44 (by simp) rfl rfl wr (b := (e_api_Msg v148)) (enc44.flat _) rfl (nb rfl) (c_api_Msg c154) (by rw [← hc155]; rfl)) fun τ hH => ?_
     refine ma tk (eErr v152) rfl rfl (wpo_nil (awp_ret ?_))
     obtain rfl := oi H153
     exact ⟨_, (.tup [(e_api_Msg c154), (eErr v152)]), (ares_2 (ares_cell hH 3 rfl rfl rfl) rfl), (wk_tup (.cons wr (.cons wr .nil))), .of_eq (by simp only [cutAV, cutL, enc44.cut _ _ _, encErr.cut _ _ _]), ((((hH.noT.drop n66).drop n42).drop n40).drop n2)⟩
    ·refine awp_skip (awp_seq (sr rfl (wpo_rd (a := (e_api_Msg s77.2.1)) rfl rfl rfl (h_ld tk hH 1 rfl rfl rfl) ?_)))
     refine b_ H146 eErr rfl (fun v157 hv => OpP.of_call rfl rfl (.cons wr .nil) (wire_Check_ok hv)) fun v157 hv157 H156 => ?_
     refine ma tk (eErr v157) rfl rfl (wpo_nil (sr rfl (mm tk (eErr v157) rfl rfl ?_)))
     refine l_ H156 eB rfl (o_err_neq tk rfl rfl rfl) fun v159 H158 => ?_
     refine wpo_nil ?_
     refine awp_if H158 rfl (fun H160 => ?_) (fun H160 => ?_)
     ·refine sr rfl ?_
      refine l_ H160 e_api_Msg rfl (o_cw tk false (a := .agg ([AV.int .i64 0] ++ [AV.int .i64 0] ++ [AV.int .i64 0] ++ [AV.int .i64 0] ++ [AV.int .i64 0] ++ [AV.str ⟨#[]⟩, AV.int .i64 0, AV.int .i64 0, AV.int .i64 0, AV.nils] ++ [AV.bool false])) rfl (fun _ => rfl) (wk_agg (WkL.append (WkL.append (WkL.append (WkL.append (WkL.append (WkL.append (.cons wr .nil) (.cons wr .nil)) (.cons wr .nil)) (.cons wr .nil)) (.cons wr .nil)) (.cons wr (.cons wr (.cons wr (.cons wr (.cons (by exact wk_nils _) .nil)))))) (.cons wr .nil)))) fun v162 H161 => ?_
      refine mm tk ((eL 1 (@eU .u8 8)) x0) rfl rfl ?_
      refine l_ H161 eI rfl (o_len tk td40 rfl) fun v164 H163 => ?_
      refine mm tk (eErr v157) rfl rfl ?_
      refine b_ H163 eErr rfl (fun v166 hv => OpP.of_call rfl rfl (.cons wr (.cons wr (.cons wr .nil))) (trouble_Wrap_ok hv)) fun v166 hv166 H165 => ?_
      obtain ⟨c168, hc169, H167⟩ := lt_ex H165
      refine wpo_z rfl rfl (h_st tk hH 3 rfl ty44 (by simp) rfl rfl wr (b := (e_api_Msg v162)) (enc44.flat _) rfl (nb rfl) (c_api_Msg c168) (by rw [← hc169]; rfl)) fun τ hH => ?_
      refine ma tk (eErr v166) rfl rfl (wpo_nil (awp_ret ?_))
      obtain rfl := oi H167
      exact ⟨_, (.tup [(e_api_Msg c168), (eErr v166)]), (ares_2 (ares_cell hH 3 rfl rfl rfl) rfl), (wk_tup (.cons wr (.cons wr .nil))), .of_eq (by simp only [cutAV, cutL, enc44.cut _ _ _, encErr.cut _ _ _]), ((((hH.noT.drop n66).drop n42).drop n40).drop n2)⟩
     ·refine awp_skip (sr rfl (wpo_rd (a := (e_api_Msg s77.2.1)) rfl rfl rfl (h_ld tk hH 1 rfl rfl rfl) ?_))
      obtain ⟨c171, hc172, H170⟩ := lt_ex H160
      refine wpo_z rfl rfl (h_st tk hH 3 rfl ty44 (by simp) rfl rfl wr (b := (e_api_Msg s77.2.1)) (enc44.flat _) rfl (nb rfl) (c_api_Msg c171) (by rw [← hc172]; rfl)) fun τ hH => ?_
      refine ma tk (eErr Err.nil) rfl rfl (wpo_nil (awp_ret ?_))
      obtain rfl := oi H170
      exact ⟨_, (.tup [(e_api_Msg c171), (eErr Err.nil)]), (ares_2 (ares_cell hH 3 rfl rfl rfl) rfl), (wk_tup (.cons wr (.cons wr .nil))), .of_eq (by simp only [cutAV, cutL, enc44.cut _ _ _, encErr.cut _ _ _]), ((((hH.noT.drop n66).drop n42).drop n40).drop n2)⟩
   ·refine awp_loopO (body := fun s => wire_Get_b0 x0 s.1 s.2.1 s.2.2) hs71 (fun (s : (List (BitVec 8) × Nat) × api_Msg × octets_Reader) fr τ => WkF fr (fm [(0, ((eL 1 (@eU .u8 8)) x0)), (2, (.ref id1 0)), (4, (.ref id39 0)), (5, (.ref id41 0)), (45, (.spc id65))]) ∧ Holds σ [(id65, (cIt s.1)), (id41, (c_api_Msg s.2.1)), (id39, (c_octets_Reader s.2.2)), (id1, (c_api_Msg z_api_Msg))] [] τ) ⟨(wc (wc (wc (wc (wc (wkf_nil _)))))), hH⟩ ?_
    rintro ⟨c67, c68, c69⟩ fr τ y73 ⟨hfr, hH⟩ hb75 hy76
    have H78 : wire_Get_b0 x0 c67 c68 c69 = some y73 := hb75
    unfold wire_Get_b0 at H78
    refine AWP.fm [(0, ((eL 1 (@eU .u8 8)) x0)), (2, (.ref id1 0)), (4, (.ref id39 0)), (5, (.ref id41 0)), (45, (.spc id65))] hfr ?_
    have hH : Holds σ [(id65, (cIt c67)), (id41, (c_api_Msg c68)), (id39, (c_octets_Reader c69)), (id1, (c_api_Msg z_api_Msg))] [] τ := hH
    refine sr rfl ?_
    obtain ⟨v80, hv81, H79⟩ := ob H78
    rcases v80 with _ | c82
    ·rw [Option.elim_none] at H79
     refine wpo_a (av := fun _ => .tup [eB false]) rfl rfl rfl (h_next0 hH 0 hv81 rfl rfl) fun _ τ hH => ?_
     refine m_ (eB false) rfl (o_ext tk rfl rfl) (wpo_nil (awp_seq ?_))
     refine awp_false rfl ?_
     refine awp_exit ?_
     have hz := hy76 _ (inj_inr H79)
     subst hz
     exact ⟨⟨_, inj_inr H79⟩, (wc (wc (wc (wc (wkf_nil _))))), hH⟩
    ·rw [Option.elim_some] at H79
     refine wpo_a (av := fun _ => .tup [eB true, eI (c67.2 : Int), eK .i32 c82]) rfl rfl rfl (h_next1 hH 0 hv81 rfl rfl) fun _ τ (hH : Holds σ [(id65, (cIt (c67.1, c67.2 + 1))), (id41, (c_api_Msg c68)), (id39, (c_octets_Reader c69)), (id1, (c_api_Msg z_api_Msg))] [] τ) => ?_
     refine m_ (eB true) rfl (o_ext tk rfl rfl) (wpo_nil (awp_seq ?_))
     refine awp_true rfl ?_
     refine awp_skip (awp_block (sr rfl (m_ ((eK .i32) c82) rfl (o_ext tk rfl rfl) (ma tk ((eK .i32) c82) rfl rfl (wpo_nil (awp_seq (sr rfl (mm tk (.ref id39 0) rfl rfl ?_))))))))
     refine wpo_bdr H79 eI rfl rfl rfl (fun v84 hv => h_callr rfl rfl (.cons wr .nil) (octets_Reader_Code_ok hv _ (hH.at_ 2 rfl))) fun v84 hv84 H83 => ?_
     refine l_ H83 eB rfl (o_ar tk rfl rfl rfl) fun v86 H85 => ?_
     refine wpo_nil ?_
     refine awp_if H85 rfl (fun H87 => ?_) (fun H87 => ?_)
     ·refine awp_exit ?_
      have hz := hy76 _ (inj_inr H87)
      subst hz
      exact ⟨⟨_, inj_inr H87⟩, (wc (wc (wc (wc (wkf_nil _))))), hH⟩
     ·refine awp_skip (sr rfl (mm tk ((eK .i32) c82) rfl rfl (wpo_nil (awp_block (sr rfl ?_)))))
      refine l_ H87 eB rfl (o_ar tk rfl rfl rfl) fun v89 H88 => ?_
      refine ma tk (eB v89) rfl rfl (wpo_nil ?_)
      refine awp_if H88 rfl (fun H90 => ?_) (fun H90 => ?_)
      ·refine awp_region rfl (mm tk (.ref id39 0) rfl rfl ?_)
       refine wpo_cb H90 (fun x _ => eI x.1) rfl rfl rfl (fun v92 hv => h_call1 hH [(2, (id39, (c_octets_Reader v92.2)))] ⟨⟨_, rfl⟩, trivial⟩ rfl rfl (.cons wr (.cons wr .nil)) (octets_Reader_Number_ok hv _ (hH.at_ 2 rfl))) fun v92 _ τ hv92 H91 hH => ?_
       refine mc tk (.ref id41 4) rfl rfl (fun _ => rfl) ?_
       obtain ⟨c94, hc95, H93⟩ := lt_ex H91
       refine wpo_z rfl rfl (h_st tk hH 1 rfl ty3 (by simp) rfl rfl wr (b := (eI v92.1)) rfl rfl (nb rfl) (c_api_Msg c94) (by rw [← hc95]; rfl)) fun τ hH => ?_
       refine wpo_nil ?_
       exact ⟨((c67.1, c67.2 + 1), c94, v92.2), inj_inl H93, (wc (wc (wc (wc (wc (wkf_nil _)))))), hH⟩
      ·refine sr rfl ?_
       refine l_ H90 eB rfl (o_ar tk rfl rfl rfl) fun v97 H96 => ?_
       refine ma tk (eB v97) rfl rfl (wpo_nil ?_)
       refine awp_if H96 rfl (fun H98 => ?_) (fun H98 => ?_)
       ·refine awp_region rfl (mm tk (.ref id39 0) rfl rfl ?_)
        refine wpo_cb H98 (fun x _ => (eL 1 (@eU .u8 8)) x.1) rfl rfl rfl (fun v100 hv => h_call1 hH [(2, (id39, (c_octets_Reader v100.2)))] ⟨⟨_, rfl⟩, trivial⟩ rfl rfl (.cons wr (.cons wr .nil)) (octets_Reader_Bytes_ok hv _ (hH.at_ 2 rfl))) fun v100 _ τ hv100 H99 hH => ?_
        refine m_ (eS v100.1) rfl (o_b2s tk td40 td9 td5 rfl) (mc tk (.ref id41 5) rfl rfl (fun _ => rfl) (mc tk (.ref id41 5) rfl rfl (fun _ => rfl) ?_))
        obtain ⟨c102, hc103, H101⟩ := lt_ex H99
        refine wpo_z rfl rfl (h_st tk hH 1 rfl ty9 (by simp) rfl rfl wr (b := (eS v100.1)) rfl rfl (nb rfl) (c_api_Msg c102) (by rw [← hc103]; rfl)) fun τ hH => ?_
        refine wpo_nil ?_
        exact ⟨((c67.1, c67.2 + 1), c102, v100.2), inj_inl H101, (wc (wc (wc (wc (wc (wkf_nil _)))))), hH⟩
       ·refine sr rfl ?_
        refine l_ H98 eB rfl (o_ar tk rfl rfl rfl) fun v105 H104 => ?_
        refine ma tk (eB v105) rfl rfl (wpo_nil ?_)
        refine awp_if H104 rfl (fun H106 => ?_) (fun H106 => ?_)
        ·refine awp_region rfl (mm tk (.ref id39 0) rfl rfl ?_)
         refine wpo_cb H106 (fun x _ => eI x.1) rfl rfl rfl (fun v108 hv => h_call1 hH [(2, (id39, (c_octets_Reader v108.2)))] ⟨⟨_, rfl⟩, trivial⟩ rfl rfl (.cons wr (.cons wr .nil)) (octets_Reader_Number_ok hv _ (hH.at_ 2 rfl))) fun v108 _ τ hv108 H107 hH => ?_
         refine mc tk (.ref id41 5) rfl rfl (fun _ => rfl) (mc tk (.ref id41 7) rfl rfl (fun _ => rfl) ?_)
         obtain ⟨c110, hc111, H109⟩ := lt_ex H107
         refine wpo_z rfl rfl (h_st tk hH 1 rfl ty3 (by simp) rfl rfl wr (b := (eI v108.1)) rfl rfl (nb rfl) (c_api_Msg c110) (by rw [← hc111]; rfl)) fun τ hH => ?_
         refine wpo_nil ?_
         exact ⟨((c67.1, c67.2 + 1), c110, v108.2), inj_inl H109, (wc (wc (wc (wc (wc (wkf_nil _)))))), hH⟩
        ·refine sr rfl ?_
         refine l_ H106 eB rfl (o_ar tk rfl rfl rfl) fun v113 H112 => ?_
         refine ma tk (eB v113) rfl rfl (wpo_nil ?_)
         refine awp_if H112 rfl (fun H114 => ?_) (fun H114 => ?_)
         ·refine awp_region rfl (mm tk (.ref id39 0) rfl rfl ?_)
          refine wpo_cb H114 (fun x _ => eI x.1) rfl rfl rfl (fun v116 hv => h_call1 hH [(2, (id39, (c_octets_Reader v116.2)))] ⟨⟨_, rfl⟩, trivial⟩ rfl rfl (.cons wr (.cons wr .nil)) (octets_Reader_Number_ok hv _ (hH.at_ 2 rfl))) fun v116 _ τ hv116 H115 hH => ?_
          refine l_ H115 eB rfl (o_ar tk rfl rfl rfl) fun v118 H117 => ?_
          refine mc tk (.ref id41 10) rfl rfl (fun _ => rfl) ?_
          obtain ⟨c120, hc121, H119⟩ := lt_ex H117
          refine wpo_z rfl rfl (h_st tk hH 1 rfl ty4 (by simp) rfl rfl wr (b := (eB v118)) rfl rfl (nb rfl) (c_api_Msg c120) (by rw [← hc121]; rfl)) fun τ hH => ?_
          refine wpo_nil ?_
          exact ⟨((c67.1, c67.2 + 1), c120, v116.2), inj_inl H119, (wc (wc (wc (wc (wc (wkf_nil _)))))), hH⟩
         ·refine sr rfl ?_
          refine l_ H114 eB rfl (o_ar tk rfl rfl rfl) fun v123 H122 => ?_
          refine ma tk (eB v123) rfl rfl (wpo_nil ?_)
          refine awp_if H122 rfl (fun H124 => ?_) (fun H124 => ?_)
          ·refine sr rfl (mc tk (.ref id41 10) rfl rfl (fun _ => rfl) (wpo_rd (a := (eB c68.Found)) rfl rfl rfl (h_ld tk hH 1 rfl rfl rfl) (wpo_nil ?_)))
           refine awp_if H124 rfl (fun H125 => ?_) (fun H125 => ?_)
           ·refine sr rfl (mm tk (.ref id39 0) rfl rfl ?_)
            refine wpo_cb H125 (fun x _ => eI x.1) rfl rfl rfl (fun v127 hv => h_call1 hH [(2, (id39, (c_octets_Reader v127.2)))] ⟨⟨_, rfl⟩, trivial⟩ rfl rfl (.cons wr (.cons wr .nil)) (octets_Reader_Number_ok hv _ (hH.at_ 2 rfl))) fun v127 _ τ hv127 H126 hH => ?_
            refine mm tk (.ref id39 0) rfl rfl ?_
            refine wpo_cb H126 (fun x _ => eI x.1) rfl rfl rfl (fun v129 hv => h_call1 hH [(2, (id39, (c_octets_Reader v129.2)))] ⟨⟨_, rfl⟩, trivial⟩ rfl rfl (.cons wr (.cons wr .nil)) (octets_Reader_Number_ok hv _ (hH.at_ 2 rfl))) fun v129 _ τ hv129 H128 hH => ?_
            refine mc tk (.ref id41 5) rfl rfl (fun _ => rfl) (mc tk (.ref id41 6) rfl rfl (fun _ => rfl) ?_)
            obtain ⟨c131, hc132, H130⟩ := lt_ex H128
            refine wpo_z rfl rfl (h_st tk hH 1 rfl ty3 (by simp) rfl rfl wr (b := (eI v127.1)) rfl rfl (nb rfl) (c_api_Msg c131) (by rw [← hc132]; rfl)) fun τ hH => ?_
            refine mc tk (.ref id41 5) rfl rfl (fun _ => rfl) (mc tk (.ref id41 8) rfl rfl (fun _ => rfl) ?_)
            obtain ⟨c134, hc135, H133⟩ := lt_ex H130
            refine wpo_z rfl rfl (h_st tk hH 1 rfl ty3 (by simp) rfl rfl wr (b := (eI v129.1)) rfl rfl (nb rfl) (c_api_Msg c134) (by rw [← hc135]; rfl)) fun τ hH => ?_
            refine wpo_nil (awp_region rfl (mm tk (.ref id39 0) rfl rfl ?_))
            refine wpo_cb H133 (fun x _ => (eL 1 (@eU .u8 8)) x.1) rfl rfl rfl (fun v137 hv => h_call1 hH [(2, (id39, (c_octets_Reader v137.2)))] ⟨⟨_, rfl⟩, trivial⟩ rfl rfl (.cons wr (.cons wr .nil)) (octets_Reader_Bytes_ok hv _ (hH.at_ 2 rfl))) fun v137 _ τ hv137 H136 hH => ?_
            refine mc tk (.ref id41 5) rfl rfl (fun _ => rfl) (mc tk (.ref id41 9) rfl rfl (fun _ => rfl) ?_)
            obtain ⟨c139, hc140, H138⟩ := lt_ex H136
            refine wpo_z rfl rfl (h_st tk hH 1 rfl ty40 (by simp) rfl rfl wr (b := ((eL 1 (@eU .u8 8)) v137.1)) rfl rfl (nb rfl) (c_api_Msg c139) (by rw [← hc140]; rfl)) fun τ hH => ?_
            refine wpo_nil ?_
            exact ⟨((c67.1, c67.2 + 1), c139, v137.2), inj_inl H138, (wc (wc (wc (wc (wc (wkf_nil _)))))), hH⟩
           ·refine awp_skip ?_
            exact ⟨((c67.1, c67.2 + 1), c68, c69), inj_inl H125, (wc (wc (wc (wc (wc (wkf_nil _)))))), hH⟩
          ·refine awp_skip ?_
           exact ⟨((c67.1, c67.2 + 1), c68, c69), inj_inl H124, (wc (wc (wc (wc (wc (wkf_nil _)))))), hH⟩
theorem lines_Lines_Look_ok {x0 : lines_Lines} {x1 : Int} {r : api_Msg × Err} (H : lines_Lines_Look x0 x1 = some r) (σ : St) {p0 p0_l c_p0_l : Nat} {g_p0_l : AV} (h0 : σ.objs[p0]? = some [g_p0_l, (eI x0.lost)]) (h0_l : σ.objs[p0_l]? = some (gK e_lines_parcel c_p0_l x0.l)) (hd : [p0, p0_l].Pairwise fun a b => a ≠ b) (gg_p0_l : GG p0_l 2 c_p0_l (x0.l).length g_p0_l) : ACall Tryz.prog 27 [(.ref p0 0), (eI x1)] σ (fun a τ => a = .tup [e_api_Msg r.1, eErr r.2] ∧ τ = σ) := by
 unfold lines_Lines_Look at H
 refine ACall.pure (acall_start tk Tryz.func27 (by decide) rfl (nb rfl) ?_)
 have hH := Holds.brings (σ := σ) [(p0, [g_p0_l, (eI x0.lost)]), (p0_l, (gK e_lines_parcel c_p0_l x0.l))] (by simp only [List.mem_cons, List.not_mem_nil, or_false]; rintro _ (rfl | rfl) <;> assumption) hd
 refine sr rfl ?_
 refine wpo_a (av := fun id => .ref id 0) rfl rfl rfl (h_allocw tk hH ty44 (c_api_Msg z_api_Msg) (.cons wr (.cons wr (.cons wr (.cons wr (.cons wr (.cons wr (.cons wr (.cons wr (.cons wr (.cons (by exact wk_nils _) (.cons wr .nil)))))))))))) fun id1 τ ⟨hH, n2⟩ => ?_
 refine ma tk (eErr Err.nil) rfl rfl (wpo_nil (awp_seq (sr rfl (mm tk (.ref p0 0) rfl rfl (mm tk (eI x1) rfl rfl ?_)))))
 refine wpo_bdr H eErr rfl rfl rfl (fun v4 hv => h_callr rfl rfl (.cons wr (.cons wr (.cons wr .nil))) (lines_Lines_at_ok hv _ (hH.at_ 1 rfl) (hH.at_ 2 rfl) (hH.pw [1, 2] rfl (by decide)) gg_p0_l)) fun v4 hv4 H3 => ?_
 refine ma tk (eErr v4) rfl rfl (wpo_nil (sr rfl (mm tk (eErr v4) rfl rfl ?_)))
 refine l_ H3 eB rfl (o_err_neq tk rfl rfl rfl) fun v6 H5 => ?_
 refine wpo_nil ?_
 refine awp_if H5 rfl (fun H7 => ?_) (fun H7 => ?_)
 ·refine sr rfl ?_
  refine l_ H7 e_api_Msg rfl (o_cw tk false (a := .agg ([AV.int .i64 0] ++ [AV.int .i64 0] ++ [AV.int .i64 0] ++ [AV.int .i64 0] ++ [AV.int .i64 0] ++ [AV.str ⟨#[]⟩, AV.int .i64 0, AV.int .i64 0, AV.int .i64 0, AV.nils] ++ [AV.bool false])) rfl (fun _ => rfl) (wk_agg (WkL.append (WkL.append (WkL.append (WkL.append (WkL.append (WkL.append (.cons wr .nil) (.cons wr .nil)) (.cons wr .nil)) (.cons wr .nil)) (.cons wr .nil)) (.cons wr (.cons wr (.cons wr (.cons wr (.cons (by exact wk_nils _) .nil)))))) (.cons wr .nil)))) fun v9 H8 => ?_
  refine mm tk (eErr v4) rfl rfl ?_
  obtain ⟨c11, hc12, H10⟩ := lt_ex H8
  refine wpo_z rfl rfl (h_st tk hH 0 rfl ty44 (by simp) rfl rfl wr (b := (e_api_Msg v9)) (enc44.flat _) rfl (nb rfl) (c_api_Msg c11) (by rw [← hc12]; rfl)) fun τ hH => ?_
  refine ma tk (eErr v4) rfl rfl (wpo_nil (awp_ret ?_))
  obtain rfl := oi H10
  exact ⟨_, (.tup [(e_api_Msg c11), (eErr v4)]), (ares_2 (ares_cell hH 0 rfl rfl rfl) rfl), (wk_tup (.cons wr (.cons wr .nil))), .of_eq (by simp only [cutAV, cutL, enc44.cut _ _ _, encErr.cut _ _ _]), (((hH.noT.drop n2).unbring h0).unbring h0_l)⟩
 ·refine awp_skip (sr rfl (mm tk (.ref p0 0) rfl rfl (mc tk (.ref p0 0) rfl rfl (fun _ => rfl) (mc tk (.ref p0 0) rfl rfl (fun _ => rfl) (wpo_rd (a := (gC p0_l 2 c_p0_l (x0.l).length)) rfl rfl rfl (OpS.wkr gg_p0_l.wk (h_ld tk hH 1 rfl rfl rfl)) (mm tk (eI x1) rfl rfl ?_))))))
  refine b_ H7 (fun _ => .ref p0_l (0 + (x1 : Int).toNat * 2 + 0)) rfl (fun v14 hv => o_gvecx tk hv td56 sz68 (by decide) rfl rfl) fun v14 hv14 H13 => ?_
  refine mc tk (.ref p0_l (0 + (x1 : Int).toNat * 2 + 0)) rfl rfl (fun _ => rfl) ?_
  refine wpo_bdr H13 (fun y => (eL 1 (@eU .u8 8)) y.b) rfl rfl rfl (fun v16 hv => h_ldxG tk hH 2 hv rfl enc68 rfl (by decide) rfl) fun v16 hv16 H15 => ?_
  refine b_ H15 (fun r => .tup [e_api_Msg r.1, eErr r.2]) rfl (fun v18 hv => OpP.of_call rfl rfl (.cons wr .nil) (wire_Get_ok hv)) fun v18 hv18 H17 => ?_
  refine mm tk (.tup [(e_api_Msg v18.1), (eErr v18.2)]) rfl rfl (m_ (e_api_Msg v18.1) rfl (o_ext tk rfl rfl) (m_ (eErr v18.2) rfl (o_ext tk rfl rfl) ?_))
  refine wpo_a (av := fun id => .ref id 0) rfl rfl rfl (h_allocw tk hH ty44 (c_api_Msg z_api_Msg) (.cons wr (.cons wr (.cons wr (.cons wr (.cons wr (.cons wr (.cons wr (.cons wr (.cons wr (.cons (by exact wk_nils _) (.cons wr .nil)))))))))))) fun id19 τ ⟨hH, n20⟩ => ?_
  obtain ⟨c22, hc23, H21⟩ := lt_ex H17
  refine wpo_z rfl rfl (h_st tk hH 0 rfl ty44 (by simp) rfl rfl wr (b := (e_api_Msg v18.1)) (enc44.flat _) rfl (nb rfl) (c_api_Msg c22) (by rw [← hc23]; rfl)) fun τ hH => ?_
  refine ma tk (eErr v18.2) rfl rfl (wpo_nil (awp_seq ?_))
  refine awp_drawS mixed [4] rfl (by decide +kernel) rfl rfl ?_
  refine wpdS_rd (a := (e_api_Msg c22)) rfl (by decide +kernel) rfl rfl (h_ld tk hH 0 rfl rfl rfl) (wpdS_mv (a := (eI x1)) rfl rfl rfl (o_mv tk rfl (Wk.refl _)) (wpdS_mv (a := (eErr v18.2)) rfl rfl rfl (o_mv tk rfl (Wk.refl _)) ?_))
  refine wpdS_bd H21 eErr rfl rfl rfl (fun v25 hv => OpP.of_call rfl rfl (.cons wr (.cons wr (.cons wr .nil))) (trouble_Wrap_ok hv)) fun v25 hv25 H24 => ?_
  obtain ⟨c27, hc28, H26⟩ := lt_ex H24
  refine wpdS_z rfl rfl rfl (h_st tk hH 1 rfl ty44 (by simp) rfl rfl wr (b := (e_api_Msg c22)) (enc44.flat _) rfl (nb rfl) (c_api_Msg c27) (by rw [← hc28]; rfl)) fun τ hH => ?_
  refine wpdS_mv (a := (eErr v25)) rfl rfl rfl (o_as tk rfl (Wk.refl _)) (wpdS_nil (awp_ret ?_))
  obtain rfl := oi H26
  exact ⟨_, (.tup [(e_api_Msg c27), (eErr v25)]), (ares_2 (ares_cell hH 1 rfl rfl rfl) rfl), (wk_tup (.cons wr (.cons wr .nil))), .of_eq (by simp only [cutAV, cutL, enc44.cut _ _ _, encErr.cut _ _ _]), ((((hH.noT.drop n20).drop n2).unbring h0).unbring h0_l)⟩
theorem lines_Lines_All_ok {x0 : lines_Lines} {r : (List api_Msg)} (H : lines_Lines_All x0 = some r) (σ : St) {p0 p0_l c_p0_l : Nat} {g_p0_l : AV} (h0 : σ.objs[p0]? = some [g_p0_l, (eI x0.lost)]) (h0_l : σ.objs[p0_l]? = some (gK e_lines_parcel c_p0_l x0.l)) (hd : [p0, p0_l].Pairwise fun a b => a ≠ b) (gg_p0_l : GG p0_l 2 c_p0_l (x0.l).length g_p0_l) : ACall Tryz.prog 11 [(.ref p0 0)] σ (fun a τ => a = (eL 11 e_api_Msg) r ∧ τ = σ) := by
 unfold lines_Lines_All at H
 refine ACall.pure (acall_start tk Tryz.func11 (by decide) rfl (nb rfl) ?_)
 have hH := Holds.brings (σ := σ) [(p0, [g_p0_l, (eI x0.lost)]), (p0_l, (gK e_lines_parcel c_p0_l x0.l))] (by simp only [List.mem_cons, List.not_mem_nil, or_false]; rintro _ (rfl | rfl) <;> assumption) hd
 refine sr rfl (ma tk AV.nils rfl rfl (wpo_nil (sr rfl (ma tk AV.nils rfl rfl (wpo_nil (awp_seq (sr rfl (mm tk (.ref p0 0) rfl rfl ?_))))))))
 refine mc tk (.ref p0 0) rfl rfl (fun _ => rfl) (mc tk (.ref p0 0) rfl rfl (fun _ => rfl) (wpo_rd (a := (gC p0_l 2 c_p0_l (x0.l).length)) rfl rfl rfl (OpS.wkr gg_p0_l.wk (h_ld tk hH 0 rfl rfl rfl)) ?_))
 refine l_ H eI rfl (o_glen tk td56 rfl) fun v2 H1 => ?_
 refine mm tk (eI (0 : Int)) rfl rfl (wpo_nil (awp_block ?_))
 refine AWP.tokN hH 3 11 rfl fun tk5 τ hH => ?_
 obtain ⟨s13, hs7, hj8⟩ := ob H1
 refine awp_cutx 0 (fun fr τ => ∃ tk_3, WkF fr (fm [(3, (eT tk_3 11 e_api_Msg s13))]) ∧ Holds σ [(p0, [g_p0_l, (eI x0.lost)]), (p0_l, (gK e_lines_parcel c_p0_l x0.l))] [tk_3] τ) ?_ ?_
 ·rintro fr τ ⟨tk_3, hfr, hH⟩
  have H53 := hj8
  refine AWP.fm [(3, (eT tk_3 11 e_api_Msg s13))] hfr ?_
  refine sr rfl (mm tk (eT tk_3 11 e_api_Msg s13) rfl rfl (ma tk (eT tk_3 11 e_api_Msg s13) rfl rfl (wpo_nil (awp_ret ?_))))
  obtain rfl := oi H53
  exact ⟨_, ((eL 11 e_api_Msg) s13), rfl, wk_no, .of_eq ((enc_l td27 sz27 enc44.cut).cut _ _ _), ((hH.noT.unbring h0).unbring h0_l)⟩
 ·refine awp_loopO (body := fun s => lines_Lines_All_b0 x0 v2 s.1 s.2) hs7 (fun (s : (List api_Msg) × Int) fr τ => ∃ tk_3, WkF fr (fm [(0, (.ref p0 0)), (3, (eT tk_3 11 e_api_Msg s.1)), (11, (gC p0_l 2 c_p0_l (x0.l).length)), (12, (eI v2)), (13, (eI s.2))]) ∧ Holds σ [(p0, [g_p0_l, (eI x0.lost)]), (p0_l, (gK e_lines_parcel c_p0_l x0.l))] [tk_3] τ) ⟨tk5, (wc (wc (wc (wc (wc (wkf_nil _)))))), hH⟩ ?_
  rintro ⟨c3, c4⟩ fr τ y9 ⟨tk_3, hfr, hH⟩ hb11 hy12
  have H14 : lines_Lines_All_b0 x0 v2 c3 c4 = some y9 := hb11
  unfold lines_Lines_All_b0 at H14
  refine AWP.fm [(0, (.ref p0 0)), (3, (eT tk_3 11 e_api_Msg c3)), (11, (gC p0_l 2 c_p0_l (x0.l).length)), (12, (eI v2)), (13, (eI c4))] hfr ?_
  have hH : Holds σ [(p0, [g_p0_l, (eI x0.lost)]), (p0_l, (gK e_lines_parcel c_p0_l x0.l))] [tk_3] τ := hH
  refine sr rfl ?_
  refine l_ H14 eB rfl (o_ar tk rfl rfl rfl) fun v16 H15 => ?_
  refine wpo_nil (awp_seq ?_)
  refine awp_if H15 rfl (fun H17 => ?_) (fun H17 => ?_)
  ·refine awp_skip (awp_seq (awp_block (sr rfl (mm tk (eI c4) rfl rfl ?_))))
   refine b_ H17 (fun _ => .ref p0_l (0 + (c4 : Int).toNat * 2 + 0)) rfl (fun v19 hv => o_gvecx tk hv td56 sz68 (by decide) rfl rfl) fun v19 hv19 H18 => ?_
   refine wpo_bdr H18 (fun y => e_lines_parcel y) rfl rfl rfl (fun v21 hv => h_ldxG tk hH 1 hv rfl enc68 (acut_enc enc68 rfl _) (by decide) rfl) fun v21 hv21 H20 => ?_
   refine wpo_a (av := fun id => .ref id 0) rfl rfl rfl (h_alloc tk hH ty68 [AV.nils, (eB z_lines_parcel.spoilt)] rfl) fun id22 τ ⟨hH, n23⟩ => ?_
   refine ma tk (eI c4) rfl rfl ?_
   refine wpo_z rfl rfl (h_st tk hH 0 rfl ty68 (by simp) rfl rfl wr (b := (e_lines_parcel v21)) (enc68.flat _) rfl (nb rfl) (c_lines_parcel (v21 : lines_parcel)) rfl) fun τ hH => ?_
   refine wpo_nil (sr rfl (mm tk (.ref p0 0) rfl rfl (mm tk (eI c4) rfl rfl ?_)))
   refine wpo_bdr H20 (fun r => .tup [e_api_Msg r.1, eErr r.2]) rfl rfl rfl (fun v26 hv => h_callr rfl rfl (.cons wr (.cons wr .nil)) (lines_Lines_Look_ok hv _ (hH.at_ 1 rfl) (hH.at_ 2 rfl) (hH.pw [1, 2] rfl (by decide)) gg_p0_l)) fun v26 hv26 H25 => ?_
   refine mm tk (.tup [(e_api_Msg v26.1), (eErr v26.2)]) rfl rfl (m_ (e_api_Msg v26.1) rfl (o_ext tk rfl rfl) (m_ (eErr v26.2) rfl (o_ext tk rfl rfl) ?_))
   refine wpo_a (av := fun id => .ref id 0) rfl rfl rfl (h_allocw tk hH ty44 (c_api_Msg z_api_Msg) (.cons wr (.cons wr (.cons wr (.cons wr (.cons wr (.cons wr (.cons wr (.cons wr (.cons wr (.cons (by exact wk_nils _) (.cons wr .nil)))))))))))) fun id27 τ ⟨hH, n28⟩ => ?_
   obtain ⟨c30, hc31, H29⟩ := lt_ex H25
   refine wpo_z rfl rfl (h_st tk hH 0 rfl ty44 (by simp) rfl rfl wr (b := (e_api_Msg v26.1)) (enc44.flat _) rfl (nb rfl) (c_api_Msg c30) (by rw [← hc31]; rfl)) fun τ hH => ?_
   refine ma tk (eErr v26.2) rfl rfl (wpo_nil (awp_seq ?_))
   obtain ⟨s32, hs34, hj35⟩ := ob H29
   refine awp_cutn (fun fr τ => ∃ tk_3, WkF fr (fm [(0, (.ref p0 0)), (3, (eT tk_3 11 e_api_Msg c3)), (6, (.ref id27 0)), (11, (gC p0_l 2 c_p0_l (x0.l).length)), (12, (eI v2)), (13, (eI c4)), (30, (eB s32))]) ∧ Holds σ [(id27, (c_api_Msg c30)), (id22, (c_lines_parcel (v21 : lines_parcel))), (p0, [g_p0_l, (eI x0.lost)]), (p0_l, (gK e_lines_parcel c_p0_l x0.l))] [tk_3] τ) ?_ ?_
   ·rintro fr τ ⟨tk_3, hfr, hH⟩
    have H41 := hj35
    refine AWP.fm [(0, (.ref p0 0)), (3, (eT tk_3 11 e_api_Msg c3)), (6, (.ref id27 0)), (11, (gC p0_l 2 c_p0_l (x0.l).length)), (12, (eI v2)), (13, (eI c4)), (30, (eB s32))] hfr ?_
    refine awp_if H41 rfl (fun H42 => ?_) (fun H42 => ?_)
    ·refine awp_region rfl (mm tk (eT tk_3 11 e_api_Msg c3) rfl rfl (wpo_rd (a := (e_api_Msg c30)) rfl rfl rfl (h_ld tk hH 0 rfl rfl rfl) ?_))
     refine l_ H42 (eF 11 e_api_Msg) rfl (o_c tk false rfl (fun _ => rfl)) fun v44 H43 => ?_
     obtain ⟨v46, hv47, H45⟩ := ob H43
     refine wpo_a (av := fun t => eT t 11 e_api_Msg v46) rfl rfl rfl (h_app tk hH 0 hv47 rfl td27 ty44 rfl (by decide) rfl (src_l td27 rfl)) fun tk48 τ hH => ?_
     refine ma tk (eT tk48 11 e_api_Msg v46) rfl rfl (wpo_nil (awp_region rfl ?_))
     refine l_ H45 eI rfl (o_ar tk rfl rfl rfl) fun v50 H49 => ?_
     refine mm tk (eI v50) rfl rfl (wpo_nil ?_)
     exact ⟨(v46, v50), inj_inl H49, tk48, (wc (wc (wc (wc (wc (wkf_nil _)))))), ((hH.drop n28).drop n23)⟩
    ·refine awp_skip (awp_region rfl ?_)
     refine l_ H42 eI rfl (o_ar tk rfl rfl rfl) fun v52 H51 => ?_
     refine mm tk (eI v52) rfl rfl (wpo_nil ?_)
     exact ⟨(c3, v52), inj_inl H51, tk_3, (wc (wc (wc (wc (wc (wkf_nil _)))))), ((hH.drop n28).drop n23)⟩
   ·refine awp_region rfl (mm tk (eErr v26.2) rfl rfl ?_)
    refine l_ hs34 eB rfl (o_err_eql tk rfl rfl rfl) fun v37 H36 => ?_
    refine mm tk (eB v37) rfl rfl ?_
    refine if_split H36 (fun hb H38 => ?_) (fun hb H38 => ?_)
    ·subst hb
     refine mc tk (.ref id22 1) rfl rfl (fun _ => rfl) (wpo_rd (a := (eB (v21 : lines_parcel).spoilt)) rfl rfl rfl (h_ld tk hH 1 rfl rfl rfl) ?_)
     refine l_ H38 eB rfl (o_un tk rfl rfl) fun v40 H39 => ?_
     refine pt tk (eB v40) rfl rfl rfl (wpo_nil ?_)
     have e := oi H39
     subst e
     exact ⟨tk_3, (wc (wc (wc (wc (wc (wc (wc (wkf_nil _)))))))), hH⟩
    ·subst hb
     refine k_ rfl (k_ rfl (k_ rfl (pf tk (eB false) rfl rfl rfl (wpo_nil ?_))))
     have e := oi H38
     subst e
     exact ⟨tk_3, (wc (wc (wc (wc (wc (wc (wc (wkf_nil _)))))))), hH⟩
  ·refine awp_exit ?_
   have hz := hy12 _ (inj_inr H17)
   subst hz
   exact ⟨⟨_, inj_inr H17⟩, tk_3, (wc (wkf_nil _)), hH⟩
theorem R26_All_app {x0 : R26_Lines} {r : (List api_Msg)} (H : R26_All x0 = some r) (σ : St)  : ACall Tryz.prog 12 [(e_R26_Lines x0)] σ (fun a τ => a = .sl (.own σ.opn.length) 11 (r.map e_api_Msg) ∧ τ = σ.more) := by
 unfold R26_All at H
 refine ACall.app (fun ρ κ => cutL_enc enc44.cut ρ κ r) (acall_start tk Tryz.func12 (by decide) rfl (nb rfl) ?_)
 have hH := Holds.init σ
 refine sr rfl (m_ (.fptr (c_R26_Lines x0) 0) rfl (o_boxf tk rfl wr (b := (e_R26_Lines x0)) (enc30.flat _)) (ma tk AV.nils rfl rfl (wpo_nil (sr rfl (ma tk AV.nils rfl rfl (wpo_nil (awp_seq (sr rfl ?_))))))))
 refine ma tk (eI (0 : Int)) rfl rfl (wpo_nil (awp_block ?_))
 refine AWP.tokN hH 3 11 rfl fun tk3 τ hH => ?_
 obtain ⟨s11, hs5, hj6⟩ := ob H
 refine awp_cutx 0 (fun fr τ => ∃ tk_3, WkF fr (fm [(3, (eT tk_3 11 e_api_Msg s11))]) ∧ Holds σ [] [tk_3] τ) ?_ ?_
 ·rintro fr τ ⟨tk_3, hfr, hH⟩
  have H35 := hj6
  refine AWP.fm [(3, (eT tk_3 11 e_api_Msg s11))] hfr ?_
  refine sr rfl (mm tk (eT tk_3 11 e_api_Msg s11) rfl rfl (ma tk (eT tk_3 11 e_api_Msg s11) rfl rfl (wpo_nil (awp_ret ?_))))
  obtain rfl := oi H35
  exact ⟨_, (eT tk_3 11 e_api_Msg s11), rfl, .of_eq rfl, tk_3, rfl, hH⟩
 ·refine awp_loopO (body := fun s => R26_All_b0 x0 s.1 s.2) hs5 (fun (s : (List api_Msg) × Int) fr τ => ∃ tk_3, WkF fr (fm [(1, (.fptr (c_R26_Lines x0) 0)), (3, (eT tk_3 11 e_api_Msg s.1)), (4, (eI s.2))]) ∧ Holds σ [] [tk_3] τ) ⟨tk3, (wc (wc (wc (wkf_nil _)))), hH⟩ ?_
  rintro ⟨c1, c2⟩ fr τ y7 ⟨tk_3, hfr, hH⟩ hb9 hy10
  have H12 : R26_All_b0 x0 c1 c2 = some y7 := hb9
  unfold R26_All_b0 at H12
  refine AWP.fm [(1, (.fptr (c_R26_Lines x0) 0)), (3, (eT tk_3 11 e_api_Msg c1)), (4, (eI c2))] hfr ?_
  have hH : Holds σ [] [tk_3] τ := hH
  refine awp_seq (sr rfl (mm tk (eI c2) rfl rfl (mc tk (.fptr (c_R26_Lines x0) 0) rfl rfl (fun _ => rfl) (m_ ((eL 11 e_api_Msg) x0.L) rfl (o_ld tk rfl rfl) ?_))))
  refine l_ H12 eI rfl (o_len tk td27 rfl) fun v14 H13 => ?_
  refine l_ H13 eB rfl (o_ar tk rfl rfl rfl) fun v16 H15 => ?_
  refine wpo_nil ?_
  refine awp_if H15 rfl (fun H17 => ?_) (fun H17 => ?_)
  ·refine awp_skip (awp_seq (awp_block (sr rfl (mc tk (.fptr (c_R26_Lines x0) 1) rfl rfl (fun _ => rfl) (m_ ((eL 1 eB) x0.Bad) rfl (o_ld tk rfl rfl) (mm tk (eI c2) rfl rfl ?_))))))
   refine b_ H17 (fun y => .fptr (eB y).cells 0) rfl (fun v19 hv => o_ixa tk hv td28 (enc_b td4 sz4) rfl rfl) fun v19 hv19 H18 => ?_
   refine m_ (eB v19) rfl (o_ld_e tk (enc_b td4 sz4) rfl rfl) ?_
   refine l_ H18 eB rfl (o_un tk rfl rfl) fun v21 H20 => ?_
   refine wpo_nil ?_
   refine awp_if H20 rfl (fun H22 => ?_) (fun H22 => ?_)
   ·refine awp_region rfl (mm tk (eT tk_3 11 e_api_Msg c1) rfl rfl (mc tk (.fptr (c_R26_Lines x0) 0) rfl rfl (fun _ => rfl) (m_ ((eL 11 e_api_Msg) x0.L) rfl (o_ld tk rfl rfl) (mm tk (eI c2) rfl rfl ?_))))
    refine b_ H22 (fun y => .fptr (e_api_Msg y).cells 0) rfl (fun v24 hv => o_ixa tk hv td27 enc44 rfl rfl) fun v24 hv24 H23 => ?_
    refine m_ (e_api_Msg v24) rfl (o_ld_e tk enc44 rfl rfl) ?_
    refine l_ H23 (eF 11 e_api_Msg) rfl (o_c tk false rfl (fun _ => rfl)) fun v26 H25 => ?_
    obtain ⟨v28, hv29, H27⟩ := ob H25
    refine wpo_a (av := fun t => eT t 11 e_api_Msg v28) rfl rfl rfl (h_app tk hH 0 hv29 rfl td27 ty44 rfl (by decide) rfl (src_l td27 rfl)) fun tk30 τ hH => ?_
    refine ma tk (eT tk30 11 e_api_Msg v28) rfl rfl (wpo_nil (awp_region rfl (mm tk (eI c2) rfl rfl ?_)))
    refine l_ H27 eI rfl (o_ar tk rfl rfl rfl) fun v32 H31 => ?_
    refine ma tk (eI v32) rfl rfl (wpo_nil ?_)
    exact ⟨(v28, v32), inj_inl H31, tk30, (wc (wc (wc (wkf_nil _)))), hH⟩
   ·refine awp_skip (awp_region rfl (mm tk (eI c2) rfl rfl ?_))
    refine l_ H22 eI rfl (o_ar tk rfl rfl rfl) fun v34 H33 => ?_
    refine ma tk (eI v34) rfl rfl (wpo_nil ?_)
    exact ⟨(c1, v34), inj_inl H33, tk_3, (wc (wc (wc (wkf_nil _)))), hH⟩
  ·refine awp_exit ?_
   have hz := hy10 _ (inj_inr H17)
   subst hz
   exact ⟨⟨_, inj_inr H17⟩, tk_3, (wc (wkf_nil _)), hH⟩
theorem R26_All_ok {x0 : R26_Lines} {r : (List api_Msg)} (H : R26_All x0 = some r) (σ : St) : ACall Tryz.prog 12 [(e_R26_Lines x0)] σ (fun a τ => a = (eL 11 e_api_Msg) r ∧ τ = σ) := (R26_All_app H σ).unapp (fun ρ κ => cutL_enc enc44.cut ρ κ r)
theorem L06_Light_ok {x0 : List api_Entry} {r : Int} (H : L06_Light x0 = some r) (σ : St)  : ACall Tryz.prog 13 [((eL 5 e_api_Entry) x0)] σ (fun a τ => a = eI r ∧ τ = σ) := by
 unfold L06_Light at H
 refine ACall.pure (acall_start tk Tryz.func13 (by decide) rfl (nb rfl) ?_)
 have hH := Holds.init σ
 refine sr rfl (ma tk (eI (0 : Int)) rfl rfl (wpo_nil (awp_seq (sr rfl (mm tk ((eL 5 e_api_Entry) x0) rfl rfl ?_)))))
 refine l_ H eI rfl (o_len tk td39 rfl) fun v2 H1 => ?_
 refine l_ H1 eB rfl (o_ar tk rfl rfl rfl) fun v4 H3 => ?_
 refine wpo_nil ?_
 refine awp_if H3 rfl (fun H5 => ?_) (fun H5 => ?_)
 ·refine sr rfl (ma tk (eI (1 : Int)) rfl rfl (wpo_nil (awp_ret ?_)))
  obtain rfl := oi H5
  exact ⟨_, (eI (1 : Int)), rfl, wr, .of_eq ((enc_i64 td3 sz3).cut _ _ _), hH.noT⟩
 ·refine awp_skip (sr rfl (ma tk (eI (0 : Int)) rfl rfl (wpo_nil (awp_seq (sr rfl (ma tk (eI (0 : Int)) rfl rfl (wpo_nil (awp_block ?_))))))))
  obtain ⟨o8, hs9, hj10⟩ := ob H5
  refine awp_cutx 0 (fun fr τ => ∃ s15 : Unit, o8 = .inl s15 ∧ WkF fr (fm []) ∧ Holds σ [] [] τ) ?_ ?_
  ·rintro fr τ ⟨s15, rfl, hfr, hH⟩
   have H54 := hj10
   simp only [Sum.elim_inl] at H54
   refine AWP.fm [] hfr ?_
   refine sr rfl (ma tk (eI (0 : Int)) rfl rfl (wpo_nil (awp_ret ?_)))
   obtain rfl := oi H54
   exact ⟨_, (eI (0 : Int)), rfl, wr, .of_eq ((enc_i64 td3 sz3).cut _ _ _), hH.noT⟩
  ·refine awp_loopO (body := fun s => L06_Light_b0 x0 s.1 s.2) hs9 (fun (s : Int × Int) fr τ => WkF fr (fm [(0, ((eL 5 e_api_Entry) x0)), (3, (eI s.1)), (4, (eI s.2))]) ∧ Holds σ [] [] τ) ⟨(wc (wc (wc (wkf_nil _)))), hH⟩ ?_
   rintro ⟨c6, c7⟩ fr τ y11 ⟨hfr, hH⟩ hb13 hy14
   have H16 : L06_Light_b0 x0 c6 c7 = some y11 := hb13
   unfold L06_Light_b0 at H16
   refine AWP.fm [(0, ((eL 5 e_api_Entry) x0)), (3, (eI c6)), (4, (eI c7))] hfr ?_
   have hH : Holds σ [] [] τ := hH
   refine awp_seq (sr rfl (mm tk (eI c7) rfl rfl (mm tk ((eL 5 e_api_Entry) x0) rfl rfl ?_)))
   refine l_ H16 eI rfl (o_len tk td39 rfl) fun v18 H17 => ?_
   refine l_ H17 eB rfl (o_ar tk rfl rfl rfl) fun v20 H19 => ?_
   refine wpo_nil ?_
   refine awp_if H19 rfl (fun H21 => ?_) (fun H21 => ?_)
   ·refine awp_skip (awp_seq (awp_block (awp_seq (awp_seq ?_))))
    obtain ⟨s22, hs24, hj25⟩ := ob H21
    refine awp_cutn (fun fr τ => WkF fr (fm [(0, ((eL 5 e_api_Entry) x0)), (3, (eI c6)), (4, (eI c7)), (29, (eB s22))]) ∧ Holds σ [] [] τ) ?_ ?_
    ·rintro fr τ ⟨hfr, hH⟩
     have H39 := hj25
     refine AWP.fm [(0, ((eL 5 e_api_Entry) x0)), (3, (eI c6)), (4, (eI c7)), (29, (eB s22))] hfr ?_
     refine awp_if H39 rfl (fun H40 => ?_) (fun H40 => ?_)
     ·refine sr rfl (ma tk (eI (1 : Int)) rfl rfl (wpo_nil (awp_ret ?_)))
      have hz := hy14 _ (inj_inr H40)
      refine ⟨⟨_, inj_inr H40⟩, ?_⟩
      rw [← hz] at hj10
      have H41 := (show some _ = some _ from hj10)
      obtain rfl := oi H41
      exact ⟨_, (eI (1 : Int)), rfl, wr, .of_eq ((enc_i64 td3 sz3).cut _ _ _), hH.noT⟩
     ·refine awp_skip (sr rfl (mm tk (eI c6) rfl rfl (mm tk ((eL 5 e_api_Entry) x0) rfl rfl (mm tk (eI c7) rfl rfl ?_))))
      refine b_ H40 (fun y => .fptr (e_api_Entry y).cells 0) rfl (fun v43 hv => o_ixa tk hv td39 enc42 rfl rfl) fun v43 hv43 H42 => ?_
      refine mc tk (.fptr (c_api_Entry v43) 4) rfl rfl (fun _ => rfl) (m_ ((eL 1 (@eU .u8 8)) v43.Value) rfl (o_ld tk rfl rfl) ?_)
      refine l_ H42 eI rfl (o_len tk td40 rfl) fun v45 H44 => ?_
      refine l_ H44 eI rfl (o_ar tk rfl rfl rfl) fun v47 H46 => ?_
      refine ma tk (eI v47) rfl rfl (wpo_nil (sr rfl (mm tk (eI v47) rfl rfl ?_)))
      refine l_ H46 eB rfl (o_ar tk rfl rfl rfl) fun v49 H48 => ?_
      refine wpo_nil ?_
      refine awp_if H48 rfl (fun H50 => ?_) (fun H50 => ?_)
      ·refine sr rfl (ma tk (eI (1 : Int)) rfl rfl (wpo_nil (awp_ret ?_)))
       have hz := hy14 _ (inj_inr H50)
       refine ⟨⟨_, inj_inr H50⟩, ?_⟩
       rw [← hz] at hj10
       have H51 := (show some _ = some _ from hj10)
       obtain rfl := oi H51
       exact ⟨_, (eI (1 : Int)), rfl, wr, .of_eq ((enc_i64 td3 sz3).cut _ _ _), hH.noT⟩
      ·refine awp_skip (awp_region rfl (mm tk (eI c7) rfl rfl ?_))
       refine l_ H50 eI rfl (o_ar tk rfl rfl rfl) fun v53 H52 => ?_
       refine ma tk (eI v53) rfl rfl (wpo_nil ?_)
       exact ⟨(v47, v53), inj_inl H52, (wc (wc (wc (wkf_nil _)))), hH⟩
    ·refine awp_region rfl (mm tk ((eL 5 e_api_Entry) x0) rfl rfl (mm tk (eI c7) rfl rfl ?_))
     refine b_ hs24 (fun y => .fptr (e_api_Entry y).cells 0) rfl (fun v27 hv => o_ixa tk hv td39 enc42 rfl rfl) fun v27 hv27 H26 => ?_
     refine mc tk (.fptr (c_api_Entry v27) 0) rfl rfl (fun _ => rfl) (m_ (eS v27.Key) rfl (o_ld tk rfl rfl) ?_)
     refine l_ H26 eI rfl (o_len_s tk td9 rfl) fun v29 H28 => ?_
     refine l_ H28 eB rfl (o_ar tk rfl rfl rfl) fun v31 H30 => ?_
     refine mm tk (eB v31) rfl rfl ?_
     refine if_split H30 (fun hb H32 => ?_) (fun hb H32 => ?_)
     ·subst hb
      refine k_ rfl (k_ rfl (k_ rfl (k_ rfl (k_ rfl (k_ rfl (k_ rfl (pt tk (eB true) rfl rfl rfl (wpo_nil ?_))))))))
      have e := oi H32
      subst e
      exact ⟨(wc (wc (wc (wc (wkf_nil _))))), hH⟩
     ·subst hb
      refine mm tk ((eL 5 e_api_Entry) x0) rfl rfl (mm tk (eI c7) rfl rfl ?_)
      refine b_ H32 (fun y => .fptr (e_api_Entry y).cells 0) rfl (fun v34 hv => o_ixa tk hv td39 enc42 rfl rfl) fun v34 hv34 H33 => ?_
      refine mc tk (.fptr (c_api_Entry v34) 4) rfl rfl (fun _ => rfl) (m_ ((eL 1 (@eU .u8 8)) v34.Value) rfl (o_ld tk rfl rfl) ?_)
      refine l_ H33 eI rfl (o_len tk td40 rfl) fun v36 H35 => ?_
      refine l_ H35 eB rfl (o_ar tk rfl rfl rfl) fun v38 H37 => ?_
      refine pf tk (eB v38) rfl rfl rfl (wpo_nil ?_)
      have e := oi H37
      subst e
      exact ⟨(wc (wc (wc (wc (wkf_nil _))))), hH⟩
   ·refine awp_exit ?_
    have hz := hy14 _ (inj_inr H21)
    exact ⟨⟨_, inj_inr H21⟩, (), hz.symm, (wkf_nil _), hH⟩
theorem L26_light_ok {x0 : List L26_Op} {r : Bool} (H : L26_light x0 = some r) (σ : St)  : ACall Tryz.prog 4 [((eL 5 e_L26_Op) x0)] σ (fun a τ => a = eB r ∧ τ = σ) := by
 unfold L26_light at H
 refine ACall.pure (acall_start tk Tryz.func4 (by decide) rfl (nb rfl) ?_)
 have hH := Holds.init σ
 refine sr rfl (ma tk (eB false) rfl rfl (wpo_nil (awp_seq (sr rfl (mm tk ((eL 5 e_L26_Op) x0) rfl rfl ?_)))))
 refine l_ H eI rfl (o_len tk td22 rfl) fun v2 H1 => ?_
 refine l_ H1 eB rfl (o_ar tk rfl rfl rfl) fun v4 H3 => ?_
 refine wpo_nil ?_
 refine awp_if H3 rfl (fun H5 => ?_) (fun H5 => ?_)
 ·refine sr rfl (ma tk (eB false) rfl rfl (wpo_nil (awp_ret ?_)))
  obtain rfl := oi H5
  exact ⟨_, (eB false), rfl, wr, .of_eq ((enc_b td4 sz4).cut _ _ _), hH.noT⟩
 ·refine awp_skip (sr rfl (ma tk (eI (0 : Int)) rfl rfl (wpo_nil (awp_seq (sr rfl (ma tk (eI (0 : Int)) rfl rfl (wpo_nil (awp_block ?_))))))))
  obtain ⟨o8, hs9, hj10⟩ := ob H5
  refine awp_cutx 0 (fun fr τ => ∃ s15 : Unit, o8 = .inl s15 ∧ WkF fr (fm []) ∧ Holds σ [] [] τ) ?_ ?_
  ·rintro fr τ ⟨s15, rfl, hfr, hH⟩
   have H92 := hj10
   simp only [Sum.elim_inl] at H92
   refine AWP.fm [] hfr ?_
   refine sr rfl (ma tk (eB true) rfl rfl (wpo_nil (awp_ret ?_)))
   obtain rfl := oi H92
   exact ⟨_, (eB true), rfl, wr, .of_eq ((enc_b td4 sz4).cut _ _ _), hH.noT⟩
  ·refine awp_loopO (body := fun s => L26_light_b0 x0 s.1 s.2) hs9 (fun (s : Int × Int) fr τ => WkF fr (fm [(0, ((eL 5 e_L26_Op) x0)), (3, (eI s.1)), (4, (eI s.2))]) ∧ Holds σ [] [] τ) ⟨(wc (wc (wc (wkf_nil _)))), hH⟩ ?_
   rintro ⟨c6, c7⟩ fr τ y11 ⟨hfr, hH⟩ hb13 hy14
   have H16 : L26_light_b0 x0 c6 c7 = some y11 := hb13
   unfold L26_light_b0 at H16
   refine AWP.fm [(0, ((eL 5 e_L26_Op) x0)), (3, (eI c6)), (4, (eI c7))] hfr ?_
   have hH : Holds σ [] [] τ := hH
   refine awp_seq (sr rfl (mm tk (eI c7) rfl rfl (mm tk ((eL 5 e_L26_Op) x0) rfl rfl ?_)))
   refine l_ H16 eI rfl (o_len tk td22 rfl) fun v18 H17 => ?_
   refine l_ H17 eB rfl (o_ar tk rfl rfl rfl) fun v20 H19 => ?_
   refine wpo_nil ?_
   refine awp_if H19 rfl (fun H21 => ?_) (fun H21 => ?_)
   ·refine awp_skip (awp_seq (awp_block (sr rfl (mm tk (eI c6) rfl rfl (mm tk ((eL 5 e_L26_Op) x0) rfl rfl (mm tk (eI c7) rfl rfl ?_))))))
    refine b_ H21 (fun y => .fptr (e_L26_Op y).cells 0) rfl (fun v23 hv => o_ixa tk hv td22 enc34 rfl rfl) fun v23 hv23 H22 => ?_
    refine mc tk (.fptr (c_L26_Op v23) 1) rfl rfl (fun _ => rfl) (m_ ((eL 11 e_api_Msg) v23.L) rfl (o_ld tk rfl rfl) ?_)
    refine l_ H22 eI rfl (o_len tk td27 rfl) fun v25 H24 => ?_
    refine l_ H24 eI rfl (o_ar tk rfl rfl rfl) fun v27 H26 => ?_
    refine ma tk (eI v27) rfl rfl (wpo_nil (awp_seq (sr rfl (mm tk (eI v27) rfl rfl ?_))))
    refine l_ H26 eB rfl (o_ar tk rfl rfl rfl) fun v29 H28 => ?_
    refine wpo_nil ?_
    refine awp_if H28 rfl (fun H30 => ?_) (fun H30 => ?_)
    ·refine sr rfl (ma tk (eB false) rfl rfl (wpo_nil (awp_ret ?_)))
     have hz := hy14 _ (inj_inr H30)
     refine ⟨⟨_, inj_inr H30⟩, ?_⟩
     rw [← hz] at hj10
     have H31 := (show some _ = some _ from hj10)
     obtain rfl := oi H31
     exact ⟨_, (eB false), rfl, wr, .of_eq ((enc_b td4 sz4).cut _ _ _), hH.noT⟩
    ·refine awp_skip (sr rfl (ma tk AV.nils rfl rfl (wpo_nil (awp_seq (sr rfl (ma tk (eI (0 : Int)) rfl rfl (wpo_nil (awp_block ?_))))))))
     refine AWP.tokN hH 5 5 rfl fun tk34 τ hH => ?_
     obtain ⟨s42, hs36, hj37⟩ := ob H30
     refine awp_cutx 2 (fun fr τ => ∃ tk_5, WkF fr (fm [(0, ((eL 5 e_L26_Op) x0)), (3, (eI v27)), (4, (eI c7)), (5, (eT tk_5 5 e_api_Entry s42))]) ∧ Holds σ [] [tk_5] τ) ?_ ?_
     ·rintro fr τ ⟨tk_5, hfr, hH⟩
      have H71 := hj37
      refine AWP.fm [(0, ((eL 5 e_L26_Op) x0)), (3, (eI v27)), (4, (eI c7)), (5, (eT tk_5 5 e_api_Entry s42))] hfr ?_
      refine awp_seq ?_
      obtain ⟨s72, hs74, hj75⟩ := ob H71
      refine awp_cutn (fun fr τ => WkF fr (fm [(0, ((eL 5 e_L26_Op) x0)), (3, (eI v27)), (4, (eI c7)), (63, (eB s72))]) ∧ Holds σ [] [] τ) ?_ ?_
      ·rintro fr τ ⟨hfr, hH⟩
       have H87 := hj75
       refine AWP.fm [(0, ((eL 5 e_L26_Op) x0)), (3, (eI v27)), (4, (eI c7)), (63, (eB s72))] hfr ?_
       refine awp_if H87 rfl (fun H88 => ?_) (fun H88 => ?_)
       ·refine sr rfl (ma tk (eB false) rfl rfl (wpo_nil (awp_ret ?_)))
        have hz := hy14 _ (inj_inr H88)
        refine ⟨⟨_, inj_inr H88⟩, ?_⟩
        rw [← hz] at hj10
        have H89 := (show some _ = some _ from hj10)
        obtain rfl := oi H89
        exact ⟨_, (eB false), rfl, wr, .of_eq ((enc_b td4 sz4).cut _ _ _), hH.noT⟩
       ·refine awp_skip (awp_region rfl (mm tk (eI c7) rfl rfl ?_))
        refine l_ H88 eI rfl (o_ar tk rfl rfl rfl) fun v91 H90 => ?_
        refine ma tk (eI v91) rfl rfl (wpo_nil ?_)
        exact ⟨(v27, v91), inj_inl H90, (wc (wc (wc (wkf_nil _)))), hH⟩
      ·refine awp_region rfl (mm tk ((eL 5 e_L26_Op) x0) rfl rfl (mm tk (eI c7) rfl rfl ?_))
       refine b_ hs74 (fun y => .fptr (e_L26_Op y).cells 0) rfl (fun v77 hv => o_ixa tk hv td22 enc34 rfl rfl) fun v77 hv77 H76 => ?_
       refine mc tk (.fptr (c_L26_Op v77) 1) rfl rfl (fun _ => rfl) (m_ ((eL 11 e_api_Msg) v77.L) rfl (o_ld tk rfl rfl) ?_)
       refine l_ H76 eI rfl (o_len tk td27 rfl) fun v79 H78 => ?_
       refine l_ H78 eB rfl (o_ar tk rfl rfl rfl) fun v81 H80 => ?_
       refine mm tk (eB v81) rfl rfl ?_
       refine if_split H80 (fun hb H82 => ?_) (fun hb H82 => ?_)
       ·subst hb
        refine k_ rfl (k_ rfl (k_ rfl (pt tk (eB true) rfl rfl rfl (wpo_nil ?_))))
        have e := oi H82
        subst e
        exact ⟨(wc (wc (wc (wc (wkf_nil _))))), hH.noT⟩
       ·subst hb
        refine mm tk (eT tk_5 5 e_api_Entry s42) rfl rfl ?_
        refine b_ H82 eI rfl (fun v84 hv => OpP.of_call rfl rfl (.cons wk_no .nil) (L06_Light_ok hv)) fun v84 hv84 H83 => ?_
        refine l_ H83 eB rfl (o_ar tk rfl rfl rfl) fun v86 H85 => ?_
        refine pf tk (eB v86) rfl rfl rfl (wpo_nil ?_)
        have e := oi H85
        subst e
        exact ⟨(wc (wc (wc (wc (wkf_nil _))))), hH.noT⟩
     ·refine awp_loopO (body := fun s => L26_light_b1 x0 c7 v27 s.1 s.2) hs36 (fun (s : (List api_Entry) × Int) fr τ => ∃ tk_5, WkF fr (fm [(0, ((eL 5 e_L26_Op) x0)), (3, (eI v27)), (4, (eI c7)), (5, (eT tk_5 5 e_api_Entry s.1)), (6, (eI s.2))]) ∧ Holds σ [] [tk_5] τ) ⟨tk34, (wc (wc (wc (wc (wc (wkf_nil _)))))), hH⟩ ?_
      rintro ⟨c32, c33⟩ fr τ y38 ⟨tk_5, hfr, hH⟩ hb40 hy41
      have H43 : L26_light_b1 x0 c7 v27 c32 c33 = some y38 := hb40
      unfold L26_light_b1 at H43
      refine AWP.fm [(0, ((eL 5 e_L26_Op) x0)), (3, (eI v27)), (4, (eI c7)), (5, (eT tk_5 5 e_api_Entry c32)), (6, (eI c33))] hfr ?_
      have hH : Holds σ [] [tk_5] τ := hH
      refine awp_seq (awp_seq ?_)
      obtain ⟨s44, hs46, hj47⟩ := ob H43
      refine awp_cutn (fun fr τ => ∃ tk_5, WkF fr (fm [(0, ((eL 5 e_L26_Op) x0)), (3, (eI v27)), (4, (eI c7)), (5, (eT tk_5 5 e_api_Entry c32)), (6, (eI c33)), (37, (eB s44))]) ∧ Holds σ [] [tk_5] τ) ?_ ?_
      ·rintro fr τ ⟨tk_5, hfr, hH⟩
       have H57 := hj47
       refine AWP.fm [(0, ((eL 5 e_L26_Op) x0)), (3, (eI v27)), (4, (eI c7)), (5, (eT tk_5 5 e_api_Entry c32)), (6, (eI c33)), (37, (eB s44))] hfr ?_
       refine awp_if H57 rfl (fun H58 => ?_) (fun H58 => ?_)
       ·refine awp_skip (awp_seq (awp_block (awp_region rfl (mm tk (eT tk_5 5 e_api_Entry c32) rfl rfl (mm tk ((eL 5 e_L26_Op) x0) rfl rfl (mm tk (eI c7) rfl rfl ?_))))))
        refine b_ H58 (fun y => .fptr (e_L26_Op y).cells 0) rfl (fun v60 hv => o_ixa tk hv td22 enc34 rfl rfl) fun v60 hv60 H59 => ?_
        refine mc tk (.fptr (c_L26_Op v60) 1) rfl rfl (fun _ => rfl) (m_ ((eL 11 e_api_Msg) v60.L) rfl (o_ld tk rfl rfl) (mm tk (eI c33) rfl rfl ?_))
        refine b_ H59 (fun y => .fptr (e_api_Msg y).cells 0) rfl (fun v62 hv => o_ixa tk hv td27 enc44 rfl rfl) fun v62 hv62 H61 => ?_
        refine mc tk (.fptr (c_api_Msg v62) 5) rfl rfl (fun _ => rfl) (m_ (e_api_Entry v62.X) rfl (o_ld tk rfl rfl) ?_)
        refine l_ H61 (eF 5 e_api_Entry) rfl (o_c tk false rfl (fun _ => rfl)) fun v64 H63 => ?_
        obtain ⟨v66, hv67, H65⟩ := ob H63
        refine wpo_a (av := fun t => eT t 5 e_api_Entry v66) rfl rfl rfl (h_app tk hH 0 hv67 rfl td39 ty42 rfl (by decide) rfl (src_l td39 rfl)) fun tk68 τ hH => ?_
        refine ma tk (eT tk68 5 e_api_Entry v66) rfl rfl (wpo_nil (awp_region rfl (mm tk (eI c33) rfl rfl ?_)))
        refine l_ H65 eI rfl (o_ar tk rfl rfl rfl) fun v70 H69 => ?_
        refine ma tk (eI v70) rfl rfl (wpo_nil ?_)
        exact ⟨(v66, v70), inj_inl H69, tk68, (wc (wc (wc (wc (wc (wkf_nil _)))))), hH⟩
       ·refine awp_exit ?_
        have hz := hy41 _ (inj_inr H58)
        subst hz
        exact ⟨⟨_, inj_inr H58⟩, tk_5, (wc (wc (wc (wc (wkf_nil _))))), hH⟩
      ·refine awp_region rfl (mm tk (eI c33) rfl rfl (mm tk ((eL 5 e_L26_Op) x0) rfl rfl (mm tk (eI c7) rfl rfl ?_)))
       refine b_ hs46 (fun y => .fptr (e_L26_Op y).cells 0) rfl (fun v49 hv => o_ixa tk hv td22 enc34 rfl rfl) fun v49 hv49 H48 => ?_
       refine mc tk (.fptr (c_L26_Op v49) 1) rfl rfl (fun _ => rfl) (m_ ((eL 11 e_api_Msg) v49.L) rfl (o_ld tk rfl rfl) ?_)
       refine l_ H48 eI rfl (o_len tk td27 rfl) fun v51 H50 => ?_
       refine l_ H50 eB rfl (o_ar tk rfl rfl rfl) fun v53 H52 => ?_
       refine mm tk (eB v53) rfl rfl ?_
       refine if_split H52 (fun hb H54 => ?_) (fun hb H54 => ?_)
       ·subst hb
        refine mm tk (eI c33) rfl rfl ?_
        refine l_ H54 eB rfl (o_ar tk rfl rfl rfl) fun v56 H55 => ?_
        refine pt tk (eB v56) rfl rfl rfl (wpo_nil ?_)
        have e := oi H55
        subst e
        exact ⟨tk_5, (wc (wc (wc (wc (wc (wc (wkf_nil _))))))), hH⟩
       ·subst hb
        refine k_ rfl (k_ rfl (pf tk (eB false) rfl rfl rfl (wpo_nil ?_)))
        have e := oi H54
        subst e
        exact ⟨tk_5, (wc (wc (wc (wc (wc (wc (wkf_nil _))))))), hH⟩
   ·refine awp_exit ?_
    have hz := hy14 _ (inj_inr H21)
    exact ⟨⟨_, inj_inr H21⟩, (), hz.symm, (wkf_nil _), hH⟩
theorem octets_Put_app {x0 : List (BitVec 8)} {x1 : List Int} {r : (List (BitVec 8))} (H : octets_Put x0 x1 = some r) (σ : St)  : ACall Tryz.prog 44 [((eL 1 (@eU .u8 8)) x0), ((eL 1 eI) x1)] σ (fun a τ => a = .sl (.own σ.opn.length) 1 (r.map (@eU .u8 8)) ∧ τ = σ.more) := by
 unfold octets_Put at H
 refine ACall.app (fun ρ κ => cutL_enc (enc_u td5 sz5).cut ρ κ r) (acall_start tk Tryz.func44 (by decide) rfl (nb rfl) ?_)
 have hH := Holds.init σ
 refine sr rfl (ma tk AV.nils rfl rfl (wpo_nil (sr rfl (mc tk (eF 1 (@eU .u8 8) ([] : List (BitVec 8))) rfl rfl (fun _ => rfl) (mm tk ((eL 1 (@eU .u8 8)) x0) rfl rfl ?_)))))
 obtain ⟨v2, hv3, H1⟩ := ob H
 refine wpo_a (av := fun t => eT t 1 (@eU .u8 8) v2) rfl rfl rfl (h_app0 tk hH hv3 td40 ty5 rfl (by decide) (.inr rfl) (src_l td40 rfl)) fun tk4 τ hH => ?_
 refine ma tk (eT tk4 1 (@eU .u8 8) v2) rfl rfl (wpo_nil (awp_seq (sr rfl (mm tk ((eL 1 eI) x1) rfl rfl ?_))))
 refine l_ H1 eI rfl (o_len tk td113 rfl) fun v6 H5 => ?_
 refine mm tk (eI (0 : Int)) rfl rfl (wpo_nil (awp_block ?_))
 obtain ⟨s16, hs10, hj11⟩ := ob H5
 refine awp_cutx 0 (fun fr τ => ∃ tk_5, WkF fr (fm [(5, (eT tk_5 1 (@eU .u8 8) s16))]) ∧ Holds σ [] [tk_5] τ) ?_ ?_
 ·rintro fr τ ⟨tk_5, hfr, hH⟩
  have H86 := hj11
  refine AWP.fm [(5, (eT tk_5 1 (@eU .u8 8) s16))] hfr ?_
  refine sr rfl (mm tk (eT tk_5 1 (@eU .u8 8) s16) rfl rfl (ma tk (eT tk_5 1 (@eU .u8 8) s16) rfl rfl (wpo_nil (awp_ret ?_))))
  obtain rfl := oi H86
  exact ⟨_, (eT tk_5 1 (@eU .u8 8) s16), rfl, .of_eq rfl, tk_5, rfl, hH⟩
 ·refine awp_loopO (body := fun s => octets_Put_b0 x1 v6 s.1 s.2) hs10 (fun (s : (List (BitVec 8)) × Int) fr τ => ∃ tk_5, WkF fr (fm [(5, (eT tk_5 1 (@eU .u8 8) s.1)), (12, ((eL 1 eI) x1)), (13, (eI v6)), (14, (eI s.2))]) ∧ Holds σ [] [tk_5] τ) ⟨tk4, (wc (wc (wc (wc (wkf_nil _))))), hH⟩ ?_
  rintro ⟨c7, c8⟩ fr τ y12 ⟨tk_5, hfr, hH⟩ hb14 hy15
  have H17 : octets_Put_b0 x1 v6 c7 c8 = some y12 := hb14
  unfold octets_Put_b0 at H17
  refine AWP.fm [(5, (eT tk_5 1 (@eU .u8 8) c7)), (12, ((eL 1 eI) x1)), (13, (eI v6)), (14, (eI c8))] hfr ?_
  have hH : Holds σ [] [tk_5] τ := hH
  refine sr rfl ?_
  refine l_ H17 eB rfl (o_ar tk rfl rfl rfl) fun v19 H18 => ?_
  refine wpo_nil (awp_seq ?_)
  refine awp_if H18 rfl (fun H20 => ?_) (fun H20 => ?_)
  ·refine awp_skip (awp_seq (awp_block (sr rfl ?_)))
   refine b_ H20 (fun y => .fptr (eI y).cells 0) rfl (fun v22 hv => o_ixa tk hv td113 (enc_i64 td3 sz3) rfl rfl) fun v22 hv22 H21 => ?_
   refine m_ (eI v22) rfl (o_ld_e tk (enc_i64 td3 sz3) rfl rfl) (ma tk (eI v22) rfl rfl (wpo_nil (sr rfl (ma tk (eI (0 : Int)) rfl rfl (wpo_nil (awp_seq (awp_block ?_)))))))
   obtain ⟨s31, hs25, hj26⟩ := ob H21
   refine awp_cutx 2 (fun fr τ => ∃ tk_5, WkF fr (fm [(5, (eT tk_5 1 (@eU .u8 8) c7)), (7, (eI v22)), (8, (eI s31)), (12, ((eL 1 eI) x1)), (13, (eI v6)), (14, (eI c8))]) ∧ Holds σ [] [tk_5] τ) ?_ ?_
   ·rintro fr τ ⟨tk_5, hfr, hH⟩
    have H42 := hj26
    refine AWP.fm [(5, (eT tk_5 1 (@eU .u8 8) c7)), (7, (eI v22)), (8, (eI s31)), (12, ((eL 1 eI) x1)), (13, (eI v6)), (14, (eI c8))] hfr ?_
    refine awp_seq (awp_block ?_)
    obtain ⟨s52, hs46, hj47⟩ := ob H42
    refine awp_cutx 4 (fun fr τ => ∃ tk_5, WkF fr (fm [(5, (eT tk_5 1 (@eU .u8 8) s52)), (7, (eI v22)), (12, ((eL 1 eI) x1)), (13, (eI v6)), (14, (eI c8))]) ∧ Holds σ [] [tk_5] τ) ?_ ?_
    ·rintro fr τ ⟨tk_5, hfr, hH⟩
     have H73 := hj47
     refine AWP.fm [(5, (eT tk_5 1 (@eU .u8 8) s52)), (7, (eI v22)), (12, ((eL 1 eI) x1)), (13, (eI v6)), (14, (eI c8))] hfr ?_
     refine awp_region rfl (mm tk (eT tk_5 1 (@eU .u8 8) s52) rfl rfl (mm tk (eI v22) rfl rfl ?_))
     refine l_ H73 (@eU .u8 8) rfl (o_cv_iu tk td3 td5 rfl rfl) fun v75 H74 => ?_
     refine l_ H74 (@eU .u8 8) rfl (o_and_u tk rfl rfl rfl) fun v77 H76 => ?_
     refine l_ H76 (eF 1 (@eU .u8 8)) rfl (o_c tk false rfl (fun _ => rfl)) fun v79 H78 => ?_
     obtain ⟨v81, hv82, H80⟩ := ob H78
     refine wpo_a (av := fun t => eT t 1 (@eU .u8 8) v81) rfl rfl rfl (h_app tk hH 0 hv82 rfl td40 ty5 rfl (by decide) rfl (src_l td40 rfl)) fun tk83 τ hH => ?_
     refine ma tk (eT tk83 1 (@eU .u8 8) v81) rfl rfl (wpo_nil (awp_region rfl ?_))
     refine l_ H80 eI rfl (o_ar tk rfl rfl rfl) fun v85 H84 => ?_
     refine mm tk (eI v85) rfl rfl (wpo_nil ?_)
     exact ⟨(v81, v85), inj_inl H84, tk83, (wc (wc (wc (wc (wkf_nil _))))), hH⟩
    ·refine awp_loopO (body := fun s => octets_Put_b2 x1 v6 c8 v22 s.1 s.2) hs46 (fun (s : (List (BitVec 8)) × Int) fr τ => ∃ tk_5, WkF fr (fm [(5, (eT tk_5 1 (@eU .u8 8) s.1)), (7, (eI v22)), (8, (eI s.2)), (12, ((eL 1 eI) x1)), (13, (eI v6)), (14, (eI c8))]) ∧ Holds σ [] [tk_5] τ) ⟨tk_5, (wc (wc (wc (wc (wc (wc (wkf_nil _))))))), hH⟩ ?_
     rintro ⟨c43, c44⟩ fr τ y48 ⟨tk_5, hfr, hH⟩ hb50 hy51
     have H53 : octets_Put_b2 x1 v6 c8 v22 c43 c44 = some y48 := hb50
     unfold octets_Put_b2 at H53
     refine AWP.fm [(5, (eT tk_5 1 (@eU .u8 8) c43)), (7, (eI v22)), (8, (eI c44)), (12, ((eL 1 eI) x1)), (13, (eI v6)), (14, (eI c8))] hfr ?_
     have hH : Holds σ [] [tk_5] τ := hH
     refine awp_seq (sr rfl (mm tk (eI c44) rfl rfl ?_))
     refine l_ H53 eB rfl (o_ar tk rfl rfl rfl) fun v55 H54 => ?_
     refine wpo_nil ?_
     refine awp_if H54 rfl (fun H56 => ?_) (fun H56 => ?_)
     ·refine awp_skip (awp_seq (awp_block (awp_region rfl (mm tk (eT tk_5 1 (@eU .u8 8) c43) rfl rfl (mm tk (eI v22) rfl rfl (mm tk (eI c44) rfl rfl ?_))))))
      refine l_ H56 eI rfl (o_ar tk rfl rfl rfl) fun v58 H57 => ?_
      refine b_ H57 eI rfl (fun v60 hv => om_shr tk hv rfl rfl) fun v60 hv60 H59 => ?_
      refine l_ H59 (@eU .u8 8) rfl (o_cv_iu tk td3 td5 rfl rfl) fun v62 H61 => ?_
      refine l_ H61 (@eU .u8 8) rfl (o_or_u tk rfl rfl rfl) fun v64 H63 => ?_
      refine l_ H63 (eF 1 (@eU .u8 8)) rfl (o_c tk false rfl (fun _ => rfl)) fun v66 H65 => ?_
      obtain ⟨v68, hv69, H67⟩ := ob H65
      refine wpo_a (av := fun t => eT t 1 (@eU .u8 8) v68) rfl rfl rfl (h_app tk hH 0 hv69 rfl td40 ty5 rfl (by decide) rfl (src_l td40 rfl)) fun tk70 τ hH => ?_
      refine ma tk (eT tk70 1 (@eU .u8 8) v68) rfl rfl (wpo_nil (awp_region rfl (mm tk (eI c44) rfl rfl ?_)))
      refine l_ H67 eI rfl (o_ar tk rfl rfl rfl) fun v72 H71 => ?_
      refine ma tk (eI v72) rfl rfl (wpo_nil ?_)
      exact ⟨(v68, v72), inj_inl H71, tk70, (wc (wc (wc (wc (wc (wc (wkf_nil _))))))), hH⟩
     ·refine awp_exit ?_
      have hz := hy51 _ (inj_inr H56)
      subst hz
      exact ⟨⟨_, inj_inr H56⟩, tk_5, (wc (wc (wc (wc (wc (wkf_nil _)))))), hH⟩
   ·refine awp_loopO (body := fun s => octets_Put_b1 x1 v6 c7 c8 v22 s) hs25 (fun (s : Int) fr τ => ∃ tk_5, WkF fr (fm [(5, (eT tk_5 1 (@eU .u8 8) c7)), (7, (eI v22)), (8, (eI s)), (12, ((eL 1 eI) x1)), (13, (eI v6)), (14, (eI c8))]) ∧ Holds σ [] [tk_5] τ) ⟨tk_5, (wc (wc (wc (wc (wc (wc (wkf_nil _))))))), hH⟩ ?_
    rintro c23 fr τ y27 ⟨tk_5, hfr, hH⟩ hb29 hy30
    have H32 : octets_Put_b1 x1 v6 c7 c8 v22 c23 = some y27 := hb29
    unfold octets_Put_b1 at H32
    refine AWP.fm [(5, (eT tk_5 1 (@eU .u8 8) c7)), (7, (eI v22)), (8, (eI c23)), (12, ((eL 1 eI) x1)), (13, (eI v6)), (14, (eI c8))] hfr ?_
    have hH : Holds σ [] [tk_5] τ := hH
    refine awp_seq (sr rfl (mm tk (eI v22) rfl rfl (mm tk (eI c23) rfl rfl ?_)))
    refine l_ H32 eI rfl (o_ar tk rfl rfl rfl) fun v34 H33 => ?_
    refine b_ H33 eI rfl (fun v36 hv => om_shr tk hv rfl rfl) fun v36 hv36 H35 => ?_
    refine l_ H35 eB rfl (o_ar tk rfl rfl rfl) fun v38 H37 => ?_
    refine wpo_nil ?_
    refine awp_if H37 rfl (fun H39 => ?_) (fun H39 => ?_)
    ·refine awp_skip (awp_block (awp_region rfl (mm tk (eI c23) rfl rfl ?_)))
     refine l_ H39 eI rfl (o_ar tk rfl rfl rfl) fun v41 H40 => ?_
     refine ma tk (eI v41) rfl rfl (wpo_nil ?_)
     exact ⟨v41, inj_inl H40, tk_5, (wc (wc (wc (wc (wc (wc (wkf_nil _))))))), hH⟩
    ·refine awp_exit ?_
     have hz := hy30 _ (inj_inr H39)
     subst hz
     exact ⟨⟨_, inj_inr H39⟩, tk_5, (wc (wc (wc (wc (wc (wc (wkf_nil _))))))), hH⟩
  ·refine awp_exit ?_
   have hz := hy15 _ (inj_inr H20)
   subst hz
   exact ⟨⟨_, inj_inr H20⟩, tk_5, (wc (wkf_nil _)), hH⟩
theorem octets_Put_ok {x0 : List (BitVec 8)} {x1 : List Int} {r : (List (BitVec 8))} (H : octets_Put x0 x1 = some r) (σ : St) : ACall Tryz.prog 44 [((eL 1 (@eU .u8 8)) x0), ((eL 1 eI) x1)] σ (fun a τ => a = (eL 1 (@eU .u8 8)) r ∧ τ = σ) := (octets_Put_app H σ).unapp (fun ρ κ => cutL_enc (enc_u td5 sz5).cut ρ κ r)
theorem octets_Bytes_app {x0 : List (BitVec 8)} {x1 : List (BitVec 8)} {r : (List (BitVec 8))} (H : octets_Bytes x0 x1 = some r) (σ : St)  : ACall Tryz.prog 46 [((eL 1 (@eU .u8 8)) x0), ((eL 1 (@eU .u8 8)) x1)] σ (fun a τ => a = .sl (.own σ.opn.length) 1 (r.map (@eU .u8 8)) ∧ τ = σ.more) := by
 unfold octets_Bytes at H
 refine ACall.app (fun ρ κ => cutL_enc (enc_u td5 sz5).cut ρ κ r) (acall_start tk Tryz.func46 (by decide) rfl (nb rfl) ?_)
 have hH := Holds.init σ
 refine sr rfl (ma tk AV.nils rfl rfl (wpo_nil (sr rfl (mm tk ((eL 1 (@eU .u8 8)) x0) rfl rfl (mm tk ((eL 1 (@eU .u8 8)) x1) rfl rfl ?_)))))
 refine l_ H eI rfl (o_len tk td40 rfl) fun v2 H1 => ?_
 refine l_ H1 (eF 1 eI) rfl (o_c tk false rfl (fun _ => rfl)) fun v4 H3 => ?_
 refine wpo_cb H3 (fun x t => eT t 1 (@eU .u8 8) x) rfl rfl rfl (fun v6 hv => h_calla hH rfl rfl (.cons wr (.cons wk_no .nil)) (octets_Put_app hv _)) fun v6 tk7 τ hv6 H5 hH => ?_
 refine mm tk ((eL 1 (@eU .u8 8)) x1) rfl rfl ?_
 obtain ⟨v9, hv10, H8⟩ := ob H5
 refine wpo_a (av := fun t => eT t 1 (@eU .u8 8) v9) rfl rfl rfl (h_app tk hH 0 hv10 rfl td40 ty5 rfl (by decide) rfl (src_l td40 rfl)) fun tk11 τ hH => ?_
 refine ma tk (eT tk11 1 (@eU .u8 8) v9) rfl rfl (wpo_nil (awp_ret ?_))
 obtain rfl := oi H8
 exact ⟨_, (eT tk11 1 (@eU .u8 8) v9), rfl, .of_eq rfl, tk11, rfl, hH⟩
theorem octets_Bytes_ok {x0 : List (BitVec 8)} {x1 : List (BitVec 8)} {r : (List (BitVec 8))} (H : octets_Bytes x0 x1 = some r) (σ : St) : ACall Tryz.prog 46 [((eL 1 (@eU .u8 8)) x0), ((eL 1 (@eU .u8 8)) x1)] σ (fun a τ => a = (eL 1 (@eU .u8 8)) r ∧ τ = σ) := (octets_Bytes_app H σ).unapp (fun ρ κ => cutL_enc (enc_u td5 sz5).cut ρ κ r)
theorem checksum_Seal_app {x0 : List (BitVec 8)} {r : (List (BitVec 8))} (H : checksum_Seal x0 = some r) (σ : St)  : ACall Tryz.prog 47 [((eL 1 (@eU .u8 8)) x0)] σ (fun a τ => a = .sl (.own σ.opn.length) 1 (r.map (@eU .u8 8)) ∧ τ = σ.more) := by
 unfold checksum_Seal at H
 refine ACall.app (fun ρ κ => cutL_enc (enc_u td5 sz5).cut ρ κ r) (acall_start tk Tryz.func47 (by decide) rfl (nb rfl) ?_)
 have hH := Holds.init σ
 refine sr rfl (ma tk AV.nils rfl rfl (wpo_nil (sr rfl (mm tk ((eL 1 (@eU .u8 8)) x0) rfl rfl ?_))))
 refine b_ H (@eU .u32 32) rfl (fun v2 hv => OpP.of_call rfl rfl (.cons wr .nil) (checksum_Sum_ok hv)) fun v2 hv2 H1 => ?_
 refine b_ H1 (eA (@eU .u8 8)) rfl (fun v4 hv => OpP.of_call rfl rfl (.cons wr .nil) (checksum_Four_ok hv)) fun v4 hv4 H3 => ?_
 refine wpo_a (av := fun id => .ref id 0) rfl rfl rfl (h_alloc tk hH ty123 (cL (@eU .u8 8) (List.replicate 4 0#8)) rfl) fun id5 τ ⟨hH, n6⟩ => ?_
 obtain ⟨c8, hc9, H7⟩ := ob H3
 refine wpo_z rfl rfl (h_stw tk hH 0 hc9 rfl (enc_u td5 sz5) ty123 rfl (by simp) rfl rfl) fun τ hH => ?_
 refine wpo_nil (awp_seq ?_)
 refine awp_drawS mixed [2, 4] rfl (by decide +kernel) rfl rfl ?_
 refine wpdS_mv (a := (eF 1 (@eU .u8 8) ([] : List (BitVec 8)))) rfl rfl rfl (o_c tk false rfl (fun _ => rfl)) (wpdS_mv (a := ((eL 1 (@eU .u8 8)) x0)) rfl rfl rfl (o_mv tk rfl (Wk.refl _)) ?_)
 obtain ⟨v11, hv12, H10⟩ := ob H7
 refine wpdS_a (av := fun t => eT t 1 (@eU .u8 8) v11) rfl rfl rfl (h_app0 tk hH hv12 td40 ty5 rfl (by decide) (.inr rfl) (src_l td40 rfl)) fun tk13 τ hH => ?_
 refine wpdS_mv (a := (.msl id5 0 4)) rfl rfl rfl (o_c tk false rfl (fun _ => rfl)) ?_
 obtain ⟨v15, hv16, H14⟩ := ob H10
 obtain ⟨whv16, hwhv16, hv16b⟩ := ob hv16
 obtain ⟨hxhv16, rfl⟩ := whole_some hwhv16
 refine wpdS_a (av := fun t => eT t 1 (@eU .u8 8) v15) rfl rfl rfl (h_app tk hH 0 hv16b rfl td40 ty5 rfl (by decide) rfl (src_arr hH 0 rfl (enc_u td5 sz5) rfl td40 hxhv16 rfl)) fun tk17 τ hH => ?_
 refine wpdS_mv (a := (eT tk17 1 (@eU .u8 8) v15)) rfl rfl rfl (o_as tk rfl (Wk.refl _)) (wpdS_nil (awp_ret ?_))
 obtain rfl := oi H14
 exact ⟨_, (eT tk17 1 (@eU .u8 8) v15), rfl, .of_eq rfl, tk17, rfl, (hH.drop n6)⟩
theorem checksum_Seal_ok {x0 : List (BitVec 8)} {r : (List (BitVec 8))} (H : checksum_Seal x0 = some r) (σ : St) : ACall Tryz.prog 47 [((eL 1 (@eU .u8 8)) x0)] σ (fun a τ => a = (eL 1 (@eU .u8 8)) r ∧ τ = σ) := (checksum_Seal_app H σ).unapp (fun ρ κ => cutL_enc (enc_u td5 sz5).cut ρ κ r)
theorem wire_Put_ok {x0 : api_Msg} {r : (List (BitVec 8)) × Err} (H : wire_Put x0 = some r) (σ : St)  : ACall Tryz.prog 28 [(e_api_Msg x0)] σ (fun a τ => a = .tup [(eL 1 (@eU .u8 8)) r.1, eErr r.2] ∧ τ = σ) := by
 unfold wire_Put at H
 refine ACall.pure (acall_start tk Tryz.func28 (by decide) rfl (nb rfl) ?_)
 have hH := Holds.init σ
 refine sr rfl (m_ (.fptr (c_api_Msg x0) 0) rfl (o_boxf tk rfl wr (b := (e_api_Msg x0)) (enc44.flat _)) (ma tk AV.nils rfl rfl (ma tk (eErr Err.nil) rfl rfl (wpo_nil (awp_seq (sr rfl (m_ (e_api_Msg x0) rfl (o_ld tk rfl rfl) ?_)))))))
 refine b_ H eErr rfl (fun v2 hv => OpP.of_call rfl rfl (.cons wr .nil) (wire_Check_ok hv)) fun v2 hv2 H1 => ?_
 refine ma tk (eErr v2) rfl rfl (wpo_nil (sr rfl (mm tk (eErr v2) rfl rfl ?_)))
 refine l_ H1 eB rfl (o_err_neq tk rfl rfl rfl) fun v4 H3 => ?_
 refine wpo_nil ?_
 refine awp_if H3 rfl (fun H5 => ?_) (fun H5 => ?_)
 ·refine sr rfl (mc tk (.fptr (c_api_Msg x0) 0) rfl rfl (fun _ => rfl) (m_ (eI x0.Kind) rfl (o_ld tk rfl rfl) (mm tk (eErr v2) rfl rfl ?_)))
  refine b_ H5 eErr rfl (fun v7 hv => OpP.of_call rfl rfl (.cons wr (.cons wr (.cons wr .nil))) (trouble_Wrap_ok hv)) fun v7 hv7 H6 => ?_
  refine ma tk AV.nils rfl rfl (ma tk (eErr v7) rfl rfl (wpo_nil (awp_ret ?_)))
  obtain rfl := oi H6
  exact ⟨_, (.tup [((eL 1 (@eU .u8 8)) []), (eErr v7)]), rfl, (wk_tup (.cons (wk_nils _) (.cons wr .nil))), .of_eq (by simp only [cutAV, cutL, (enc_l td40 sz40 (enc_u td5 sz5).cut).cut _ _ _, encErr.cut _ _ _]), hH.noT⟩
 ·refine awp_skip (sr rfl (mc tk (.fptr (c_api_Msg x0) 0) rfl rfl (fun _ => rfl) (m_ (eI x0.Kind) rfl (o_ld tk rfl rfl) (mc tk (.fptr (c_api_Msg x0) 1) rfl rfl (fun _ => rfl) (m_ (eI x0.From) rfl (o_ld tk rfl rfl) (mc tk (.fptr (c_api_Msg x0) 2) rfl rfl (fun _ => rfl) (m_ (eI x0.To) rfl (o_ld tk rfl rfl) (mc tk (.fptr (c_api_Msg x0) 3) rfl rfl (fun _ => rfl) ?_))))))))
  refine m_ (eI x0.Epoch) rfl (o_ld tk rfl rfl) ?_
  refine l_ H5 (eF 1 eI) rfl (o_c tk false rfl (fun _ => rfl)) fun v9 H8 => ?_
  refine b_ H8 (eL 1 (@eU .u8 8)) rfl (fun v11 hv => OpP.of_call rfl rfl (.cons (wk_nils _) (.cons wk_no .nil)) (octets_Put_ok hv)) fun v11 hv11 H10 => ?_
  refine ma tk ((eL 1 (@eU .u8 8)) v11) rfl rfl (wpo_nil (awp_seq (sr rfl (mc tk (.fptr (c_api_Msg x0) 0) rfl rfl (fun _ => rfl) (m_ (eI x0.Kind) rfl (o_ld tk rfl rfl) ?_)))))
  refine b_ H10 eS rfl (fun v13 hv => OpP.of_call rfl rfl (.cons wr .nil) (wire_parts_ok hv)) fun v13 hv13 H12 => ?_
  refine wpo_a (av := fun id => .spc id) rfl rfl rfl (h_range tk hH td9 rfl) fun id14 τ ⟨hH, n15⟩ => ?_
  refine wpo_nil (awp_block ?_)
  obtain ⟨s25, hs19, hj20⟩ := ob H12
  refine awp_cutx 0 (fun fr τ => WkF fr (fm [(5, ((eL 1 (@eU .u8 8)) s25.1))]) ∧ Holds σ [(id14, (cIt s25.2))] [] τ) ?_ ?_
  ·rintro fr τ ⟨hfr, hH⟩
   have H75 := hj20
   refine AWP.fm [(5, ((eL 1 (@eU .u8 8)) s25.1))] hfr ?_
   refine sr rfl (mm tk ((eL 1 (@eU .u8 8)) s25.1) rfl rfl ?_)
   refine b_ H75 (eL 1 (@eU .u8 8)) rfl (fun v77 hv => OpP.of_call rfl rfl (.cons wr .nil) (checksum_Seal_ok hv)) fun v77 hv77 H76 => ?_
   refine ma tk ((eL 1 (@eU .u8 8)) v77) rfl rfl (ma tk (eErr Err.nil) rfl rfl (wpo_nil (awp_ret ?_)))
   obtain rfl := oi H76
   exact ⟨_, (.tup [((eL 1 (@eU .u8 8)) v77), (eErr Err.nil)]), rfl, (wk_tup (.cons wr (.cons wr .nil))), .of_eq (by simp only [cutAV, cutL, (enc_l td40 sz40 (enc_u td5 sz5).cut).cut _ _ _, encErr.cut _ _ _]), (hH.noT.drop n15)⟩
  ·refine awp_loopO (body := fun s => wire_Put_b0 x0 s.1 s.2) hs19 (fun (s : (List (BitVec 8)) × (List (BitVec 8) × Nat)) fr τ => WkF fr (fm [(1, (.fptr (c_api_Msg x0) 0)), (5, ((eL 1 (@eU .u8 8)) s.1)), (30, (.spc id14))]) ∧ Holds σ [(id14, (cIt s.2))] [] τ) ⟨(wc (wc (wc (wkf_nil _)))), hH⟩ ?_
   rintro ⟨c16, c17⟩ fr τ y21 ⟨hfr, hH⟩ hb23 hy24
   have H26 : wire_Put_b0 x0 c16 c17 = some y21 := hb23
   unfold wire_Put_b0 at H26
   refine AWP.fm [(1, (.fptr (c_api_Msg x0) 0)), (5, ((eL 1 (@eU .u8 8)) c16)), (30, (.spc id14))] hfr ?_
   have hH : Holds σ [(id14, (cIt c17))] [] τ := hH
   refine sr rfl ?_
   obtain ⟨v28, hv29, H27⟩ := ob H26
   rcases v28 with _ | c30
   ·rw [Option.elim_none] at H27
    refine wpo_a (av := fun _ => .tup [eB false]) rfl rfl rfl (h_next0 hH 0 hv29 rfl rfl) fun _ τ hH => ?_
    refine m_ (eB false) rfl (o_ext tk rfl rfl) (wpo_nil (awp_seq ?_))
    refine awp_false rfl ?_
    refine awp_exit ?_
    have hz := hy24 _ (inj_inr H27)
    subst hz
    exact ⟨⟨_, inj_inr H27⟩, (wc (wkf_nil _)), hH⟩
   ·rw [Option.elim_some] at H27
    refine wpo_a (av := fun _ => .tup [eB true, eI (c17.2 : Int), eK .i32 c30]) rfl rfl rfl (h_next1 hH 0 hv29 rfl rfl) fun _ τ (hH : Holds σ [(id14, (cIt (c17.1, c17.2 + 1)))] [] τ) => ?_
    refine m_ (eB true) rfl (o_ext tk rfl rfl) (wpo_nil (awp_seq ?_))
    refine awp_true rfl ?_
    refine awp_skip (awp_block (sr rfl (m_ ((eK .i32) c30) rfl (o_ext tk rfl rfl) (ma tk ((eK .i32) c30) rfl rfl (wpo_nil (sr rfl (mm tk ((eK .i32) c30) rfl rfl (wpo_nil ?_))))))))
    refine awp_block (sr rfl ?_)
    refine l_ H27 eB rfl (o_ar tk rfl rfl rfl) fun v32 H31 => ?_
    refine ma tk (eB v32) rfl rfl (wpo_nil ?_)
    refine awp_if H31 rfl (fun H33 => ?_) (fun H33 => ?_)
    ·refine awp_region rfl (mm tk ((eL 1 (@eU .u8 8)) c16) rfl rfl (mc tk (.fptr (c_api_Msg x0) 4) rfl rfl (fun _ => rfl) (m_ (eI x0.Id) rfl (o_ld tk rfl rfl) ?_)))
     refine l_ H33 (eF 1 eI) rfl (o_c tk false rfl (fun _ => rfl)) fun v35 H34 => ?_
     refine b_ H34 (eL 1 (@eU .u8 8)) rfl (fun v37 hv => OpP.of_call rfl rfl (.cons wr (.cons wk_no .nil)) (octets_Put_ok hv)) fun v37 hv37 H36 => ?_
     refine ma tk ((eL 1 (@eU .u8 8)) v37) rfl rfl (wpo_nil ?_)
     exact ⟨(v37, (c17.1, c17.2 + 1)), inj_inl H36, (wc (wc (wc (wkf_nil _)))), hH⟩
    ·refine sr rfl ?_
     refine l_ H33 eB rfl (o_ar tk rfl rfl rfl) fun v39 H38 => ?_
     refine ma tk (eB v39) rfl rfl (wpo_nil ?_)
     refine awp_if H38 rfl (fun H40 => ?_) (fun H40 => ?_)
     ·refine awp_region rfl (mm tk ((eL 1 (@eU .u8 8)) c16) rfl rfl (mc tk (.fptr (c_api_Msg x0) 5) rfl rfl (fun _ => rfl) (mc tk (.fptr (c_api_Msg x0) 5) rfl rfl (fun _ => rfl) (m_ (eS x0.X.Key) rfl (o_ld tk rfl rfl) ?_))))
      refine b_ H40 (eL 1 (@eU .u8 8)) rfl (fun v42 hv => o_s2b tk hv td9 td40 td5 rfl) fun v42 hv42 H41 => ?_
      refine b_ H41 (eL 1 (@eU .u8 8)) rfl (fun v44 hv => OpP.of_call rfl rfl (.cons wr (.cons wr .nil)) (octets_Bytes_ok hv)) fun v44 hv44 H43 => ?_
      refine ma tk ((eL 1 (@eU .u8 8)) v44) rfl rfl (wpo_nil ?_)
      exact ⟨(v44, (c17.1, c17.2 + 1)), inj_inl H43, (wc (wc (wc (wkf_nil _)))), hH⟩
     ·refine sr rfl ?_
      refine l_ H40 eB rfl (o_ar tk rfl rfl rfl) fun v46 H45 => ?_
      refine ma tk (eB v46) rfl rfl (wpo_nil ?_)
      refine awp_if H45 rfl (fun H47 => ?_) (fun H47 => ?_)
      ·refine awp_region rfl (mm tk ((eL 1 (@eU .u8 8)) c16) rfl rfl (mc tk (.fptr (c_api_Msg x0) 5) rfl rfl (fun _ => rfl) (mc tk (.fptr (c_api_Msg x0) 7) rfl rfl (fun _ => rfl) (m_ (eI x0.X.AsOf) rfl (o_ld tk rfl rfl) ?_))))
       refine l_ H47 (eF 1 eI) rfl (o_c tk false rfl (fun _ => rfl)) fun v49 H48 => ?_
       refine b_ H48 (eL 1 (@eU .u8 8)) rfl (fun v51 hv => OpP.of_call rfl rfl (.cons wr (.cons wk_no .nil)) (octets_Put_ok hv)) fun v51 hv51 H50 => ?_
       refine ma tk ((eL 1 (@eU .u8 8)) v51) rfl rfl (wpo_nil ?_)
       exact ⟨(v51, (c17.1, c17.2 + 1)), inj_inl H50, (wc (wc (wc (wkf_nil _)))), hH⟩
      ·refine sr rfl ?_
       refine l_ H47 eB rfl (o_ar tk rfl rfl rfl) fun v53 H52 => ?_
       refine ma tk (eB v53) rfl rfl (wpo_nil ?_)
       refine awp_if H52 rfl (fun H54 => ?_) (fun H54 => ?_)
       ·refine sr rfl (ma tk (eI (0 : Int)) rfl rfl (wpo_nil (awp_seq (sr rfl (mc tk (.fptr (c_api_Msg x0) 10) rfl rfl (fun _ => rfl) (m_ (eB x0.Found) rfl (o_ld tk rfl rfl) (wpo_nil ?_)))))))
        obtain ⟨s55, hs57, hj58⟩ := ob H54
        refine awp_cutn (fun fr τ => WkF fr (fm [(1, (.fptr (c_api_Msg x0) 0)), (5, ((eL 1 (@eU .u8 8)) c16)), (8, (eI s55)), (30, (.spc id14))]) ∧ Holds σ [(id14, (cIt (c17.1, c17.2 + 1)))] [] τ) ?_ ?_
        ·rintro fr τ ⟨hfr, hH⟩
         have H60 := hj58
         refine AWP.fm [(1, (.fptr (c_api_Msg x0) 0)), (5, ((eL 1 (@eU .u8 8)) c16)), (8, (eI s55)), (30, (.spc id14))] hfr ?_
         refine awp_region rfl (mm tk ((eL 1 (@eU .u8 8)) c16) rfl rfl (mm tk (eI s55) rfl rfl ?_))
         refine l_ H60 (eF 1 eI) rfl (o_c tk false rfl (fun _ => rfl)) fun v62 H61 => ?_
         refine b_ H61 (eL 1 (@eU .u8 8)) rfl (fun v64 hv => OpP.of_call rfl rfl (.cons wr (.cons wk_no .nil)) (octets_Put_ok hv)) fun v64 hv64 H63 => ?_
         refine ma tk ((eL 1 (@eU .u8 8)) v64) rfl rfl (wpo_nil ?_)
         exact ⟨(v64, (c17.1, c17.2 + 1)), inj_inl H63, (wc (wc (wc (wkf_nil _)))), hH⟩
        ·refine awp_if hs57 rfl (fun H59 => ?_) (fun H59 => ?_)
         ·refine awp_region rfl (ma tk (eI (1 : Int)) rfl rfl (wpo_nil ?_))
          have e := oi H59
          subst e
          exact ⟨(wc (wc (wc (wc (wkf_nil _))))), hH⟩
         ·refine awp_skip ?_
          have e := oi H59
          subst e
          exact ⟨(wc (wc (wc (wc (wkf_nil _))))), hH⟩
       ·refine sr rfl ?_
        refine l_ H54 eB rfl (o_ar tk rfl rfl rfl) fun v66 H65 => ?_
        refine ma tk (eB v66) rfl rfl (wpo_nil ?_)
        refine awp_if H65 rfl (fun H67 => ?_) (fun H67 => ?_)
        ·refine sr rfl (mc tk (.fptr (c_api_Msg x0) 10) rfl rfl (fun _ => rfl) (m_ (eB x0.Found) rfl (o_ld tk rfl rfl) (wpo_nil ?_)))
         refine awp_if H67 rfl (fun H68 => ?_) (fun H68 => ?_)
         ·refine awp_drawS mixed [] rfl (by decide +kernel) rfl rfl ?_
          refine wpdS_mv (a := ((eL 1 (@eU .u8 8)) c16)) rfl rfl rfl (o_mv tk rfl (Wk.refl _)) (wpdS_mv (a := (.fptr (c_api_Msg x0) 5)) rfl rfl rfl (o_c tk false rfl (fun _ => rfl)) (wpdS_mv (a := (.fptr (c_api_Msg x0) 6)) rfl rfl rfl (o_c tk false rfl (fun _ => rfl)) (wpdS_mv (a := (eI x0.X.Version)) rfl rfl rfl (o_ld tk rfl rfl) (wpdS_mv (a := (.fptr (c_api_Msg x0) 5)) rfl rfl rfl (o_c tk false rfl (fun _ => rfl)) (wpdS_mv (a := (.fptr (c_api_Msg x0) 8)) rfl rfl rfl (o_c tk false rfl (fun _ => rfl)) (wpdS_mv (a := (eI x0.X.Ends)) rfl rfl rfl (o_ld tk rfl rfl) ?_))))))
          refine wpdS_lt H68 (eF 1 eI) rfl rfl rfl (o_c tk false rfl (fun _ => rfl)) fun v70 H69 => ?_
          refine wpdS_bd H69 (eL 1 (@eU .u8 8)) rfl rfl rfl (fun v72 hv => OpP.of_call rfl rfl (.cons wr (.cons wk_no .nil)) (octets_Put_ok hv)) fun v72 hv72 H71 => ?_
          refine wpdS_mv (a := (.fptr (c_api_Msg x0) 5)) rfl rfl rfl (o_c tk false rfl (fun _ => rfl)) (wpdS_mv (a := (.fptr (c_api_Msg x0) 9)) rfl rfl rfl (o_c tk false rfl (fun _ => rfl)) (wpdS_mv (a := ((eL 1 (@eU .u8 8)) x0.X.Value)) rfl rfl rfl (o_ld tk rfl rfl) ?_))
          refine wpdS_bd H71 (eL 1 (@eU .u8 8)) rfl rfl rfl (fun v74 hv => OpP.of_call rfl rfl (.cons wr (.cons wr .nil)) (octets_Bytes_ok hv)) fun v74 hv74 H73 => ?_
          refine wpdS_mv (a := ((eL 1 (@eU .u8 8)) v74)) rfl rfl rfl (o_as tk rfl (Wk.refl _)) (wpdS_nil ?_)
          exact ⟨(v74, (c17.1, c17.2 + 1)), inj_inl H73, (wc (wc (wc (wkf_nil _)))), hH⟩
         ·refine awp_skip ?_
          exact ⟨(c16, (c17.1, c17.2 + 1)), inj_inl H68, (wc (wc (wc (wkf_nil _)))), hH⟩
        ·refine awp_skip ?_
         exact ⟨(c16, (c17.1, c17.2 + 1)), inj_inl H67, (wc (wc (wc (wkf_nil _)))), hH⟩
theorem lines_Lines_Send_ok {x0 : lines_Lines} {x1 : List api_Msg} {r : lines_Lines} (H : lines_Lines_Send x0 x1 = some r) (σ : St) {p0 p0_l c_p0_l : Nat} {g_p0_l : AV} (h0 : σ.objs[p0]? = some [g_p0_l, (eI x0.lost)]) (h0_l : σ.objs[p0_l]? = some (gK e_lines_parcel c_p0_l x0.l)) (hd : [p0, p0_l].Pairwise fun a b => a ≠ b) (gg_p0_l : GG p0_l 2 c_p0_l (x0.l).length g_p0_l) : ACall Tryz.prog 14 [(.ref p0 0), ((eL 11 e_api_Msg) x1)] σ (fun a τ => a = .tup [] ∧ τ = σ.grow [(p0, [(gC (σ.objs.length + 0) 2 c_p0_l (r.l).length), (eI r.lost)]), (p0_l, [])] [(gK e_lines_parcel c_p0_l r.l)] [] 0) := by
 unfold lines_Lines_Send at H
 refine ACall.outV (B := (fun f => [(p0, [(gC (f 0) 2 c_p0_l (r.l).length), (eI r.lost)]), (p0_l, [])])) (L := [(gK e_lines_parcel c_p0_l r.l)]) (fun ρ κ => rfl) (by simp only [List.mem_cons, List.not_mem_nil, or_false]; rintro _ (rfl) ρ κ <;> exact gK_cut (by first | exact enc68.cut) _ _ ρ κ) (by intro f; simp only [List.mem_cons, List.not_mem_nil, or_false]; rintro _ (rfl | rfl) <;> exact (List.getElem?_eq_some_iff.1 (by assumption)).1) (fun ρ κ f f1 h1 h3 => (.cons rfl (.cons (cut_gC (h1 0 (by simp))) (.cons (.of_eq ((enc_i64 td3 sz3).cut ρ κ _)) .nil)) (.cons rfl .nil .nil))) (acall_start tk Tryz.func14 (by decide) rfl (nb rfl) ?_)
 have hH := Holds.brings (σ := σ) [(p0, [g_p0_l, (eI x0.lost)]), (p0_l, (gK e_lines_parcel c_p0_l x0.l))] (by simp only [List.mem_cons, List.not_mem_nil, or_false]; rintro _ (rfl | rfl) <;> assumption) hd
 refine AWP.wko hH 0 rfl (c1 := [(gC p0_l 2 c_p0_l (x0.l).length), (eI x0.lost)]) (.cons gg_p0_l.wk (.cons wr .nil)) fun τ (hH : Holds σ [(p0, [(gC p0_l 2 c_p0_l (x0.l).length), (eI x0.lost)]), (p0_l, (gK e_lines_parcel c_p0_l x0.l))] [] τ) => ?_
 refine AWP.renF (g := fun i => gC i 2 c_p0_l (x0.l).length) hH 0 1 0 rfl rfl (by decide) rfl ren_gC fun id1 τ (hH : Holds σ [(id1, (gK e_lines_parcel c_p0_l x0.l)), (p0, [(gC id1 2 c_p0_l (x0.l).length), (eI x0.lost)]), (p0_l, (cL e_lines_parcel ([] : List lines_parcel)))] [] τ) n2 => ?_
 refine sr rfl (mm tk ((eL 11 e_api_Msg) x1) rfl rfl ?_)
 refine l_ H eI rfl (o_len tk td27 rfl) fun v4 H3 => ?_
 refine mm tk (eI (0 : Int)) rfl rfl (wpo_nil (awp_block ?_))
 obtain ⟨s15, hs9, hj10⟩ := ob H3
 refine awp_cutx 0 (fun fr τ => ∃ id_p0_l, σ.objs.length ≤ id_p0_l ∧ WkF fr (fm []) ∧ Holds σ [(id_p0_l, (gK e_lines_parcel c_p0_l s15.1)), (p0, [(gC id_p0_l 2 c_p0_l (s15.1).length), (eI s15.2.lost)]), (p0_l, (cL e_lines_parcel ([] : List lines_parcel)))] [] τ) ?_ ?_
 ·rintro fr τ ⟨id_p0_l, n_p0_l, hfr, hH⟩
  have H57 := hj10
  obtain rfl := oi H57
  have hH : Holds σ [(id_p0_l, (gK e_lines_parcel c_p0_l s15.1)), (p0, [(gC id_p0_l 2 c_p0_l (s15.1).length), (eI s15.2.lost)]), (p0_l, (cL e_lines_parcel ([] : List lines_parcel)))] [] _ := hH
  have hF : Holds σ [(id_p0_l, (gK e_lines_parcel c_p0_l s15.1)), (p0, [(gC id_p0_l 2 c_p0_l (s15.1).length), (eI s15.2.lost)]), (p0_l, (cL e_lines_parcel ([] : List lines_parcel)))] [] _ := hH.pick (by simp only [List.mem_cons, List.not_mem_nil, or_false]; rintro _ (rfl | rfl | rfl) <;> simp) (pw_zip (hH.pw [0, 1, 2] rfl (by decide))) (by simp only [List.mem_cons, List.not_mem_nil, or_false]; rintro _ (rfl | rfl | rfl) <;> first | exact .inl (by assumption) | exact .inr (by simp)) (fun t h => by cases h) .nil
  exact ⟨_, (.tup []), rfl, wr, rfl, fun i => [id_p0_l].getD i 0, by intro i hi; match i, hi with | 0, _ => exact n_p0_l | k + 1, hi => exact absurd hi (by simp), hF⟩
 ·refine awp_loopO (body := fun s => lines_Lines_Send_b0 x1 v4 s.1 s.2.1 s.2.2) hs9 (fun (s : Int × (List lines_parcel) × lines_Lines) fr τ => ∃ id_p0_l, σ.objs.length ≤ id_p0_l ∧ WkF fr (fm [(0, (.ref p0 0)), (8, ((eL 11 e_api_Msg) x1)), (9, (eI v4)), (10, (eI s.1))]) ∧ Holds σ [(id_p0_l, (gK e_lines_parcel c_p0_l s.2.1)), (p0, [(gC id_p0_l 2 c_p0_l (s.2.1).length), (eI s.2.2.lost)]), (p0_l, (cL e_lines_parcel ([] : List lines_parcel)))] [] τ) ⟨id1, n2, (wc (wc (wc (wc (wkf_nil _))))), hH⟩ ?_
  rintro ⟨c5, c6, c7⟩ fr τ y11 ⟨id_p0_l, n_p0_l, hfr, hH⟩ hb13 hy14
  have H16 : lines_Lines_Send_b0 x1 v4 c5 c6 c7 = some y11 := hb13
  unfold lines_Lines_Send_b0 at H16
  refine AWP.fm [(0, (.ref p0 0)), (8, ((eL 11 e_api_Msg) x1)), (9, (eI v4)), (10, (eI c5))] hfr ?_
  have hH : Holds σ [(id_p0_l, (gK e_lines_parcel c_p0_l c6)), (p0, [(gC id_p0_l 2 c_p0_l (c6).length), (eI c7.lost)]), (p0_l, (cL e_lines_parcel ([] : List lines_parcel)))] [] τ := hH
  refine sr rfl ?_
  refine l_ H16 eB rfl (o_ar tk rfl rfl rfl) fun v18 H17 => ?_
  refine wpo_nil (awp_seq ?_)
  refine awp_if H17 rfl (fun H19 => ?_) (fun H19 => ?_)
  ·refine awp_skip (awp_seq (awp_block (sr rfl ?_)))
   refine b_ H19 (fun y => .fptr (e_api_Msg y).cells 0) rfl (fun v21 hv => o_ixa tk hv td27 enc44 rfl rfl) fun v21 hv21 H20 => ?_
   refine m_ (e_api_Msg v21) rfl (o_ld_e tk enc44 rfl rfl) ?_
   refine wpo_a (av := fun id => .ref id 0) rfl rfl rfl (h_allocw tk hH ty44 (c_api_Msg z_api_Msg) (.cons wr (.cons wr (.cons wr (.cons wr (.cons wr (.cons wr (.cons wr (.cons wr (.cons wr (.cons (by exact wk_nils _) (.cons wr .nil)))))))))))) fun id22 τ ⟨hH, n23⟩ => ?_
   obtain ⟨c25, hc26, H24⟩ := lt_ex H20
   refine wpo_z rfl rfl (h_st tk hH 0 rfl ty44 (by simp) rfl rfl wr (b := (e_api_Msg v21)) (enc44.flat _) rfl (nb rfl) (c_api_Msg c25) (by rw [← hc26]; rfl)) fun τ hH => ?_
   refine wpo_nil (sr rfl (wpo_rd (a := (e_api_Msg c25)) rfl rfl rfl (h_ld tk hH 0 rfl rfl rfl) ?_))
   refine b_ H24 (fun r => .tup [(eL 1 (@eU .u8 8)) r.1, eErr r.2]) rfl (fun v28 hv => OpP.of_call rfl rfl (.cons wr .nil) (wire_Put_ok hv)) fun v28 hv28 H27 => ?_
   refine mm tk (.tup [((eL 1 (@eU .u8 8)) v28.1), (eErr v28.2)]) rfl rfl (m_ ((eL 1 (@eU .u8 8)) v28.1) rfl (o_ext tk rfl rfl) (m_ (eErr v28.2) rfl (o_ext tk rfl rfl) (ma tk ((eL 1 (@eU .u8 8)) v28.1) rfl rfl (ma tk (eErr v28.2) rfl rfl (wpo_nil (awp_seq (awp_seq ?_)))))))
   obtain ⟨s29, hs31, hj32⟩ := ob H27
   refine awp_cutn (fun fr τ => WkF fr (fm [(0, (.ref p0 0)), (6, ((eL 1 (@eU .u8 8)) v28.1)), (8, ((eL 11 e_api_Msg) x1)), (9, (eI v4)), (10, (eI c5)), (28, (eB s29))]) ∧ Holds σ [(id22, (c_api_Msg c25)), (id_p0_l, (gK e_lines_parcel c_p0_l c6)), (p0, [(gC id_p0_l 2 c_p0_l (c6).length), (eI c7.lost)]), (p0_l, (cL e_lines_parcel ([] : List lines_parcel)))] [] τ) ?_ ?_
   ·rintro fr τ ⟨hfr, hH⟩
    have H40 := hj32
    refine AWP.fm [(0, (.ref p0 0)), (6, ((eL 1 (@eU .u8 8)) v28.1)), (8, ((eL 11 e_api_Msg) x1)), (9, (eI v4)), (10, (eI c5)), (28, (eB s29))] hfr ?_
    refine awp_if H40 rfl (fun H41 => ?_) (fun H41 => ?_)
    ·refine sr rfl (mm tk (.ref p0 0) rfl rfl (mc tk (.ref p0 0) rfl rfl (fun _ => rfl) (mc tk (.ref p0 1) rfl rfl (fun _ => rfl) (wpo_rd (a := (eI c7.lost)) rfl rfl rfl (h_ld tk hH 2 rfl rfl rfl) ?_))))
     refine l_ H41 eI rfl (o_ar tk rfl rfl rfl) fun v43 H42 => ?_
     refine mc tk (.ref p0 0) rfl rfl (fun _ => rfl) (mc tk (.ref p0 1) rfl rfl (fun _ => rfl) ?_)
     refine wpo_z rfl rfl (h_st tk hH 2 rfl ty3 (by simp) rfl rfl wr (b := (eI v43)) rfl rfl (nb rfl) [(gC id_p0_l 2 c_p0_l (c6).length), (eI ({ c7 with lost := v43 } : lines_Lines).lost)] rfl) fun τ hH => ?_
     refine wpo_nil (awp_exit (awp_region rfl ?_))
     refine l_ H42 eI rfl (o_ar tk rfl rfl rfl) fun v46 H45 => ?_
     refine mm tk (eI v46) rfl rfl (wpo_nil ?_)
     exact ⟨(v46, c6, ({ c7 with lost := v43 } : lines_Lines)), inj_inl H45, id_p0_l, n_p0_l, (wc (wc (wc (wc (wkf_nil _))))), (hH.drop n23)⟩
    ·refine awp_skip (awp_region rfl (mm tk (.ref p0 0) rfl rfl (mm tk (.ref p0 0) rfl rfl (mc tk (.ref p0 0) rfl rfl (fun _ => rfl) (mc tk (.ref p0 0) rfl rfl (fun _ => rfl) (wpo_rd (a := (gC id_p0_l 2 c_p0_l (c6).length)) rfl rfl rfl (h_ld tk hH 2 rfl rfl rfl) (mm tk ((eL 1 (@eU .u8 8)) v28.1) rfl rfl ?_)))))))
     refine l_ H41 e_lines_parcel rfl (o_c tk false rfl (fun _ => rfl)) fun v48 H47 => ?_
     refine mc tk (eF 2 e_lines_parcel ([v48] : List lines_parcel)) rfl rfl (fun _ => rfl) ?_
     obtain ⟨v50, hv51, H49⟩ := ob H47
     refine wpo_a (av := fun b => gC b 2 c_p0_l (v50).length) rfl rfl rfl (h_appG tk hH 1 hv51 rfl rfl n_p0_l enc68 td56 ty68 rfl (by decide) rfl rfl (srv_l enc68 td56 rfl)) fun id52 τ ⟨hH, n53⟩ => ?_
     refine mc tk (.ref p0 0) rfl rfl (fun _ => rfl) (mc tk (.ref p0 0) rfl rfl (fun _ => rfl) ?_)
     refine wpo_z rfl rfl (h_st (y := (gC id52 2 c_p0_l (v50).length)) tk hH 2 rfl ty56 (by simp) rfl rfl wr (b := (gC id52 2 c_p0_l (v50).length)) (gC_flat _ _ _ _) (gC_one _ _ _ _) (nb rfl) [(gC id52 2 c_p0_l (v50).length), (eI ({ c7 with l := v50 } : lines_Lines).lost)] (by rw [gC_cells]; rfl)) fun τ hH => ?_
     refine wpo_nil (awp_region rfl ?_)
     refine l_ H49 eI rfl (o_ar tk rfl rfl rfl) fun v56 H55 => ?_
     refine mm tk (eI v56) rfl rfl (wpo_nil ?_)
     exact ⟨(v56, v50, ({ c7 with l := v50 } : lines_Lines)), inj_inl H55, id52, n53, (wc (wc (wc (wc (wkf_nil _))))), (hH.drop n23)⟩
   ·refine awp_region rfl (mm tk (eErr v28.2) rfl rfl ?_)
    refine l_ hs31 eB rfl (o_err_neq tk rfl rfl rfl) fun v34 H33 => ?_
    refine mm tk (eB v34) rfl rfl ?_
    refine if_split H33 (fun hb H35 => ?_) (fun hb H35 => ?_)
    ·subst hb
     refine k_ rfl (k_ rfl (k_ rfl (k_ rfl (k_ rfl (k_ rfl (pt tk (eB true) rfl rfl rfl (wpo_nil ?_)))))))
     have e := oi H35
     subst e
     exact ⟨(wc (wc (wc (wc (wc (wc (wkf_nil _))))))), hH⟩
    ·subst hb
     refine mm tk (.ref p0 0) rfl rfl (mc tk (.ref p0 0) rfl rfl (fun _ => rfl) (mc tk (.ref p0 0) rfl rfl (fun _ => rfl) (wpo_rd (a := (gC id_p0_l 2 c_p0_l (c6).length)) rfl rfl rfl (h_ld tk hH 2 rfl rfl rfl) ?_)))
     refine l_ H35 eI rfl (o_glen tk td56 rfl) fun v37 H36 => ?_
     refine l_ H36 eB rfl (o_ar tk rfl rfl rfl) fun v39 H38 => ?_
     refine pf tk (eB v39) rfl rfl rfl (wpo_nil ?_)
     have e := oi H38
     subst e
     exact ⟨(wc (wc (wc (wc (wc (wc (wkf_nil _))))))), hH⟩
  ·refine awp_exit ?_
   have hz := hy14 _ (inj_inr H19)
   subst hz
   exact ⟨⟨_, inj_inr H19⟩, id_p0_l, n_p0_l, (wkf_nil _), hH⟩
theorem slices_Clone_byte_byteV_vec {x0 : List (BitVec 8)} {r : (List (BitVec 8))} (H : slices_Clone_byte_byteV x0 = some r) (σ : St)  : ACall Tryz.prog 31 [((eL 1 (@eU .u8 8)) x0)] σ (fun a τ => a = .vec σ.objs.length 1 (r).length ∧ τ = ⟨σ.objs ++ [cL (@eU .u8 8) r], σ.opn, σ.gl⟩) := by
 unfold slices_Clone_byte_byteV at H
 refine ACall.vec (fun ρ κ => cut_cL (enc_u td5 sz5).cut ρ κ r) (acall_start tk Tryz.func31 (by decide) rfl (nb rfl) ?_)
 have hH := Holds.init σ
 refine sr rfl (ma tk AV.nils rfl rfl (wpo_nil (awp_seq (sr rfl (mm tk ((eL 1 (@eU .u8 8)) x0) rfl rfl ?_)))))
 refine wpo_nilq rfl rfl rfl (o_nilq tk td40 rfl rfl) fun b1 hb2 => ?_
 refine wpo_nil ?_
 refine awp_nilif (b := b1) rfl (fun hb2_ => ?_) ?_
 ·have hx4 := List.map_eq_nil_iff.1 (hb2 hb2_)
  have H3 : (some ([] : List (BitVec 8))) = some _ := Eq.trans (by simp [hx4, app]) H
  refine sr rfl (ma tk AV.nils rfl rfl (wpo_nil ?_))
  refine AWP.vecN hH 2 1 (.inl rfl) fun id5 τ (hH : Holds σ [(id5, (cL (@eU .u8 8) ([] : List (BitVec 8))))] [] τ) n6 => ?_
  refine awp_ret ?_
  obtain rfl := oi H3
  exact ⟨_, .vec id5 1 (([] : List (BitVec 8))).length, rfl, wr, id5, rfl, n6, hH.noT⟩
 ·refine awp_skip (sr rfl (mc tk (eF 1 (@eU .u8 8) ([] : List (BitVec 8))) rfl rfl (fun _ => rfl) (mm tk ((eL 1 (@eU .u8 8)) x0) rfl rfl ?_)))
  obtain ⟨v8, hv9, H7⟩ := ob H
  refine wpo_a (av := fun b => .vec b 1 (v8).length) rfl rfl rfl (h_appV0 tk hH hv9 (enc_u td5 sz5) td40 ty5 rfl (by decide) (by simp) (.inr rfl) (srv_l (enc_u td5 sz5) td40 rfl)) fun id10 τ ⟨hH, n11⟩ => ?_
  refine ma tk (.vec id10 1 (v8).length) rfl rfl (wpo_nil (awp_ret ?_))
  obtain rfl := oi H7
  exact ⟨_, .vec id10 1 (v8).length, rfl, wr, id10, rfl, n11, hH.noT⟩
theorem lines_Lines_Spoil_ok {x0 : lines_Lines} {x1 : Int} {x2 : Int} {x3 : BitVec 8} {r : Err × lines_Lines} (H : lines_Lines_Spoil x0 x1 x2 x3 = some r) (σ : St) {p0 p0_l c_p0_l : Nat} {g_p0_l : AV} (h0 : σ.objs[p0]? = some [g_p0_l, (eI x0.lost)]) (h0_l : σ.objs[p0_l]? = some (gK e_lines_parcel c_p0_l x0.l)) (hd : [p0, p0_l].Pairwise fun a b => a ≠ b) (gg_p0_l : GG p0_l 2 c_p0_l (x0.l).length g_p0_l) : ACall Tryz.prog 15 [(.ref p0 0), (eI x1), (eI x2), ((@eU .u8 8) x3)] σ (fun a τ => a = eErr r.1 ∧ τ = σ.grow [(p0, [(gC (σ.objs.length + 0) 2 c_p0_l (r.2.l).length), (eI r.2.lost)]), (p0_l, [])] [(gK e_lines_parcel c_p0_l r.2.l)] [] 0) := by
 unfold lines_Lines_Spoil at H
 refine ACall.outV (B := (fun f => [(p0, [(gC (f 0) 2 c_p0_l (r.2.l).length), (eI r.2.lost)]), (p0_l, [])])) (L := [(gK e_lines_parcel c_p0_l r.2.l)]) (fun ρ κ => encErr.cut ρ κ _) (by simp only [List.mem_cons, List.not_mem_nil, or_false]; rintro _ (rfl) ρ κ <;> exact gK_cut (by first | exact enc68.cut) _ _ ρ κ) (by intro f; simp only [List.mem_cons, List.not_mem_nil, or_false]; rintro _ (rfl | rfl) <;> exact (List.getElem?_eq_some_iff.1 (by assumption)).1) (fun ρ κ f f1 h1 h3 => (.cons rfl (.cons (cut_gC (h1 0 (by simp))) (.cons (.of_eq ((enc_i64 td3 sz3).cut ρ κ _)) .nil)) (.cons rfl .nil .nil))) (acall_start tk Tryz.func15 (by decide) rfl (nb rfl) ?_)
 have hH := Holds.brings (σ := σ) [(p0, [g_p0_l, (eI x0.lost)]), (p0_l, (gK e_lines_parcel c_p0_l x0.l))] (by simp only [List.mem_cons, List.not_mem_nil, or_false]; rintro _ (rfl | rfl) <;> assumption) hd
 refine AWP.wko hH 0 rfl (c1 := [(gC p0_l 2 c_p0_l (x0.l).length), (eI x0.lost)]) (.cons gg_p0_l.wk (.cons wr .nil)) fun τ (hH : Holds σ [(p0, [(gC p0_l 2 c_p0_l (x0.l).length), (eI x0.lost)]), (p0_l, (gK e_lines_parcel c_p0_l x0.l))] [] τ) => ?_
 refine AWP.renF (g := fun i => gC i 2 c_p0_l (x0.l).length) hH 0 1 0 rfl rfl (by decide) rfl ren_gC fun id1 τ (hH : Holds σ [(id1, (gK e_lines_parcel c_p0_l x0.l)), (p0, [(gC id1 2 c_p0_l (x0.l).length), (eI x0.lost)]), (p0_l, (cL e_lines_parcel ([] : List lines_parcel)))] [] τ) n2 => ?_
 refine sr rfl (ma tk (eErr Err.nil) rfl rfl (wpo_nil (awp_seq (sr rfl (mm tk (.ref p0 0) rfl rfl (mm tk (eI x1) rfl rfl ?_))))))
 refine wpo_bdr H eErr rfl rfl rfl (fun v4 hv => h_callr rfl rfl (.cons wr (.cons wr (.cons wr .nil))) (lines_Lines_at_ok hv _ (hH.at_ 1 rfl) (hH.at_ 0 rfl) (hH.pw [1, 0] rfl (by decide)) .c)) fun v4 hv4 H3 => ?_
 refine ma tk (eErr v4) rfl rfl (wpo_nil (sr rfl (mm tk (eErr v4) rfl rfl ?_)))
 refine l_ H3 eB rfl (o_err_neq tk rfl rfl rfl) fun v6 H5 => ?_
 refine wpo_nil ?_
 refine awp_if H5 rfl (fun H7 => ?_) (fun H7 => ?_)
 ·refine sr rfl (mm tk (eErr v4) rfl rfl (ma tk (eErr v4) rfl rfl (wpo_nil (awp_ret ?_))))
  obtain rfl := oi H7
  have hH : Holds σ [(id1, (gK e_lines_parcel c_p0_l x0.l)), (p0, [(gC id1 2 c_p0_l (x0.l).length), (eI x0.lost)]), (p0_l, (cL e_lines_parcel ([] : List lines_parcel)))] [] _ := hH
  have hF : Holds σ [(id1, (gK e_lines_parcel c_p0_l x0.l)), (p0, [(gC id1 2 c_p0_l (x0.l).length), (eI x0.lost)]), (p0_l, (cL e_lines_parcel ([] : List lines_parcel)))] [] _ := hH.pick (by simp only [List.mem_cons, List.not_mem_nil, or_false]; rintro _ (rfl | rfl | rfl) <;> simp) (pw_zip (hH.pw [0, 1, 2] rfl (by decide))) (by simp only [List.mem_cons, List.not_mem_nil, or_false]; rintro _ (rfl | rfl | rfl) <;> first | exact .inl (by assumption) | exact .inr (by simp)) (fun t h => by cases h) .nil
  exact ⟨_, (eErr v4), rfl, wr, rfl, fun i => [id1].getD i 0, by intro i hi; match i, hi with | 0, _ => exact n2 | k + 1, hi => exact absurd hi (by simp), hF⟩
 ·refine awp_skip (awp_seq (sr rfl (mm tk (.ref p0 0) rfl rfl (mc tk (.ref p0 0) rfl rfl (fun _ => rfl) (mc tk (.ref p0 0) rfl rfl (fun _ => rfl) (wpo_rd (a := (gC id1 2 c_p0_l (x0.l).length)) rfl rfl rfl (h_ld tk hH 1 rfl rfl rfl) (mm tk (eI x1) rfl rfl ?_)))))))
  refine b_ H7 (fun _ => .ref id1 (0 + (x1 : Int).toNat * 2 + 0)) rfl (fun v9 hv => o_gvecx tk hv td56 sz68 (by decide) rfl rfl) fun v9 hv9 H8 => ?_
  refine ma tk (.ref id1 (0 + (x1 : Int).toNat * 2 + 0)) rfl rfl (wpo_nil (awp_block (sr rfl (mm tk (.ref id1 (0 + (x1 : Int).toNat * 2 + 0)) rfl rfl (mc tk (.ref id1 (0 + (x1 : Int).toNat * 2 + 0)) rfl rfl (fun _ => rfl) (mc tk (.ref id1 (0 + (x1 : Int).toNat * 2 + 1)) rfl rfl (fun _ => rfl) ?_))))))
  refine wpo_bdr H8 (fun y => eB y.spoilt) rfl rfl rfl (fun v11 hv => h_ldxG tk hH 0 hv rfl enc68 rfl (by decide) rfl) fun v11 hv11 H10 => ?_
  refine ma tk (eB v11.spoilt) rfl rfl (wpo_nil ?_)
  refine awp_if H10 rfl (fun H12 => ?_) (fun H12 => ?_)
  ·refine sr rfl (mm tk (eI x1) rfl rfl ?_)
   refine b_ H12 eErr rfl (fun v14 hv => OpP.of_call rfl rfl (.cons wr (.cons wr (.cons wr .nil))) (trouble_New_ok hv)) fun v14 hv14 H13 => ?_
   refine ma tk (eErr v14) rfl rfl (wpo_nil (awp_ret ?_))
   obtain rfl := oi H13
   have hH : Holds σ [(id1, (gK e_lines_parcel c_p0_l x0.l)), (p0, [(gC id1 2 c_p0_l (x0.l).length), (eI x0.lost)]), (p0_l, (cL e_lines_parcel ([] : List lines_parcel)))] [] _ := hH
   have hF : Holds σ [(id1, (gK e_lines_parcel c_p0_l x0.l)), (p0, [(gC id1 2 c_p0_l (x0.l).length), (eI x0.lost)]), (p0_l, (cL e_lines_parcel ([] : List lines_parcel)))] [] _ := hH.pick (by simp only [List.mem_cons, List.not_mem_nil, or_false]; rintro _ (rfl | rfl | rfl) <;> simp) (pw_zip (hH.pw [0, 1, 2] rfl (by decide))) (by simp only [List.mem_cons, List.not_mem_nil, or_false]; rintro _ (rfl | rfl | rfl) <;> first | exact .inl (by assumption) | exact .inr (by simp)) (fun t h => by cases h) .nil
   exact ⟨_, (eErr v14), rfl, wr, rfl, fun i => [id1].getD i 0, by intro i hi; match i, hi with | 0, _ => exact n2 | k + 1, hi => exact absurd hi (by simp), hF⟩
  ·refine awp_seq ?_
   obtain ⟨s15, hs17, hj18⟩ := ob H12
   refine awp_cutn (fun fr τ => WkF fr (fm [(2, (eI x2)), (3, ((@eU .u8 8) x3)), (10, (.ref id1 (0 + (x1 : Int).toNat * 2 + 0))), (51, (eB s15))]) ∧ Holds σ [(id1, (gK e_lines_parcel c_p0_l x0.l)), (p0, [(gC id1 2 c_p0_l (x0.l).length), (eI x0.lost)]), (p0_l, (cL e_lines_parcel ([] : List lines_parcel)))] [] τ) ?_ ?_
   ·rintro fr τ ⟨hfr, hH⟩
    have H31 := hj18
    refine AWP.fm [(2, (eI x2)), (3, ((@eU .u8 8) x3)), (10, (.ref id1 (0 + (x1 : Int).toNat * 2 + 0))), (51, (eB s15))] hfr ?_
    refine awp_if H31 rfl (fun H32 => ?_) (fun H32 => ?_)
    ·refine sr rfl (mm tk (eI x2) rfl rfl ?_)
     refine b_ H32 eErr rfl (fun v34 hv => OpP.of_call rfl rfl (.cons wr (.cons wr (.cons wr .nil))) (trouble_New_ok hv)) fun v34 hv34 H33 => ?_
     refine ma tk (eErr v34) rfl rfl (wpo_nil (awp_ret ?_))
     obtain rfl := oi H33
     have hH : Holds σ [(id1, (gK e_lines_parcel c_p0_l x0.l)), (p0, [(gC id1 2 c_p0_l (x0.l).length), (eI x0.lost)]), (p0_l, (cL e_lines_parcel ([] : List lines_parcel)))] [] _ := hH
     have hF : Holds σ [(id1, (gK e_lines_parcel c_p0_l x0.l)), (p0, [(gC id1 2 c_p0_l (x0.l).length), (eI x0.lost)]), (p0_l, (cL e_lines_parcel ([] : List lines_parcel)))] [] _ := hH.pick (by simp only [List.mem_cons, List.not_mem_nil, or_false]; rintro _ (rfl | rfl | rfl) <;> simp) (pw_zip (hH.pw [0, 1, 2] rfl (by decide))) (by simp only [List.mem_cons, List.not_mem_nil, or_false]; rintro _ (rfl | rfl | rfl) <;> first | exact .inl (by assumption) | exact .inr (by simp)) (fun t h => by cases h) .nil
     exact ⟨_, (eErr v34), rfl, wr, rfl, fun i => [id1].getD i 0, by intro i hi; match i, hi with | 0, _ => exact n2 | k + 1, hi => exact absurd hi (by simp), hF⟩
    ·refine sr rfl (mm tk (.ref id1 (0 + (x1 : Int).toNat * 2 + 0)) rfl rfl (mm tk (.ref id1 (0 + (x1 : Int).toNat * 2 + 0)) rfl rfl (mc tk (.ref id1 (0 + (x1 : Int).toNat * 2 + 0)) rfl rfl (fun _ => rfl) (mc tk (.ref id1 (0 + (x1 : Int).toNat * 2 + 0)) rfl rfl (fun _ => rfl) ?_))))
     refine wpo_bdr H32 (fun y => (eL 1 (@eU .u8 8)) y.b) rfl rfl rfl (fun v36 hv => h_ldxG tk hH 0 hv rfl enc68 rfl (by decide) rfl) fun v36 hv36 H35 => ?_
     obtain ⟨v38, hv39, H37⟩ := ob H35
     refine wpo_a (av := fun b => .vec b 1 (v38).length) rfl rfl rfl (h_callv hH (cL (@eU .u8 8) _) rfl rfl (.cons wr .nil) (slices_Clone_byte_byteV_vec hv39 _)) fun id40 τ ⟨hH, n41⟩ => ?_
     refine mc tk (.ref id1 (0 + (x1 : Int).toNat * 2 + 0)) rfl rfl (fun _ => rfl) (mc tk (.ref id1 (0 + (x1 : Int).toNat * 2 + 0)) rfl rfl (fun _ => rfl) ?_)
     obtain ⟨v43, hv44, H42⟩ := ob H37
     have hH := Holds.cells hH 1 (cLh e_lines_parcel x0.l (x1 : Int).toNat [((eL 1 (@eU .u8 8)) v43.b), (eB v43.spoilt)]) rfl (gK_open hv44)
     refine wpo_z rfl rfl (h_sth (y := (.vec id40 1 (v38).length)) tk hH 1 hv44 rfl enc68 ty40 (by simp) rfl rfl wr (b := (.vec id40 1 (v38).length)) rfl rfl rfl (by decide) (nb rfl) rfl) fun τ (hH : Holds σ [(id40, (cL (@eU .u8 8) v38)), (id1, (cLh e_lines_parcel x0.l (x1 : Int).toNat [(.vec id40 1 (v38).length), (eB v43.spoilt)])), (p0, [(gC id1 2 c_p0_l (x0.l).length), (eI x0.lost)]), (p0_l, (cL e_lines_parcel ([] : List lines_parcel)))] [] τ) => ?_
     refine wpo_nil (sr rfl (mm tk (.ref id1 (0 + (x1 : Int).toNat * 2 + 0)) rfl rfl (mc tk (.ref id1 (0 + (x1 : Int).toNat * 2 + 0)) rfl rfl (fun _ => rfl) (mc tk (.ref id1 (0 + (x1 : Int).toNat * 2 + 0)) rfl rfl (fun _ => rfl) (wpo_rd (a := (.vec id40 1 (v38).length)) rfl rfl rfl (h_ldh tk hH 1 hv44 rfl enc68 rfl rfl rfl (by decide) rfl rfl) (mm tk (eI x2) rfl rfl ?_))))))
     refine b_ H42 (fun _ => .ref id40 (0 + (x2 : Int).toNat * 1 + 0)) rfl (fun v46 hv => o_vecx tk hv td40 sz5 (by decide) rfl rfl) fun v46 hv46 H45 => ?_
     refine wpo_bdr H45 (fun y => (@eU .u8 8) y) rfl rfl rfl (fun v48 hv => h_ldx tk hH 0 hv rfl (enc_u td5 sz5) (acut_enc (enc_u td5 sz5) rfl _) (by decide) rfl) fun v48 hv48 H47 => ?_
     refine mm tk ((@eU .u8 8) x3) rfl rfl ?_
     refine l_ H47 (@eU .u8 8) rfl (o_xor_u tk rfl rfl rfl) fun v50 H49 => ?_
     refine b_ H49 (fun _ => .ref id40 (0 + (x2 : Int).toNat * 1 + 0)) rfl (fun v52 hv => o_vecx tk hv td40 sz5 (by decide) rfl rfl) fun v52 hv52 H51 => ?_
     obtain ⟨c54, hc55, H53⟩ := ob H51
     refine wpo_z rfl rfl (h_stx tk hH 0 hc55 rfl (enc_u td5 sz5) ty5 (by simp) rfl rfl wr (b := ((@eU .u8 8) v50)) rfl rfl (by decide) (fun _ => rfl)) fun τ hH => ?_
     refine wpo_nil (awp_region rfl (mm tk (.ref id1 (0 + (x1 : Int).toNat * 2 + 0)) rfl rfl (mc tk (.ref id1 (0 + (x1 : Int).toNat * 2 + 0)) rfl rfl (fun _ => rfl) (mc tk (.ref id1 (0 + (x1 : Int).toNat * 2 + 1)) rfl rfl (fun _ => rfl) ?_))))
     refine wpo_z rfl rfl (h_sth (y := (eB true)) tk hH 1 hv44 rfl enc68 ty4 (by simp) rfl rfl wr (b := (eB true)) rfl rfl rfl (by decide) (nb rfl) rfl) fun τ (hH : Holds σ [(id40, (cL (@eU .u8 8) c54)), (id1, (cLh e_lines_parcel x0.l (x1 : Int).toNat [(.vec id40 1 (v38).length), (eB ({ v43 with spoilt := true } : lines_parcel).spoilt)])), (p0, [(gC id1 2 c_p0_l (x0.l).length), (eI x0.lost)]), (p0_l, (cL e_lines_parcel ([] : List lines_parcel)))] [] τ) => ?_
     refine wpo_nil (awp_seq ?_)
     refine AWP.closeH (y := ({ ({ v43 with spoilt := true } : lines_parcel) with b := c54 } : lines_parcel)) hH 1 0 0 hv44 rfl rfl n41 (by decide) enc68 (enc_u td5 sz5) rfl (updA_len hc55) rfl (by decide) (fun tk => (.cons wk_no (.cons wr .nil))) fun tk57 τ (hH : Holds σ [(id1, (gK e_lines_parcel c_p0_l (x0.l.set (x1 : Int).toNat ({ ({ v43 with spoilt := true } : lines_parcel) with b := c54 } : lines_parcel)))), (p0, [(gC id1 2 c_p0_l (x0.l).length), (eI x0.lost)]), (p0_l, (cL e_lines_parcel ([] : List lines_parcel)))] [tk57] τ) => ?_
     refine awp_region rfl (ma tk (eErr Err.nil) rfl rfl (wpo_nil (awp_ret ?_)))
     have hH : Holds σ [(id1, (gK e_lines_parcel c_p0_l (x0.l.set (x1 : Int).toNat ({ ({ v43 with spoilt := true } : lines_parcel) with b := c54 } : lines_parcel)))), (p0, [(gC id1 2 c_p0_l (((x0.l.set (x1 : Int).toNat ({ ({ v43 with spoilt := true } : lines_parcel) with b := c54 } : lines_parcel))).length)), (eI x0.lost)]), (p0_l, (cL e_lines_parcel ([] : List lines_parcel)))] [tk57] _ := (Holds.cells hH 1 [(gC id1 2 c_p0_l (((x0.l.set (x1 : Int).toNat ({ ({ v43 with spoilt := true } : lines_parcel) with b := c54 } : lines_parcel))).length)), (eI x0.lost)] rfl (by first | rfl | simp only [List.length_set]))
     obtain rfl := oi H53
     have hH : Holds σ [(id1, (gK e_lines_parcel c_p0_l (x0.l.set (x1 : Int).toNat ({ ({ v43 with spoilt := true } : lines_parcel) with b := c54 } : lines_parcel)))), (p0, [(gC id1 2 c_p0_l (((x0.l.set (x1 : Int).toNat ({ ({ v43 with spoilt := true } : lines_parcel) with b := c54 } : lines_parcel))).length)), (eI x0.lost)]), (p0_l, (cL e_lines_parcel ([] : List lines_parcel)))] [tk57] _ := hH
     have hF : Holds σ [(id1, (gK e_lines_parcel c_p0_l (x0.l.set (x1 : Int).toNat ({ ({ v43 with spoilt := true } : lines_parcel) with b := c54 } : lines_parcel)))), (p0, [(gC id1 2 c_p0_l (((x0.l.set (x1 : Int).toNat ({ ({ v43 with spoilt := true } : lines_parcel) with b := c54 } : lines_parcel))).length)), (eI x0.lost)]), (p0_l, (cL e_lines_parcel ([] : List lines_parcel)))] [] _ := hH.pick (by simp only [List.mem_cons, List.not_mem_nil, or_false]; rintro _ (rfl | rfl | rfl) <;> simp) (pw_zip (hH.pw [0, 1, 2] rfl (by decide))) (by simp only [List.mem_cons, List.not_mem_nil, or_false]; rintro _ (rfl | rfl | rfl) <;> first | exact .inl (by assumption) | exact .inr (by simp)) (fun t h => by cases h) .nil
     exact ⟨_, (eErr Err.nil), rfl, wr, rfl, fun i => [id1].getD i 0, by intro i hi; match i, hi with | 0, _ => exact n2 | k + 1, hi => exact absurd hi (by simp), hF⟩
   ·refine awp_region rfl (mm tk (eI x2) rfl rfl ?_)
    refine l_ hs17 eB rfl (o_ar tk rfl rfl rfl) fun v20 H19 => ?_
    refine mm tk (eB v20) rfl rfl ?_
    refine if_split H19 (fun hb H21 => ?_) (fun hb H21 => ?_)
    ·subst hb
     refine k_ rfl (k_ rfl (k_ rfl (k_ rfl (k_ rfl (k_ rfl (k_ rfl (pt tk (eB true) rfl rfl rfl (mm tk (eB true) rfl rfl ?_))))))))
     refine k_ rfl (k_ rfl (pt tk (eB true) rfl rfl rfl (ma tk (eB true) rfl rfl (wpo_nil ?_))))
     have e := oi H21
     subst e
     exact ⟨(wc (wc (wc (wc (wkf_nil _))))), hH⟩
    ·subst hb
     refine mm tk (eI x2) rfl rfl (mm tk (.ref id1 (0 + (x1 : Int).toNat * 2 + 0)) rfl rfl (mc tk (.ref id1 (0 + (x1 : Int).toNat * 2 + 0)) rfl rfl (fun _ => rfl) (mc tk (.ref id1 (0 + (x1 : Int).toNat * 2 + 0)) rfl rfl (fun _ => rfl) ?_)))
     refine wpo_bdr H21 (fun y => (eL 1 (@eU .u8 8)) y.b) rfl rfl rfl (fun v23 hv => h_ldxG tk hH 0 hv rfl enc68 rfl (by decide) rfl) fun v23 hv23 H22 => ?_
     refine l_ H22 eI rfl (o_len tk td40 rfl) fun v25 H24 => ?_
     refine l_ H24 eB rfl (o_ar tk rfl rfl rfl) fun v27 H26 => ?_
     refine pf tk (eB v27) rfl rfl rfl (mm tk (eB v27) rfl rfl ?_)
     refine if_split H26 (fun hb H28 => ?_) (fun hb H28 => ?_)
     ·subst hb
      refine k_ rfl (k_ rfl (pt tk (eB true) rfl rfl rfl (ma tk (eB true) rfl rfl (wpo_nil ?_))))
      have e := oi H28
      subst e
      exact ⟨(wc (wc (wc (wc (wkf_nil _))))), hH⟩
     ·subst hb
      refine mm tk ((@eU .u8 8) x3) rfl rfl ?_
      refine l_ H28 eB rfl (o_eql_u tk rfl rfl) fun v30 H29 => ?_
      refine pf tk (eB v30) rfl rfl rfl (ma tk (eB v30) rfl rfl (wpo_nil ?_))
      have e := oi H29
      subst e
      exact ⟨(wc (wc (wc (wc (wkf_nil _))))), hH⟩
theorem lines_Lines_Twice_ok {x0 : lines_Lines} {x1 : Int} {r : Err × lines_Lines} (H : lines_Lines_Twice x0 x1 = some r) (σ : St) {p0 p0_l c_p0_l : Nat} {g_p0_l : AV} (h0 : σ.objs[p0]? = some [g_p0_l, (eI x0.lost)]) (h0_l : σ.objs[p0_l]? = some (gK e_lines_parcel c_p0_l x0.l)) (hd : [p0, p0_l].Pairwise fun a b => a ≠ b) (gg_p0_l : GG p0_l 2 c_p0_l (x0.l).length g_p0_l) : ACall Tryz.prog 16 [(.ref p0 0), (eI x1)] σ (fun a τ => a = eErr r.1 ∧ τ = σ.grow [(p0, [(gC (σ.objs.length + 0) 2 c_p0_l (r.2.l).length), (eI r.2.lost)]), (p0_l, [])] [(gK e_lines_parcel c_p0_l r.2.l)] [] 0) := by
 unfold lines_Lines_Twice at H
 refine ACall.outV (B := (fun f => [(p0, [(gC (f 0) 2 c_p0_l (r.2.l).length), (eI r.2.lost)]), (p0_l, [])])) (L := [(gK e_lines_parcel c_p0_l r.2.l)]) (fun ρ κ => encErr.cut ρ κ _) (by simp only [List.mem_cons, List.not_mem_nil, or_false]; rintro _ (rfl) ρ κ <;> exact gK_cut (by first | exact enc68.cut) _ _ ρ κ) (by intro f; simp only [List.mem_cons, List.not_mem_nil, or_false]; rintro _ (rfl | rfl) <;> exact (List.getElem?_eq_some_iff.1 (by assumption)).1) (fun ρ κ f f1 h1 h3 => (.cons rfl (.cons (cut_gC (h1 0 (by simp))) (.cons (.of_eq ((enc_i64 td3 sz3).cut ρ κ _)) .nil)) (.cons rfl .nil .nil))) (acall_start tk Tryz.func16 (by decide) rfl (nb rfl) ?_)
 have hH := Holds.brings (σ := σ) [(p0, [g_p0_l, (eI x0.lost)]), (p0_l, (gK e_lines_parcel c_p0_l x0.l))] (by simp only [List.mem_cons, List.not_mem_nil, or_false]; rintro _ (rfl | rfl) <;> assumption) hd
 refine AWP.wko hH 0 rfl (c1 := [(gC p0_l 2 c_p0_l (x0.l).length), (eI x0.lost)]) (.cons gg_p0_l.wk (.cons wr .nil)) fun τ (hH : Holds σ [(p0, [(gC p0_l 2 c_p0_l (x0.l).length), (eI x0.lost)]), (p0_l, (gK e_lines_parcel c_p0_l x0.l))] [] τ) => ?_
 refine AWP.renF (g := fun i => gC i 2 c_p0_l (x0.l).length) hH 0 1 0 rfl rfl (by decide) rfl ren_gC fun id1 τ (hH : Holds σ [(id1, (gK e_lines_parcel c_p0_l x0.l)), (p0, [(gC id1 2 c_p0_l (x0.l).length), (eI x0.lost)]), (p0_l, (cL e_lines_parcel ([] : List lines_parcel)))] [] τ) n2 => ?_
 refine sr rfl (ma tk (eErr Err.nil) rfl rfl (wpo_nil (awp_seq (sr rfl (mm tk (.ref p0 0) rfl rfl (mm tk (eI x1) rfl rfl ?_))))))
 refine wpo_bdr H eErr rfl rfl rfl (fun v4 hv => h_callr rfl rfl (.cons wr (.cons wr (.cons wr .nil))) (lines_Lines_at_ok hv _ (hH.at_ 1 rfl) (hH.at_ 0 rfl) (hH.pw [1, 0] rfl (by decide)) .c)) fun v4 hv4 H3 => ?_
 refine ma tk (eErr v4) rfl rfl (wpo_nil (sr rfl (mm tk (eErr v4) rfl rfl ?_)))
 refine l_ H3 eB rfl (o_err_neq tk rfl rfl rfl) fun v6 H5 => ?_
 refine wpo_nil ?_
 refine awp_if H5 rfl (fun H7 => ?_) (fun H7 => ?_)
 ·refine sr rfl (mm tk (eErr v4) rfl rfl (ma tk (eErr v4) rfl rfl (wpo_nil (awp_ret ?_))))
  obtain rfl := oi H7
  have hH : Holds σ [(id1, (gK e_lines_parcel c_p0_l x0.l)), (p0, [(gC id1 2 c_p0_l (x0.l).length), (eI x0.lost)]), (p0_l, (cL e_lines_parcel ([] : List lines_parcel)))] [] _ := hH
  have hF : Holds σ [(id1, (gK e_lines_parcel c_p0_l x0.l)), (p0, [(gC id1 2 c_p0_l (x0.l).length), (eI x0.lost)]), (p0_l, (cL e_lines_parcel ([] : List lines_parcel)))] [] _ := hH.pick (by simp only [List.mem_cons, List.not_mem_nil, or_false]; rintro _ (rfl | rfl | rfl) <;> simp) (pw_zip (hH.pw [0, 1, 2] rfl (by decide))) (by simp only [List.mem_cons, List.not_mem_nil, or_false]; rintro _ (rfl | rfl | rfl) <;> first | exact .inl (by assumption) | exact .inr (by simp)) (fun t h => by cases h) .nil
  exact ⟨_, (eErr v4), rfl, wr, rfl, fun i => [id1].getD i 0, by intro i hi; match i, hi with | 0, _ => exact n2 | k + 1, hi => exact absurd hi (by simp), hF⟩
 ·refine awp_skip (awp_seq (sr rfl (mm tk (.ref p0 0) rfl rfl (mc tk (.ref p0 0) rfl rfl (fun _ => rfl) (mc tk (.ref p0 0) rfl rfl (fun _ => rfl) (wpo_rd (a := (gC id1 2 c_p0_l (x0.l).length)) rfl rfl rfl (h_ld tk hH 1 rfl rfl rfl) ?_))))))
  refine l_ H7 eI rfl (o_glen tk td56 rfl) fun v9 H8 => ?_
  refine l_ H8 eB rfl (o_ar tk rfl rfl rfl) fun v11 H10 => ?_
  refine wpo_nil ?_
  refine awp_if H10 rfl (fun H12 => ?_) (fun H12 => ?_)
  ·refine sr rfl (mm tk (eI x1) rfl rfl ?_)
   refine b_ H12 eErr rfl (fun v14 hv => OpP.of_call rfl rfl (.cons wr (.cons wr (.cons wr .nil))) (trouble_New_ok hv)) fun v14 hv14 H13 => ?_
   refine ma tk (eErr v14) rfl rfl (wpo_nil (awp_ret ?_))
   obtain rfl := oi H13
   have hH : Holds σ [(id1, (gK e_lines_parcel c_p0_l x0.l)), (p0, [(gC id1 2 c_p0_l (x0.l).length), (eI x0.lost)]), (p0_l, (cL e_lines_parcel ([] : List lines_parcel)))] [] _ := hH
   have hF : Holds σ [(id1, (gK e_lines_parcel c_p0_l x0.l)), (p0, [(gC id1 2 c_p0_l (x0.l).length), (eI x0.lost)]), (p0_l, (cL e_lines_parcel ([] : List lines_parcel)))] [] _ := hH.pick (by simp only [List.mem_cons, List.not_mem_nil, or_false]; rintro _ (rfl | rfl | rfl) <;> simp) (pw_zip (hH.pw [0, 1, 2] rfl (by decide))) (by simp only [List.mem_cons, List.not_mem_nil, or_false]; rintro _ (rfl | rfl | rfl) <;> first | exact .inl (by assumption) | exact .inr (by simp)) (fun t h => by cases h) .nil
   exact ⟨_, (eErr v14), rfl, wr, rfl, fun i => [id1].getD i 0, by intro i hi; match i, hi with | 0, _ => exact n2 | k + 1, hi => exact absurd hi (by simp), hF⟩
  ·refine awp_skip (sr rfl (mm tk (.ref p0 0) rfl rfl (mc tk (.ref p0 0) rfl rfl (fun _ => rfl) (mc tk (.ref p0 0) rfl rfl (fun _ => rfl) (wpo_rd (a := (gC id1 2 c_p0_l (x0.l).length)) rfl rfl rfl (h_ld tk hH 1 rfl rfl rfl) (mm tk (eI x1) rfl rfl ?_))))))
   refine b_ H12 (fun _ => .ref id1 (0 + (x1 : Int).toNat * 2 + 0)) rfl (fun v16 hv => o_gvecx tk hv td56 sz68 (by decide) rfl rfl) fun v16 hv16 H15 => ?_
   refine mc tk (.ref id1 (0 + (x1 : Int).toNat * 2 + 0)) rfl rfl (fun _ => rfl) ?_
   refine wpo_bdr H15 (fun y => (eL 1 (@eU .u8 8)) y.b) rfl rfl rfl (fun v18 hv => h_ldxG tk hH 0 hv rfl enc68 rfl (by decide) rfl) fun v18 hv18 H17 => ?_
   refine l_ H17 eI rfl (o_len tk td40 rfl) fun v20 H19 => ?_
   obtain ⟨v22, hv23, H21⟩ := ob H19
   refine wpo_a (av := fun b => .vec b 1 (v22).length) rfl rfl rfl (h_makeV (e := (@eU .u8 8)) tk hH hv23 td40 ty5 rfl rfl rfl rfl) fun id24 τ ⟨hH, n25⟩ => ?_
   refine ma tk (.vec id24 1 (v22).length) rfl rfl (wpo_nil (sr rfl (mm tk (.vec id24 1 (v22).length) rfl rfl (mm tk (.ref p0 0) rfl rfl (mc tk (.ref p0 0) rfl rfl (fun _ => rfl) (mc tk (.ref p0 0) rfl rfl (fun _ => rfl) (wpo_rd (a := (gC id1 2 c_p0_l (x0.l).length)) rfl rfl rfl (h_ld tk hH 2 rfl rfl rfl) (mm tk (eI x1) rfl rfl ?_))))))))
   refine b_ H21 (fun _ => .ref id1 (0 + (x1 : Int).toNat * 2 + 0)) rfl (fun v27 hv => o_gvecx tk hv td56 sz68 (by decide) rfl rfl) fun v27 hv27 H26 => ?_
   refine mc tk (.ref id1 (0 + (x1 : Int).toNat * 2 + 0)) rfl rfl (fun _ => rfl) ?_
   refine wpo_bdr H26 (fun y => (eL 1 (@eU .u8 8)) y.b) rfl rfl rfl (fun v29 hv => h_ldxG tk hH 1 hv rfl enc68 rfl (by decide) rfl) fun v29 hv29 H28 => ?_
   obtain ⟨c31, hc32, H30⟩ := ob H28
   refine wpo_a (av := fun _ => eI ((v29.b).length : Int)) rfl rfl rfl (h_cpV tk hH 0 hc32 rfl (enc_u td5 sz5) td40 ty5 rfl (by simp) rfl rfl (srv_l (enc_u td5 sz5) td40 rfl)) fun _ τ (hH : Holds σ [(id24, (cL (@eU .u8 8) c31)), (id1, (gK e_lines_parcel c_p0_l x0.l)), (p0, [(gC id1 2 c_p0_l (x0.l).length), (eI x0.lost)]), (p0_l, (cL e_lines_parcel ([] : List lines_parcel)))] [] τ) => ?_
   refine wpo_nil (awp_seq ?_)
   refine AWP.frz hH 0 6 rfl n25 (enc_u td5 sz5) rfl (cpL_len hc32) fun tk33 τ (hH : Holds σ [(id1, (gK e_lines_parcel c_p0_l x0.l)), (p0, [(gC id1 2 c_p0_l (x0.l).length), (eI x0.lost)]), (p0_l, (cL e_lines_parcel ([] : List lines_parcel)))] [tk33] τ) => ?_
   refine awp_drawS mixed [16, 19] rfl (by decide +kernel) rfl rfl ?_
   refine wpdS_mv (a := (.ref p0 0)) rfl rfl rfl (o_mv tk rfl (Wk.refl _)) (wpdS_mv (a := (.ref p0 0)) rfl rfl rfl (o_mv tk rfl (Wk.refl _)) (wpdS_mv (a := (.ref p0 0)) rfl rfl rfl (o_c tk false rfl (fun _ => rfl)) (wpdS_mv (a := (.ref p0 0)) rfl rfl rfl (o_c tk false rfl (fun _ => rfl)) (wpdS_rd (a := (gC id1 2 c_p0_l (x0.l).length)) rfl (by decide +kernel) rfl rfl (h_ld tk hH 1 rfl rfl rfl) (wpdS_mv (a := (eT tk33 1 (@eU .u8 8) c31)) rfl rfl rfl (o_mv tk rfl (Wk.refl _)) (wpdS_mv (a := (.ref p0 0)) rfl rfl rfl (o_mv tk rfl (Wk.refl _)) (wpdS_mv (a := (.ref p0 0)) rfl rfl rfl (o_c tk false rfl (fun _ => rfl)) (wpdS_mv (a := (.ref p0 0)) rfl rfl rfl (o_c tk false rfl (fun _ => rfl)) ?_))))))))
   refine wpdS_rd (a := (gC id1 2 c_p0_l (x0.l).length)) rfl (by decide +kernel) rfl rfl (h_ld tk hH 1 rfl rfl rfl) (wpdS_mv (a := (eI x1)) rfl rfl rfl (o_mv tk rfl (Wk.refl _)) ?_)
   refine wpdS_bd H30 (fun _ => .ref id1 (0 + (x1 : Int).toNat * 2 + 0)) rfl rfl rfl (fun v35 hv => o_gvecx tk hv td56 sz68 (by decide) rfl rfl) fun v35 hv35 H34 => ?_
   refine wpdS_mv (a := (.ref id1 (0 + (x1 : Int).toNat * 2 + 1))) rfl rfl rfl (o_c tk false rfl (fun _ => rfl)) ?_
   refine wpdS_bdr H34 (fun y => eB y.spoilt) rfl (by decide +kernel) rfl rfl (fun v37 hv => h_ldxG tk hH 0 hv rfl enc68 rfl (by decide) rfl) fun v37 hv37 H36 => ?_
   refine wpdS_lt H36 e_lines_parcel rfl rfl rfl (OpP.wk (wkf_up (t := 46) (a := ((eL 1 (@eU .u8 8)) c31)) wk_no) (o_c tk false rfl (fun _ => rfl))) fun v39 H38 => ?_
   refine wpdS_mv (a := (eF 2 e_lines_parcel ([v39] : List lines_parcel))) rfl rfl rfl (o_c tk false rfl (fun _ => rfl)) ?_
   obtain ⟨v41, hv42, H40⟩ := ob H38
   refine wpdS_a (av := fun b => gC b 2 c_p0_l (v41).length) rfl rfl rfl (h_appG tk hH 0 hv42 rfl rfl n2 enc68 td56 ty68 rfl (by decide) rfl rfl (srv_l enc68 td56 rfl)) fun id43 τ ⟨hH, n44⟩ => ?_
   refine wpdS_mv (a := (.ref p0 0)) rfl rfl rfl (o_c tk false rfl (fun _ => rfl)) (wpdS_mv (a := (.ref p0 0)) rfl rfl rfl (o_c tk false rfl (fun _ => rfl)) ?_)
   refine wpdS_z rfl rfl rfl (h_st (y := (gC id43 2 c_p0_l (v41).length)) tk hH 1 rfl ty56 (by simp) rfl rfl wr (b := (gC id43 2 c_p0_l (v41).length)) (gC_flat _ _ _ _) (gC_one _ _ _ _) (nb rfl) [(gC id43 2 c_p0_l (v41).length), (eI ({ x0 with l := v41 } : lines_Lines).lost)] (by rw [gC_cells]; rfl)) fun τ hH => ?_
   refine wpdS_nil (sr rfl (ma tk (eErr Err.nil) rfl rfl (wpo_nil (awp_ret ?_))))
   obtain rfl := oi H40
   have hH : Holds σ [(id43, (gK e_lines_parcel c_p0_l v41)), (p0, [(gC id43 2 c_p0_l (v41).length), (eI ({ x0 with l := v41 } : lines_Lines).lost)]), (p0_l, (cL e_lines_parcel ([] : List lines_parcel)))] [tk33] _ := hH
   have hF : Holds σ [(id43, (gK e_lines_parcel c_p0_l v41)), (p0, [(gC id43 2 c_p0_l (v41).length), (eI ({ x0 with l := v41 } : lines_Lines).lost)]), (p0_l, (cL e_lines_parcel ([] : List lines_parcel)))] [] _ := hH.pick (by simp only [List.mem_cons, List.not_mem_nil, or_false]; rintro _ (rfl | rfl | rfl) <;> simp) (pw_zip (hH.pw [0, 1, 2] rfl (by decide))) (by simp only [List.mem_cons, List.not_mem_nil, or_false]; rintro _ (rfl | rfl | rfl) <;> first | exact .inl (by assumption) | exact .inr (by simp)) (fun t h => by cases h) .nil
   exact ⟨_, (eErr Err.nil), rfl, wr, rfl, fun i => [id43].getD i 0, by intro i hi; match i, hi with | 0, _ => exact n44 | k + 1, hi => exact absurd hi (by simp), hF⟩
end Go.Proofs.YtedcgeghgbgonaaGreatDoor
namespace Go.Proofs.YtedcgeghgbgonaaGreatDoor
open Go Go.Va Go.RowKit
set_option linter.unusedVariables false
set_option linter.unusedSimpArgs false
set_option maxRecDepth 20000
def mkE (k : Int) : AV := .iface 97 (.agg [eI k])
theorem fis_ok (o : List (BitVec 8)) (a c : Int) (u : Err) (k : Int) (σ : St) : ACall Tryz.prog 107 [.fptr [eS o, eI a, eI c, eErr u] 0, mkE k] σ (fun b τ => b = eB (c == k && c != 0) ∧ τ = σ) := by
  refine ACall.pure (acall_start tk Tryz.func107 (by decide) rfl (Nat.le_of_ble_eq_true rfl) ?_)
  have hH := Holds.init σ
  refine awp_seq ?_
  refine awp_region rfl ?_
  refine wpo_mv (a := eB false) rfl rfl rfl (o_as tk rfl (Wk.refl _)) ?_
  refine wpo_nil ?_
  refine awp_seq ?_
  refine awp_region rfl ?_
  refine wpo_mv (a := mkE k) rfl rfl rfl (o_mv tk rfl (Wk.refl _)) ?_
  refine wpo_mv (a := .tup [.agg [eI k], eB true]) rfl rfl rfl (o_ta (z := fun v => v) rfl (fun v w => by simp [Instr.typeAssert, run_underlying Tryz.underlying97, Result.andThen]) (fun G v h => h)) ?_
  refine wpo_mv (a := .tup [.agg [eI k], eB true]) rfl rfl rfl (o_mv tk rfl (Wk.refl _)) ?_
  refine wpo_mv (a := .agg [eI k]) rfl rfl rfl (o_ext tk rfl rfl) ?_
  refine wpo_mv (a := eB true) rfl rfl rfl (o_ext tk rfl rfl) ?_
  refine wpo_a (av := fun id => .ref id 0) rfl rfl rfl (h_alloc tk hH ty97 [eI 0] rfl) fun id τ ⟨hH, hn⟩ => ?_
  refine wpo_z rfl rfl (h_st tk hH 0 rfl ty97 (by simp) rfl rfl (Wk.refl _) rfl rfl (by decide) [eI k] rfl) fun τ hH => ?_
  refine wpo_mv (a := eB true) rfl rfl rfl (o_as tk rfl (Wk.refl _)) ?_
  refine wpo_nil ?_
  refine awp_seq ?_
  refine awp_drawS mixed [] rfl (by decide +kernel) rfl rfl ?_
  refine wpdS_mv (a := eB true) rfl rfl rfl (o_mv tk rfl (Wk.refl _)) ?_
  refine wpdS_mv (a := eB true) rfl rfl rfl (o_mv tk rfl (Wk.refl _)) ?_
  refine wpdS_mv (a := .fptr [eS o, eI a, eI c, eErr u] 0) rfl rfl rfl (o_mv tk rfl (Wk.refl _)) ?_
  refine wpdS_mv (a := .fptr [eS o, eI a, eI c, eErr u] 0) rfl rfl rfl (o_c tk false rfl (fun _ => rfl)) ?_
  refine wpdS_mv (a := .fptr [eS o, eI a, eI c, eErr u] 2) rfl rfl rfl (o_c tk false rfl (fun _ => rfl)) ?_
  refine wpdS_mv (a := eI c) rfl rfl rfl (o_ld tk rfl rfl) ?_
  refine wpdS_mv (a := .ref id 0) rfl rfl rfl (o_c tk false rfl (fun _ => rfl)) ?_
  refine wpdS_rd (a := eI k) rfl (by decide +kernel) rfl rfl (h_ld tk hH 0 rfl rfl rfl) ?_
  cases hck : (c == k) with
  | false =>
    refine wpdS_mv (a := eB false) rfl rfl rfl (by rw [← hck]; exact o_ar tk rfl rfl rfl) ?_
    refine wpdS_mv (a := eB false) rfl rfl rfl (o_pick_t tk rfl rfl (Wk.refl _)) ?_
    refine wpdS_mv (a := eB false) rfl rfl rfl (o_mv tk rfl (Wk.refl _)) ?_
    refine wpdS_skip rfl rfl rfl ?_
    refine wpdS_skip rfl rfl rfl ?_
    refine wpdS_skip rfl rfl rfl ?_
    refine wpdS_skip rfl rfl rfl ?_
    refine wpdS_skip rfl rfl rfl ?_
    refine wpdS_mv (a := eB false) rfl rfl rfl (o_pick_f tk rfl rfl (Wk.refl _)) ?_
    refine wpdS_mv (a := eB false) rfl rfl rfl (o_as tk rfl (Wk.refl _)) ?_
    refine wpdS_nil ?_
    refine awp_ret ?_
    exact ⟨_, (eB false), rfl, (.of_eq rfl), .of_eq rfl, (hH.noT.drop hn)⟩
  | true =>
    refine wpdS_mv (a := eB true) rfl rfl rfl (by rw [← hck]; exact o_ar tk rfl rfl rfl) ?_
    refine wpdS_mv (a := eB true) rfl rfl rfl (o_pick_t tk rfl rfl (Wk.refl _)) ?_
    refine wpdS_mv (a := eB true) rfl rfl rfl (o_mv tk rfl (Wk.refl _)) ?_
    refine wpdS_mv (a := .fptr [eS o, eI a, eI c, eErr u] 0) rfl rfl rfl (o_mv tk rfl (Wk.refl _)) ?_
    refine wpdS_mv (a := .fptr [eS o, eI a, eI c, eErr u] 0) rfl rfl rfl (o_c tk false rfl (fun _ => rfl)) ?_
    refine wpdS_mv (a := .fptr [eS o, eI a, eI c, eErr u] 2) rfl rfl rfl (o_c tk false rfl (fun _ => rfl)) ?_
    refine wpdS_mv (a := eI c) rfl rfl rfl (o_ld tk rfl rfl) ?_
    refine wpdS_mv (a := eB (c != 0)) rfl rfl rfl (o_ar tk rfl rfl rfl) ?_
    refine wpdS_mv (a := eB (c != 0)) rfl rfl rfl (o_pick_t tk rfl rfl (Wk.refl _)) ?_
    refine wpdS_mv (a := eB (c != 0)) rfl rfl rfl (o_as tk rfl (Wk.refl _)) ?_
    refine wpdS_nil ?_
    refine awp_ret ?_
    exact ⟨_, (eB (c != 0)), rfl, (.of_eq rfl), .of_eq rfl, (hH.noT.drop hn)⟩
theorem fun_ok (o : List (BitVec 8)) (a c : Int) (u : Err) (σ : St) : ACall Tryz.prog 108 [.fptr [eS o, eI a, eI c, eErr u] 0] σ (fun b τ => b = eErr u ∧ τ = σ) := by
  refine ACall.pure (acall_start tk Tryz.func108 (by decide) rfl (Nat.le_of_ble_eq_true rfl) ?_)
  have hH := Holds.init σ
  refine awp_seq ?_
  refine awp_region rfl ?_
  refine wpo_mv (a := .nili) rfl rfl rfl (o_as tk rfl (Wk.refl _)) ?_
  refine wpo_nil ?_
  refine awp_seq ?_
  refine awp_region rfl ?_
  refine wpo_mv (a := .fptr [eS o, eI a, eI c, eErr u] 0) rfl rfl rfl (o_mv tk rfl (Wk.refl _)) ?_
  refine wpo_mv (a := .fptr [eS o, eI a, eI c, eErr u] 0) rfl rfl rfl (o_c tk false rfl (fun _ => rfl)) ?_
  refine wpo_mv (a := .fptr [eS o, eI a, eI c, eErr u] 3) rfl rfl rfl (o_c tk false rfl (fun _ => rfl)) ?_
  refine wpo_mv (a := eErr u) rfl rfl rfl (o_ld tk rfl (by cases u <;> rfl)) ?_
  refine wpo_mv (a := eErr u) rfl rfl rfl (o_as tk rfl (Wk.refl _)) ?_
  refine wpo_nil ?_
  refine awp_ret ?_
  exact ⟨_, (eErr u), rfl, (.of_eq rfl), .of_eq (encErr.cut _ _ _), hH.noT⟩
abbrev FltT := List (BitVec 8) × Int × Int × Err
def FltT.e (s : FltT) : Err := .fault s.1 s.2.1 s.2.2.1 s.2.2.2
def is_b0 (k : Int) (s : FltT) : Option (FltT ⊕ Bool) := if (s.2.2.1 == k && s.2.2.1 != 0) = true then some (.inr true) else match s.2.2.2 with
  | .nil => some (.inr false)
  | .fault o a c u => some (.inl (o, a, c, u))
theorem is_l0 (k : Int) : ∀ (u : Err) (o : List (BitVec 8)) (a c : Int), loopO (is_b0 k) (o, a, c, u) = some (hasE (.fault o a c u) k)
  | .nil, o, a, c => by
    refine loopO_out ?_
    unfold is_b0 hasE
    cases h : (c == k && c != 0) <;> simp [hasE, h]
  | .fault o' a' c' u', o, a, c => by
    cases h : (c == k && c != 0) with
    | true =>
      refine loopO_out ?_
      unfold is_b0 hasE
      simp [h]
    | false =>
      rw [loopO_in (s' := (o', a', c', u')) (by unfold is_b0; simp [h]), is_l0 k u' o' a' c']
      show _ = some ((c == k && c != 0) || hasE (.fault o' a' c' u') k)
      rw [h, Bool.false_or]
theorem Tryz.hasIsF (v : Value) (xT : TypeId) (w : World) : (Instr.typeAssert (.iface 78 v) xT 149 true).run Tryz.prog w = .ok (.tuple #[.iface 78 v, .bool true]) w := run_typeAssert_hasB Tryz.underlying149 (by kernel_rfl) v xT w
theorem Tryz.hasUnF (v : Value) (xT : TypeId) (w : World) : (Instr.typeAssert (.iface 78 v) xT 137 true).run Tryz.prog w = .ok (.tuple #[.iface 78 v, .bool true]) w := run_typeAssert_hasB Tryz.underlying137 (by kernel_rfl) v xT w
theorem Tryz.methodIsF (v : Value) (w : World) : (Go.method 282 78 v "Is").run Tryz.prog w = .ok (107, v) w := by kernel_rfl
theorem Tryz.methodUnF (v : Value) (w : World) : (Go.method 282 78 v "Unwrap").run Tryz.prog w = .ok (108, v) w := by kernel_rfl
theorem fuel_eq : Tryz.prog.types.size + Made.depth = 282 := by kernel_rfl
theorem is2_ok (o : List (BitVec 8)) (a c : Int) (u : Err) (k : Int) (σ : St) : ACall Tryz.prog 77 [eErr (.fault o a c u), mkE k, eB true] σ (fun b τ => b = eB (hasE (.fault o a c u) k) ∧ τ = σ) := by
  refine ACall.pure (acall_start tk Tryz.func77 (by decide) rfl (Nat.le_of_ble_eq_true rfl) ?_)
  have hH := Holds.init σ
  refine awp_seq ?_
  refine awp_region rfl ?_
  refine wpo_mv (a := eB false) rfl rfl rfl (o_as tk rfl (Wk.refl _)) ?_
  refine wpo_nil ?_
  refine awp_block ?_
  refine awp_loopO (body := is_b0 k) (is_l0 k u o a c) (fun (s : FltT) fr τ => WkF fr (fm [(0, eErr s.e), (1, mkE k), (2, eB true)]) ∧ Holds σ [] [] τ) ⟨(wkf_cons (.of_eq rfl) (wkf_cons (.of_eq rfl) (wkf_cons (.of_eq rfl) (wkf_nil _)))), hH⟩ ?_
  rintro ⟨o1, a1, c1, u1⟩ fr τ y ⟨hfr, hH⟩ hb hy
  have hfr : WkF fr (fm [(0, eErr (.fault o1 a1 c1 u1)), (1, mkE k), (2, eB true)]) := hfr
  refine AWP.fm [(0, eErr (.fault o1 a1 c1 u1)), (1, mkE k), (2, eB true)] hfr ?_
  have hb : (if (c1 == k && c1 != 0) = true then some (.inr true) else match u1 with
    | .nil => some (.inr false)
    | .fault o a c u => some (.inl (o, a, c, u))) = some y := hb
  refine awp_block ?_
  refine awp_seq ?_
  refine awp_seq ?_
  refine awp_region rfl ?_
  refine wpo_mv (a := eB true) rfl rfl rfl (o_mv tk rfl (Wk.refl _)) ?_
  refine wpo_mv (a := eB true) rfl rfl rfl (o_mv tk rfl (Wk.refl _)) ?_
  refine wpo_mv (a := eErr (.fault o1 a1 c1 u1)) rfl rfl rfl (o_mv tk rfl (Wk.refl _)) ?_
  refine wpo_mv (a := mkE k) rfl rfl rfl (o_mv tk rfl (Wk.refl _)) ?_
  refine wpo_mv (a := eB false) rfl rfl rfl (o_ifne tk td48 rfl rfl (by decide)) ?_
  refine wpo_mv (a := eB false) rfl rfl rfl (o_pick_t tk rfl rfl (Wk.refl _)) ?_
  refine wpo_nil ?_
  refine awp_false rfl ?_
  refine awp_skip ?_
  refine awp_seq ?_
  refine awp_seq ?_
  refine awp_region rfl ?_
  refine wpo_mv (a := eErr (.fault o1 a1 c1 u1)) rfl rfl rfl (o_mv tk rfl (Wk.refl _)) ?_
  refine wpo_mv (a := .tup [eErr (.fault o1 a1 c1 u1), eB true]) rfl rfl rfl (o_ta (z := fun v => .iface 78 v) rfl (fun v w => Tryz.hasIsF v _ w) (fun G v h => .iface _ _ _ h)) ?_
  refine wpo_mv (a := .tup [eErr (.fault o1 a1 c1 u1), eB true]) rfl rfl rfl (o_mv tk rfl (Wk.refl _)) ?_
  refine wpo_mv (a := eErr (.fault o1 a1 c1 u1)) rfl rfl rfl (o_ext tk rfl rfl) ?_
  refine wpo_mv (a := eB true) rfl rfl rfl (o_ext tk rfl rfl) ?_
  refine wpo_mv (a := eErr (.fault o1 a1 c1 u1)) rfl rfl rfl (o_as tk rfl (Wk.refl _)) ?_
  refine wpo_mv (a := eB true) rfl rfl rfl (o_as tk rfl (Wk.refl _)) ?_
  refine wpo_nil ?_
  refine awp_seq ?_
  refine awp_region rfl ?_
  refine wpo_mv (a := eB true) rfl rfl rfl (o_mv tk rfl (Wk.refl _)) ?_
  refine wpo_mv (a := eB true) rfl rfl rfl (o_mv tk rfl (Wk.refl _)) ?_
  refine wpo_mv (a := eErr (.fault o1 a1 c1 u1)) rfl rfl rfl (o_mv tk rfl (Wk.refl _)) ?_
  refine wpo_mv (a := mkE k) rfl rfl rfl (o_mv tk rfl (Wk.refl _)) ?_
  refine wpo_mv (a := eB (c1 == k && c1 != 0)) rfl rfl rfl (fun τ => OpS.of_invoke rfl rfl rfl fuel_eq Tryz.methodIsF (.cons (.of_eq rfl) (.cons (.of_eq rfl) .nil)) (fis_ok o1 a1 c1 u1 k τ)) ?_
  refine wpo_mv (a := eB (c1 == k && c1 != 0)) rfl rfl rfl (o_pick_t tk rfl rfl (Wk.refl _)) ?_
  refine wpo_nil ?_
  refine awp_if hb rfl (fun hb => ?_) (fun hb => ?_)
  · refine awp_seq ?_
    refine awp_region rfl ?_
    refine wpo_mv (a := eB true) rfl rfl rfl (o_as tk rfl (Wk.refl _)) ?_
    refine wpo_nil ?_
    refine awp_ret ?_
    have hz := hy _ (Option.some.inj hb).symm
    refine ⟨⟨_, (Option.some.inj hb).symm⟩, ?_⟩
    rw [← hz]
    exact ⟨_, (eB true), rfl, (.of_eq rfl), .of_eq rfl, hH.noT⟩
  · refine awp_skip ?_
    refine awp_seq ?_
    refine awp_region rfl ?_
    refine wpo_mv (a := eErr (.fault o1 a1 c1 u1)) rfl rfl rfl (o_mv tk rfl (Wk.refl _)) ?_
    refine wpo_nil ?_
    refine awp_block ?_
    refine awp_seq ?_
    refine awp_region rfl ?_
    refine wpo_mv (a := .tup [eErr (.fault o1 a1 c1 u1), eB true]) rfl rfl rfl (o_ta (z := fun v => .iface 78 v) rfl (fun v w => Tryz.hasUnF v _ w) (fun G v h => .iface _ _ _ h)) ?_
    refine wpo_mv (a := eB true) rfl rfl rfl (o_ext tk rfl rfl) ?_
    refine wpo_mv (a := eErr (.fault o1 a1 c1 u1)) rfl rfl rfl (o_ext tk rfl rfl) ?_
    refine wpo_nil ?_
    refine awp_true rfl ?_
    refine awp_seq ?_
    refine awp_region rfl ?_
    refine wpo_mv (a := eErr (.fault o1 a1 c1 u1)) rfl rfl rfl (o_as tk rfl (Wk.refl _)) ?_
    refine wpo_nil ?_
    refine awp_seq ?_
    refine awp_region rfl ?_
    refine wpo_mv (a := eErr (.fault o1 a1 c1 u1)) rfl rfl rfl (o_mv tk rfl (Wk.refl _)) ?_
    refine wpo_mv (a := eErr u1) rfl rfl rfl (fun τ => OpS.of_invoke rfl rfl rfl fuel_eq Tryz.methodUnF (.cons (.of_eq rfl) .nil) (fun_ok o1 a1 c1 u1 τ)) ?_
    refine wpo_mv (a := eErr u1) rfl rfl rfl (o_as tk rfl (Wk.refl _)) ?_
    refine wpo_nil ?_
    refine awp_seq ?_
    refine awp_region rfl ?_
    refine wpo_mv (a := eErr u1) rfl rfl rfl (o_mv tk rfl (Wk.refl _)) ?_
    refine wpo_mv (a := eB u1.isNil) rfl rfl rfl (o_err_eql tk td48 rfl rfl) ?_
    refine wpo_nil ?_
    cases u1 with
    | nil =>
      refine awp_true rfl ?_
      refine awp_seq ?_
      refine awp_region rfl ?_
      refine wpo_mv (a := eB false) rfl rfl rfl (o_as tk rfl (Wk.refl _)) ?_
      refine wpo_nil ?_
      refine awp_ret ?_
      have hz := hy _ (Option.some.inj hb).symm
      refine ⟨⟨_, (Option.some.inj hb).symm⟩, ?_⟩
      rw [← hz]
      exact ⟨_, (eB false), rfl, (.of_eq rfl), .of_eq rfl, hH.noT⟩
    | fault o2 a2 c2 u2 =>
      refine awp_false rfl ?_
      refine awp_skip ?_
      exact ⟨(o2, a2, c2, u2), (Option.some.inj hb).symm, (wkf_cons (.of_eq rfl) (wkf_cons (.of_eq rfl) (wkf_cons (.of_eq rfl) (wkf_nil _)))), hH⟩
end Go.Proofs.YtedcgeghgbgonaaGreatDoor
namespace Go.Proofs.YtedcgeghgbgonaaGreatDoor
open Go.RowKit Go.Extern.Stop Go.Stop Go.Extern
theorem Tryz.isTypeOf (v : Value) (w : World) : (Extern.ReflectliteType.typeOf #[.iface 97 v]).run Tryz.prog w = .ok (.iface 130 (.agg #[.pointer (some ⟨1, 97, none⟩)])) w := by kernel_rfl
def cmpF : Array Value → Sem Value := Extern.ReflectliteType.method fun t => do Extern.Rtype.noPackHeld "Comparable" t; pure (.bool (← typeInfo t).comparable)
theorem Tryz.isComparable (w : World) : (cmpF #[.agg #[.pointer (some ⟨1, 97, none⟩)]]).run Tryz.prog w = .ok (.bool true) w := by kernel_rfl
theorem Tryz.isMethodComparable (v : Value) (w : World) : (Go.method 282 130 v "Comparable").run Tryz.prog w = .ok (115, v) w := by kernel_rfl
theorem is_raw (v u : Value) (w : World) {r : Bool} {R : World → Prop} (h33 : Calls Tryz.prog 77 #[.iface 78 v, .iface 97 u, .bool true] w fun e w' => e = .returned (.bool r) ∧ R w') :
    Calls Tryz.prog 48 #[.iface 78 v, .iface 97 u] w fun e w' => e = .returned (.bool r) ∧ R w' := by
  have h8 := @run_callFunc_extern Tryz.prog 76 _ Extern.ReflectliteType.typeOf Tryz.func76 (by kernel_rfl) (by kernel_rfl) (by kernel_rfl) (by kernel_rfl)
  have h32 := @run_callFunc_extern Tryz.prog 115 _ cmpF Tryz.func115 (by kernel_rfl) (by kernel_rfl) (by kernel_rfl) (by kernel_rfl)
  have tT := Tryz.isTypeOf
  have cT := Tryz.isComparable
  have mR := Tryz.isMethodComparable
  go_enter Tryz.func48, Tryz.ntmps48
  go_wp2_with (go_at_call 77; refine h33.mono ?_; rintro e w' ⟨rfl, hR⟩)
  go_ret
  exact ⟨rfl, hR⟩
open Go.Va in
theorem Is_ok (o : List (BitVec 8)) (a c : Int) (u : Err) (k : Int) (σ : St) : ACall Tryz.prog 48 [eErr (.fault o a c u), mkE k] σ (fun b τ => b = eB (hasE (.fault o a c u) k) ∧ τ = σ) := by
  have h := is2_ok o a c u k σ
  refine ⟨⟨_, Tryz.func48, by decide, rfl⟩, fun w0 G w vs hI hr => ?_⟩
  obtain ⟨v0, h0, r0⟩ := hr.get (i := 0) rfl
  obtain ⟨v1, h1, r1⟩ := hr.get (i := 1) rfl
  have hvs : vs = #[v0, v1] := by
    obtain ⟨l⟩ := vs
    have hl := hr.len
    simp only [List.length_cons, List.length_nil] at hl h0 h1
    match l, hl, h0, h1 with
    | [x, y], _, h0, h1 => simp at h0 h1; subst h0; subst h1; rfl
  subst hvs
  simp only [eErr] at r0
  simp only [mkE] at r1
  cases r0 with | iface _ v0 _ r0 =>
  cases r1 with | iface _ v1 _ r1 =>
  have h2 := h.2 w0 G w #[.iface 78 v0, .iface 97 v1, .bool true] hI (by
    simp only [eErr, mkE]
    exact ((RelL.nil _).cons (.bool true)).cons (.iface _ _ _ r1) |>.cons (.iface _ _ _ r0))
  refine (is_raw v0 v1 w (r := hasE (.fault o a c u) k) (R := fun w' => ∃ G', G.Le G' ∧ Inv w0 G' w' σ) (h2.mono ?_)).mono ?_
  · rintro e w' ⟨v, x, σ', G', rfl, k1, k2, k3, rfl, rfl⟩
    cases k3
    exact ⟨rfl, G', k1, k2⟩
  · rintro e w' ⟨rfl, G', k1, k2⟩
    exact ⟨.bool _, eB (hasE (.fault o a c u) k), σ, G', rfl, k1, k2, .bool _, rfl, rfl⟩
end Go.Proofs.YtedcgeghgbgonaaGreatDoor
namespace Go.Proofs.YtedcgeghgbgonaaGreatDoor
open Go Go.Va
set_option linter.unusedVariables false
set_option linter.unusedSimpArgs false
set_option maxRecDepth 20000
theorem trouble_Has_ok {x : Err} {k : Int} {r : Bool} (H : trouble_Has x k = some r) (σ : St) : ACall Tryz.prog 32 [eErr x, eI k] σ (fun b τ => b = eB r ∧ τ = σ) := by
 obtain rfl := oi H
 refine ACall.pure (acall_start tk Tryz.func32 (by decide) rfl (nb rfl) ?_)
 have hH := Holds.init σ
 refine sr rfl (ma tk (eB false) rfl rfl (wpo_nil (sr rfl (mm tk (eErr x) rfl rfl ?_))))
 cases x with
 | nil =>
  refine m_ (eB false) rfl (o_err_neq (x := .nil) tk td48 rfl rfl) (mm tk (eB false) rfl rfl (k_ rfl (k_ rfl (k_ rfl (k_ rfl (k_ rfl (pf tk (eB false) rfl rfl rfl (ma tk (eB false) rfl rfl ?_))))))))
  refine wpo_nil (awp_ret ?_)
  exact ⟨_, (eB false), rfl, wr, .of_eq rfl, hH.noT⟩
 | fault o a c u =>
  refine m_ (eB true) rfl (o_err_neq (x := .fault o a c u) tk td48 rfl rfl) (mm tk (eB true) rfl rfl (mm tk (eErr (.fault o a c u)) rfl rfl (mm tk (eI k) rfl rfl (mc tk (.agg [eI k]) rfl rfl (fun _ => rfl) (mc tk (mkE k) rfl rfl (fun _ => rfl) (m_ (eB (hasE (.fault o a c u) k)) rfl (OpP.of_call rfl rfl (.cons wr (.cons wr .nil)) (Is_ok o a c u k)) (pt tk (eB (hasE (.fault o a c u) k)) rfl rfl rfl (ma tk (eB (hasE (.fault o a c u) k)) rfl rfl ?_))))))))
  refine wpo_nil (awp_ret ?_)
  exact ⟨_, (eB (hasE (.fault o a c u) k)), rfl, wr, .of_eq rfl, hH.noT⟩
theorem slices_Delete_lines_parcel_lines_parcel_in {x0 : List lines_parcel} {x1 x2 : Int} {r : List lines_parcel} (H : slices_Delete_lines_parcel_lines_parcel x0 x1 x2 = some r) (σ : St) {p0 c : Nat} (h0 : σ.objs[p0]? = some (cL (e_lines_parcel) x0)) (hc : x0.length ≤ c) : ACall Tryz.prog 34 [.vc p0 2 0 x0.length c, (eI x1), (eI x2)] σ (fun a τ => a = .vc p0 2 0 r.length c ∧ ∃ cells, cells ≠ [] ∧ spcl cells = false ∧ cells.take (r.length * 2) = cL (e_lines_parcel) r ∧ p0 < σ.objs.length ∧ τ = ⟨σ.objs.set p0 cells, σ.opn, σ.gl⟩) := by
 have he : Enc ty 68 2 (e_lines_parcel) := (enc68)
 obtain ⟨a, b, rfl, rfl, hab, hb, ha, rfl⟩ := delO_some H
 have hlt : p0 < σ.objs.length := (List.getElem?_eq_some_iff.1 h0).1
 have hL := cL_length he.len x0
 have hne : cL (e_lines_parcel) x0 ≠ [] := fun h => by rw [h] at hL; simp at hL; omega
 have hrl : (x0.take a ++ x0.drop b).length = a + (x0.length - b) := by simp; omega
 refine acall_start tk Tryz.func34 (by decide) rfl (nb rfl) ?_
 repeat (refine awp_seq ?_)
 refine awp_region rfl (ma tk AV.nils rfl rfl (wpo_nil ?_))
 repeat (refine awp_seq ?_)
 refine awp_region rfl (mm tk (.vc p0 2 0 x0.length c) rfl rfl (mm tk (eI (a : Int)) rfl rfl (mm tk (eI (b : Int)) rfl rfl (mm tk (.vc p0 2 0 x0.length c) rfl rfl (m_ (eI (x0.length : Int)) rfl (o_vclen tk td56 rfl) (m_ (.vc p0 2 (if x0.length = a then 0 else 0 + a * 2) (b - a) (x0.length - a)) rfl (o_vcs tk a b x0.length td56 sz68 (by decide) rfl (abnd_nat _ _) (abnd_nat _ _) (abnd_nat _ _) (fun _ => rfl) hab hb hc) (wpo_nil ?_)))))))
 repeat (refine awp_seq ?_)
 refine awp_region rfl (mm tk (eI (a : Int)) rfl rfl (mm tk (eI (b : Int)) rfl rfl (m_ (eB ((a : Int) == (b : Int))) rfl (o_ar tk rfl rfl rfl) (wpo_nil ?_))))
 refine awp_cond (b := ((a : Int) == (b : Int))) rfl (fun hE => ?_) (fun hE => ?_)
 ·have hab' : a = b := by simp at hE; omega
  subst hab'
  repeat (refine awp_seq ?_)
  refine awp_region rfl (mm tk (.vc p0 2 0 x0.length c) rfl rfl (ma tk (.vc p0 2 0 x0.length c) rfl rfl (wpo_nil (awp_ret ?_))))
  have e1 : x0.take a ++ x0.drop a = x0 := List.take_append_drop a x0
  refine ⟨_, .vc p0 2 0 x0.length c, rfl, .of_eq rfl, by rw [e1], cL (e_lines_parcel) x0, hne, spcl_cL he x0, by rw [e1, List.take_of_length_le (by rw [hL]; exact Nat.le_refl _)], hlt, ?_⟩
  obtain ⟨hlt', hg⟩ := List.getElem?_eq_some_iff.1 h0
  rw [← hg, List.set_getElem_self]
 ·have hab' : a < b := by simp at hE; omega
  refine awp_skip ?_
  repeat (refine awp_seq ?_)
  refine awp_region rfl (mm tk (.vc p0 2 0 x0.length c) rfl rfl (m_ (eI (x0.length : Int)) rfl (o_vclen tk td56 rfl) (ma tk (eI (x0.length : Int)) rfl rfl (wpo_nil ?_))))
  repeat (refine awp_seq ?_)
  refine awp_drawS mixed [6] rfl (by decide +kernel) rfl rfl ?_
  refine wpdS_mv (a := .vc p0 2 0 x0.length c) rfl rfl rfl (o_mv tk rfl (Wk.refl _)) (wpdS_mv (a := eI (a : Int)) rfl rfl rfl (o_mv tk rfl (Wk.refl _)) (wpdS_mv (a := .vc p0 2 0 a c) rfl rfl rfl (o_vcs0 tk a td56 sz68 (by decide) rfl rfl (by omega)) (wpdS_mv (a := .vc p0 2 0 x0.length c) rfl rfl rfl (o_mv tk rfl (Wk.refl _)) (wpdS_mv (a := eI (b : Int)) rfl rfl rfl (o_mv tk rfl (Wk.refl _)) (wpdS_mv (a := .vc p0 2 (if c = b then 0 else 0 + b * 2) (x0.length - b) (c - b)) rfl rfl rfl (o_vcs tk (lo := some _) (hi := none) (mx := none) b x0.length c td56 sz68 (by decide) rfl (abnd_nat _ _) rfl rfl (fun h => by cases h) hb hc (Nat.le_refl _)) ?_)))))
  have hsrc : ∀ v : AV, v = .vc p0 2 (if c = b then 0 else 0 + b * 2) (x0.length - b) (c - b) → srcC ty 56 2 σ v = some (x0.length - b, cL (e_lines_parcel) (x0.drop b)) := by
   intro v hv
   rw [hv, srcC_vc td56 h0 (spcl_cL he x0) (by
    rw [hL]
    split
    ·have : x0.length - b = 0 := by omega
     rw [this]; simp
    ·have e2 : b * 2 + (x0.length - b) * 2 = x0.length * 2 := by rw [← Nat.add_mul]; congr 1; omega
     omega)]
   congr 2
   split
   ·have : x0.length - b = 0 := by omega
    rw [this, Nat.zero_mul, List.take_zero, List.drop_of_length_le (by omega)]; rfl
   ·rw [Nat.zero_add, cL_drop he.len, List.take_of_length_le]
    rw [cL_length he.len, List.length_drop]; exact Nat.le_refl _
  refine wpdS_s1 rfl rfl rfl (o_vcapp (off := 0) (m := a) (cap := c) (sz := 2) (k := x0.length - b) tk h0 (spcl_cL he x0) hne td56 ty68 rfl rfl (hsrc _ rfl) (by omega) (by rw [hL]; have := Nat.mul_le_mul_right 2 (Nat.le_of_lt ha); omega)) ?_
  have e0 : (cL (e_lines_parcel) x0).take (0 + a * 2) = cL (e_lines_parcel) (x0.take a) := by rw [Nat.zero_add, cL_take he.len]
  have hl1 : (cL (e_lines_parcel) (x0.take a) ++ cL (e_lines_parcel) (x0.drop b)).length = (a + (x0.length - b)) * 2 := by rw [← cL_append, cL_length he.len, hrl]
  generalize hcs : List.take (0 + a * 2) (cL (e_lines_parcel) x0) ++ cL (e_lines_parcel) (x0.drop b) ++ List.drop (0 + a * 2 + (cL (e_lines_parcel) (x0.drop b)).length) (cL (e_lines_parcel) x0) = cs
  have h1 : cs.take ((a + (x0.length - b)) * 2) = cL (e_lines_parcel) (x0.take a ++ x0.drop b) := by
   rw [← hcs, e0, ← hl1, List.take_left' rfl, cL_append]
  have h2 : cs.length = x0.length * 2 := by
   rw [← hcs, e0, List.length_append, hl1, List.length_drop, hL, cL_length he.len, List.length_drop]
   have e3 : (a + (x0.length - b)) * 2 = a * 2 + (x0.length - b) * 2 := Nat.add_mul _ _ _
   have e4 : a * 2 + (x0.length - b) * 2 ≤ x0.length * 2 := by rw [← Nat.add_mul]; exact Nat.mul_le_mul_right _ (by omega)
   omega
  have hfl : cs.all flatAV = true := by rw [← hcs]; exact nsp_cat (all_flat_cL he _) (all_flat_cL he _) (all_flat_cL he _) _ _
  have h3 : cs ≠ [] := fun h => by rw [h] at h2; simp at h2; omega
  have h4 : (σ.objs.set p0 cs)[p0]? = some cs := by rw [List.getElem?_set]; simp [hlt]
  refine wpdS_mv (a := .vc p0 2 0 (a + (x0.length - b)) c) rfl rfl rfl (o_as tk rfl (Wk.refl _)) (wpdS_nil ?_)
  repeat (refine awp_seq ?_)
  refine awp_region rfl (mm tk (.vc p0 2 0 (a + (x0.length - b)) c) rfl rfl (mm tk (.vc p0 2 0 (a + (x0.length - b)) c) rfl rfl (m_ (eI ((a + (x0.length - b) : Nat) : Int)) rfl (o_vclen tk td56 rfl) (mm tk (eI (x0.length : Int)) rfl rfl (m_ (.vc p0 2 (if c = a + (x0.length - b) then 0 else 0 + (a + (x0.length - b)) * 2) (x0.length - (a + (x0.length - b))) (c - (a + (x0.length - b)))) rfl (o_vcs tk (lo := some _) (hi := some _) (mx := none) (a + (x0.length - b)) x0.length c td56 sz68 (by decide) rfl (abnd_nat _ _) (abnd_nat _ _) rfl (fun h => by cases h) (by omega) hc (Nat.le_refl _)) ?_)))))
  refine wpo_s0 rfl rfl (o_vcclear tk h4 (flat_nsp hfl) h3 td56 ty68 rfl rfl (by
   rw [if_neg (by omega), h2]
   have := Nat.mul_le_mul_right 2 (show a + (x0.length - b) ≤ x0.length by omega)
   omega)) ?_
  refine wpo_nil ?_
  repeat (refine awp_seq ?_)
  refine awp_region rfl (mm tk (.vc p0 2 0 (a + (x0.length - b)) c) rfl rfl (ma tk (.vc p0 2 0 (a + (x0.length - b)) c) rfl rfl (wpo_nil (awp_ret ?_))))
  refine ⟨_, .vc p0 2 0 (a + (x0.length - b)) c, rfl, .of_eq rfl, by rw [hrl], _, ?_, flat_nsp (nsp_cat hfl (flat_rep rfl _) hfl _ _), ?_, hlt, by rw [List.set_set]⟩
  ·intro h
   have h5 := congrArg List.length h
   rw [if_neg (by omega)] at h5
   simp only [List.length_append, List.length_take, List.length_nil] at h5
   rw [h2] at h5
   have h6 : 0 < (List.replicate (x0.length - (a + (x0.length - b))) (AV.agg [.nils, .bool false])).length := by rw [List.length_replicate]; omega
   have h7 : (flat (List.replicate (x0.length - (a + (x0.length - b))) (AV.agg [.nils, .bool false]))).length = (x0.length - (a + (x0.length - b))) * 2 := by
    rw [flat_length (sz := 2) (fun y hy => by rw [(List.mem_replicate.1 hy).2]; rfl), List.length_replicate]
   have h8 : 0 < (x0.length - (a + (x0.length - b))) * 2 := Nat.mul_pos (by omega) (by decide)
   have h9 : (List.replicate (x0.length - (a + (x0.length - b))) (AV.agg [.nils, .bool false])) = (List.replicate (x0.length - (a + (x0.length - b))) (AV.agg [.nils, .bool false])) := rfl
   omega
  ·rw [if_neg (by omega), Nat.zero_add, hrl, List.append_assoc, List.take_append_of_le_length (by rw [List.length_take, h2]; have := Nat.mul_le_mul_right 2 (show a + (x0.length - b) ≤ x0.length by omega); omega), List.take_take, Nat.min_self, h1]
theorem slices_Delete_lines_parcel_lines_parcel_ok {x0 : List lines_parcel} {x1 x2 : Int} {r : List lines_parcel} (H : slices_Delete_lines_parcel_lines_parcel x0 x1 x2 = some r) (σ : St) {p0 : Nat} (h0 : σ.objs[p0]? = some (cL (e_lines_parcel) x0)) : ACall Tryz.prog 34 [.vec p0 2 x0.length, (eI x1), (eI x2)] σ (fun a τ => a = .sl (.own σ.opn.length) 2 (r.map (e_lines_parcel)) ∧ τ = ⟨σ.objs.set p0 [], σ.opn ++ [true], σ.gl⟩) := by
 have he : Enc ty 68 2 (e_lines_parcel) := (enc68)
 have hd := delO_some H
 obtain ⟨a, b, _, _, _, _, ha, _⟩ := hd
 exact ACall.room (by omega) fun c hc => ACall.freeze (r := r) (c := c) he (fun _ _ => trivial) (slices_Delete_lines_parcel_lines_parcel_in H σ h0 hc)
theorem slices_Delete_lines_parcel_lines_parcel_g {x0 : List lines_parcel} {x1 x2 : Int} {r : List lines_parcel} (H : slices_Delete_lines_parcel_lines_parcel x0 x1 x2 = some r) (σ : St) {p0 c : Nat} (h0 : σ.objs[p0]? = some (gK (e_lines_parcel) c x0)) (hc : x0.length ≤ c) : ACall Tryz.prog 34 [gR p0 2 c x0.length, (eI x1), (eI x2)] σ (fun a τ => a = gR σ.objs.length 2 c r.length ∧ τ = ⟨σ.objs.set p0 [] ++ [gK (e_lines_parcel) c r], σ.opn, σ.gl⟩) := by
 have he : Enc ty 68 2 (e_lines_parcel) := (enc68)
 obtain ⟨a, b, _, _, _, _, ha, _⟩ := delO_some H
 have e1 : gR p0 2 c x0.length = .vc p0 2 0 x0.length c := by unfold gR; rw [if_neg (by omega)]
 rw [e1]
 rw [gK_pos (by omega)] at h0
 exact ACall.revec he (by omega) (slices_Delete_lines_parcel_lines_parcel_in H σ h0 hc)
theorem lines_Lines_Take_ok {x0 : lines_Lines} {x1 : Int} {r : api_Msg × Err × lines_Lines} (H : lines_Lines_Take x0 x1 = some r) (σ : St) {p0 p0_l c_p0_l : Nat} (h0 : σ.objs[p0]? = some [(gR p0_l 2 c_p0_l (x0.l).length), (eI x0.lost)]) (h0_l : σ.objs[p0_l]? = some (gK e_lines_parcel c_p0_l x0.l)) (hd : [p0, p0_l].Pairwise fun a b => a ≠ b) (hle_p0_l : (x0.l).length ≤ c_p0_l) : ACall Tryz.prog 17 [(.ref p0 0), (eI x1)] σ (fun a τ => a = .tup [e_api_Msg r.1, eErr r.2.1] ∧ τ = σ.grow [(p0, [(gC (σ.objs.length + 0) 2 c_p0_l (r.2.2.l).length), (eI r.2.2.lost)]), (p0_l, [])] [(gK e_lines_parcel c_p0_l r.2.2.l)] [] 0) := by
 unfold lines_Lines_Take at H
 refine ACall.outV (B := (fun f => [(p0, [(gC (f 0) 2 c_p0_l (r.2.2.l).length), (eI r.2.2.lost)]), (p0_l, [])])) (L := [(gK e_lines_parcel c_p0_l r.2.2.l)]) (fun ρ κ => by simp only [cutAV, cutL, enc44.cut ρ κ, encErr.cut ρ κ]) (by simp only [List.mem_cons, List.not_mem_nil, or_false]; rintro _ (rfl) ρ κ <;> exact gK_cut (by first | exact enc68.cut) _ _ ρ κ) (by intro f; simp only [List.mem_cons, List.not_mem_nil, or_false]; rintro _ (rfl | rfl) <;> exact (List.getElem?_eq_some_iff.1 (by assumption)).1) (fun ρ κ f f1 h1 h3 => (.cons rfl (.cons (cut_gC (h1 0 (by simp))) (.cons (.of_eq ((enc_i64 td3 sz3).cut ρ κ _)) .nil)) (.cons rfl .nil .nil))) (acall_start tk Tryz.func17 (by decide) rfl (nb rfl) ?_)
 have hH := Holds.brings (σ := σ) [(p0, [(gR p0_l 2 c_p0_l (x0.l).length), (eI x0.lost)]), (p0_l, (gK e_lines_parcel c_p0_l x0.l))] (by simp only [List.mem_cons, List.not_mem_nil, or_false]; rintro _ (rfl | rfl) <;> assumption) hd
 refine AWP.renF (g := fun i => gR i 2 c_p0_l (x0.l).length) hH 0 1 0 rfl rfl (by decide) rfl ren_gR fun id1 τ (hH : Holds σ [(id1, (gK e_lines_parcel c_p0_l x0.l)), (p0, [(gR id1 2 c_p0_l (x0.l).length), (eI x0.lost)]), (p0_l, (cL e_lines_parcel ([] : List lines_parcel)))] [] τ) n2 => ?_
 refine sr rfl ?_
 refine wpo_a (av := fun id => .ref id 0) rfl rfl rfl (h_allocw tk hH ty44 (c_api_Msg z_api_Msg) (.cons wr (.cons wr (.cons wr (.cons wr (.cons wr (.cons wr (.cons wr (.cons wr (.cons wr (.cons (by exact wk_nils _) (.cons wr .nil)))))))))))) fun id3 τ ⟨hH, n4⟩ => ?_
 refine ma tk (eErr Err.nil) rfl rfl (wpo_nil (sr rfl (mm tk (.ref p0 0) rfl rfl (mm tk (eI x1) rfl rfl ?_))))
 refine wpo_bdr H (fun r => .tup [e_api_Msg r.1, eErr r.2]) rfl rfl rfl (fun v6 hv => h_callr rfl rfl (.cons wr (.cons wr .nil)) (lines_Lines_Look_ok hv _ (hH.at_ 2 rfl) (hH.at_ 1 rfl) (hH.pw [2, 1] rfl (by decide)) (.r hle_p0_l))) fun v6 hv6 H5 => ?_
 refine mm tk (.tup [(e_api_Msg v6.1), (eErr v6.2)]) rfl rfl (m_ (e_api_Msg v6.1) rfl (o_ext tk rfl rfl) (m_ (eErr v6.2) rfl (o_ext tk rfl rfl) ?_))
 refine wpo_a (av := fun id => .ref id 0) rfl rfl rfl (h_allocw tk hH ty44 (c_api_Msg z_api_Msg) (.cons wr (.cons wr (.cons wr (.cons wr (.cons wr (.cons wr (.cons wr (.cons wr (.cons wr (.cons (by exact wk_nils _) (.cons wr .nil)))))))))))) fun id7 τ ⟨hH, n8⟩ => ?_
 obtain ⟨c10, hc11, H9⟩ := lt_ex H5
 refine wpo_z rfl rfl (h_st tk hH 0 rfl ty44 (by simp) rfl rfl wr (b := (e_api_Msg v6.1)) (enc44.flat _) rfl (nb rfl) (c_api_Msg c10) (by rw [← hc11]; rfl)) fun τ hH => ?_
 refine ma tk (eErr v6.2) rfl rfl (wpo_nil (awp_seq (sr rfl (mm tk (eErr v6.2) rfl rfl ?_))))
 refine b_ H9 eB rfl (fun v13 hv => OpP.of_call rfl rfl (.cons wr (.cons wr .nil)) (trouble_Has_ok hv)) fun v13 hv13 H12 => ?_
 refine wpo_nil ?_
 refine awp_if H12 rfl (fun H14 => ?_) (fun H14 => ?_)
 ·refine sr rfl ?_
  refine l_ H14 e_api_Msg rfl (o_cw tk false (a := .agg ([AV.int .i64 0] ++ [AV.int .i64 0] ++ [AV.int .i64 0] ++ [AV.int .i64 0] ++ [AV.int .i64 0] ++ [AV.str ⟨#[]⟩, AV.int .i64 0, AV.int .i64 0, AV.int .i64 0, AV.nils] ++ [AV.bool false])) rfl (fun _ => rfl) (wk_agg (WkL.append (WkL.append (WkL.append (WkL.append (WkL.append (WkL.append (.cons wr .nil) (.cons wr .nil)) (.cons wr .nil)) (.cons wr .nil)) (.cons wr .nil)) (.cons wr (.cons wr (.cons wr (.cons wr (.cons (by exact wk_nils _) .nil)))))) (.cons wr .nil)))) fun v16 H15 => ?_
  refine mm tk (eI x1) rfl rfl (mm tk (eErr v6.2) rfl rfl ?_)
  refine b_ H15 eErr rfl (fun v18 hv => OpP.of_call rfl rfl (.cons wr (.cons wr (.cons wr .nil))) (trouble_Wrap_ok hv)) fun v18 hv18 H17 => ?_
  obtain ⟨c20, hc21, H19⟩ := lt_ex H17
  refine wpo_z rfl rfl (h_st tk hH 1 rfl ty44 (by simp) rfl rfl wr (b := (e_api_Msg v16)) (enc44.flat _) rfl (nb rfl) (c_api_Msg c20) (by rw [← hc21]; rfl)) fun τ hH => ?_
  refine ma tk (eErr v18) rfl rfl (wpo_nil ?_)
  refine AWP.wko hH 3 rfl (c1 := [(gC id1 2 c_p0_l (x0.l).length), (eI x0.lost)]) (.cons (GG.wk (.r hle_p0_l)) (.cons wr .nil)) fun τ (hH : Holds σ [(id7, (c_api_Msg c10)), (id3, (c_api_Msg c20)), (id1, (gK e_lines_parcel c_p0_l x0.l)), (p0, [(gC id1 2 c_p0_l (x0.l).length), (eI x0.lost)]), (p0_l, (cL e_lines_parcel ([] : List lines_parcel)))] [] τ) => ?_
  refine awp_ret ?_
  obtain rfl := oi H19
  have hH : Holds σ [(id7, (c_api_Msg c10)), (id3, (c_api_Msg c20)), (id1, (gK e_lines_parcel c_p0_l x0.l)), (p0, [(gC id1 2 c_p0_l (x0.l).length), (eI x0.lost)]), (p0_l, (cL e_lines_parcel ([] : List lines_parcel)))] [] _ := hH
  have hF : Holds σ [(id1, (gK e_lines_parcel c_p0_l x0.l)), (p0, [(gC id1 2 c_p0_l (x0.l).length), (eI x0.lost)]), (p0_l, (cL e_lines_parcel ([] : List lines_parcel)))] [] _ := hH.pick (by simp only [List.mem_cons, List.not_mem_nil, or_false]; rintro _ (rfl | rfl | rfl) <;> simp) (pw_zip (hH.pw [2, 3, 4] rfl (by decide))) (by simp only [List.mem_cons, List.not_mem_nil, or_false]; rintro _ (rfl | rfl | rfl | rfl | rfl) <;> first | exact .inl (by assumption) | exact .inr (by simp)) (fun t h => by cases h) .nil
  exact ⟨_, (.tup [(e_api_Msg c20), (eErr v18)]), (ares_2 (ares_cell hH 1 rfl rfl rfl) rfl), (wk_tup (.cons wr (.cons wr .nil))), rfl, fun i => [id1].getD i 0, by intro i hi; match i, hi with | 0, _ => exact n2 | k + 1, hi => exact absurd hi (by simp), hF⟩
 ·refine awp_skip (sr rfl (mm tk (.ref p0 0) rfl rfl (mm tk (.ref p0 0) rfl rfl (mc tk (.ref p0 0) rfl rfl (fun _ => rfl) (mc tk (.ref p0 0) rfl rfl (fun _ => rfl) (wpo_rd (a := (gR id1 2 c_p0_l (x0.l).length)) rfl rfl rfl (h_ld tk hH 3 rfl rfl rfl) (mm tk (eI x1) rfl rfl (mm tk (eI x1) rfl rfl ?_))))))))
  refine l_ H14 eI rfl (o_ar tk rfl rfl rfl) fun v23 H22 => ?_
  obtain ⟨v25, hv26, H24⟩ := ob H22
  have hle29 : (v25).length ≤ c_p0_l := Nat.le_trans (delO_len hv26) hle_p0_l
  refine wpo_a (av := fun b => gR b 2 c_p0_l (v25).length) rfl rfl rfl (h_calldg hH 2 rfl n2 rfl rfl (.cons wr (.cons wr (.cons wr .nil))) (slices_Delete_lines_parcel_lines_parcel_g hv26 _ (hH.at_ 2 rfl) hle_p0_l)) fun id27 τ ⟨hH, n28⟩ => ?_
  refine mc tk (.ref p0 0) rfl rfl (fun _ => rfl) (mc tk (.ref p0 0) rfl rfl (fun _ => rfl) ?_)
  refine wpo_z rfl rfl (h_st (y := (gR id27 2 c_p0_l (v25).length)) tk hH 3 rfl ty56 (by simp) rfl rfl (GG.wk (.r hle29)) (b := (gC id27 2 c_p0_l (v25).length)) (gC_flat _ _ _ _) (gC_one _ _ _ _) (nb rfl) [(gC id27 2 c_p0_l (v25).length), (eI ({ x0 with l := v25 } : lines_Lines).lost)] (by rw [gC_cells]; rfl)) fun τ hH => ?_
  refine wpo_nil (awp_seq (sr rfl (mm tk (eErr v6.2) rfl rfl ?_)))
  refine l_ H24 eB rfl (o_err_neq tk rfl rfl rfl) fun v32 H31 => ?_
  refine wpo_nil ?_
  refine awp_if H31 rfl (fun H33 => ?_) (fun H33 => ?_)
  ·refine sr rfl (mm tk (.ref p0 0) rfl rfl (mc tk (.ref p0 0) rfl rfl (fun _ => rfl) (mc tk (.ref p0 1) rfl rfl (fun _ => rfl) (wpo_rd (a := (eI ({ x0 with l := v25 } : lines_Lines).lost)) rfl rfl rfl (h_ld tk hH 3 rfl rfl rfl) ?_))))
   refine l_ H33 eI rfl (o_ar tk rfl rfl rfl) fun v35 H34 => ?_
   refine mc tk (.ref p0 0) rfl rfl (fun _ => rfl) (mc tk (.ref p0 1) rfl rfl (fun _ => rfl) ?_)
   refine wpo_z rfl rfl (h_st tk hH 3 rfl ty3 (by simp) rfl rfl wr (b := (eI v35)) rfl rfl (nb rfl) [(gC id27 2 c_p0_l (v25).length), (eI ({ ({ x0 with l := v25 } : lines_Lines) with lost := v35 } : lines_Lines).lost)] rfl) fun τ hH => ?_
   refine wpo_nil (sr rfl ?_)
   refine l_ H34 e_api_Msg rfl (o_cw tk false (a := .agg ([AV.int .i64 0] ++ [AV.int .i64 0] ++ [AV.int .i64 0] ++ [AV.int .i64 0] ++ [AV.int .i64 0] ++ [AV.str ⟨#[]⟩, AV.int .i64 0, AV.int .i64 0, AV.int .i64 0, AV.nils] ++ [AV.bool false])) rfl (fun _ => rfl) (wk_agg (WkL.append (WkL.append (WkL.append (WkL.append (WkL.append (WkL.append (.cons wr .nil) (.cons wr .nil)) (.cons wr .nil)) (.cons wr .nil)) (.cons wr .nil)) (.cons wr (.cons wr (.cons wr (.cons wr (.cons (by exact wk_nils _) .nil)))))) (.cons wr .nil)))) fun v38 H37 => ?_
   refine mm tk (eI x1) rfl rfl (mm tk (eErr v6.2) rfl rfl ?_)
   refine b_ H37 eErr rfl (fun v40 hv => OpP.of_call rfl rfl (.cons wr (.cons wr (.cons wr .nil))) (trouble_Wrap_ok hv)) fun v40 hv40 H39 => ?_
   obtain ⟨c42, hc43, H41⟩ := lt_ex H39
   refine wpo_z rfl rfl (h_st tk hH 1 rfl ty44 (by simp) rfl rfl wr (b := (e_api_Msg v38)) (enc44.flat _) rfl (nb rfl) (c_api_Msg c42) (by rw [← hc43]; rfl)) fun τ hH => ?_
   refine ma tk (eErr v40) rfl rfl (wpo_nil (awp_ret ?_))
   obtain rfl := oi H41
   have hH : Holds σ [(id7, (c_api_Msg c10)), (id3, (c_api_Msg c42)), (id27, (gK e_lines_parcel c_p0_l v25)), (p0, [(gC id27 2 c_p0_l (v25).length), (eI ({ ({ x0 with l := v25 } : lines_Lines) with lost := v35 } : lines_Lines).lost)]), (p0_l, (cL e_lines_parcel ([] : List lines_parcel)))] [] _ := hH
   have hF : Holds σ [(id27, (gK e_lines_parcel c_p0_l v25)), (p0, [(gC id27 2 c_p0_l (v25).length), (eI ({ ({ x0 with l := v25 } : lines_Lines) with lost := v35 } : lines_Lines).lost)]), (p0_l, (cL e_lines_parcel ([] : List lines_parcel)))] [] _ := hH.pick (by simp only [List.mem_cons, List.not_mem_nil, or_false]; rintro _ (rfl | rfl | rfl) <;> simp) (pw_zip (hH.pw [2, 3, 4] rfl (by decide))) (by simp only [List.mem_cons, List.not_mem_nil, or_false]; rintro _ (rfl | rfl | rfl | rfl | rfl) <;> first | exact .inl (by assumption) | exact .inr (by simp)) (fun t h => by cases h) .nil
   exact ⟨_, (.tup [(e_api_Msg c42), (eErr v40)]), (ares_2 (ares_cell hH 1 rfl rfl rfl) rfl), (wk_tup (.cons wr (.cons wr .nil))), rfl, fun i => [id27].getD i 0, by intro i hi; match i, hi with | 0, _ => exact n28 | k + 1, hi => exact absurd hi (by simp), hF⟩
  ·refine awp_skip (sr rfl (wpo_rd (a := (e_api_Msg c10)) rfl rfl rfl (h_ld tk hH 0 rfl rfl rfl) ?_))
   obtain ⟨c45, hc46, H44⟩ := lt_ex H33
   refine wpo_z rfl rfl (h_st tk hH 1 rfl ty44 (by simp) rfl rfl wr (b := (e_api_Msg c10)) (enc44.flat _) rfl (nb rfl) (c_api_Msg c45) (by rw [← hc46]; rfl)) fun τ hH => ?_
   refine ma tk (eErr Err.nil) rfl rfl (wpo_nil (awp_ret ?_))
   obtain rfl := oi H44
   have hH : Holds σ [(id7, (c_api_Msg c10)), (id3, (c_api_Msg c45)), (id27, (gK e_lines_parcel c_p0_l v25)), (p0, [(gC id27 2 c_p0_l (v25).length), (eI ({ x0 with l := v25 } : lines_Lines).lost)]), (p0_l, (cL e_lines_parcel ([] : List lines_parcel)))] [] _ := hH
   have hF : Holds σ [(id27, (gK e_lines_parcel c_p0_l v25)), (p0, [(gC id27 2 c_p0_l (v25).length), (eI ({ x0 with l := v25 } : lines_Lines).lost)]), (p0_l, (cL e_lines_parcel ([] : List lines_parcel)))] [] _ := hH.pick (by simp only [List.mem_cons, List.not_mem_nil, or_false]; rintro _ (rfl | rfl | rfl) <;> simp) (pw_zip (hH.pw [2, 3, 4] rfl (by decide))) (by simp only [List.mem_cons, List.not_mem_nil, or_false]; rintro _ (rfl | rfl | rfl | rfl | rfl) <;> first | exact .inl (by assumption) | exact .inr (by simp)) (fun t h => by cases h) .nil
   exact ⟨_, (.tup [(e_api_Msg c45), (eErr Err.nil)]), (ares_2 (ares_cell hH 1 rfl rfl rfl) rfl), (wk_tup (.cons wr (.cons wr .nil))), rfl, fun i => [id27].getD i 0, by intro i hi; match i, hi with | 0, _ => exact n28 | k + 1, hi => exact absurd hi (by simp), hF⟩
end Go.Proofs.YtedcgeghgbgonaaGreatDoor
