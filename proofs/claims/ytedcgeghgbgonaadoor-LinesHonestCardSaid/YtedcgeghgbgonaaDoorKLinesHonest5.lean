/- NOTHING COMES THAT WAS NOT SENT: whatever befalls messages, each that comes was sent; and what comes, is lost, and is on its way, is as many as were sent and doubled. (part 5 of 7) -/
import Derived.Test.YtedcgeghgbgonaaDoorKLinesHonest4
namespace Go.Proofs.YtedcgeghgbgonaaDoor
open Go Go.Va
set_option linter.unusedVariables false
set_option linter.unusedSimpArgs false
set_option maxRecDepth 20000
theorem wire_Get_ok {x0 : List (BitVec 8)} {r : api_Msg × Err} (H : wire_Get x0 = some r) (σ : St)  : ACall Tryd.prog 33 [((eL 1 (@eU .u8 8)) x0)] σ (fun a τ => a = .tup [e_api_Msg r.1, eErr r.2] ∧ τ = σ) := by
 unfold wire_Get at H
 refine ACall.pure (acall_start tk Tryd.func33 (by decide) rfl (nb rfl) ?_)
 have hH := Holds.init σ
 refine sr rfl ?_
 refine wpo_a (av := fun id => .ref id 0) rfl rfl rfl (h_allocw tk hH ty35 (c_api_Msg z_api_Msg) (.cons wr (.cons wr (.cons wr (.cons wr (.cons wr (.cons wr (.cons wr (.cons wr (.cons wr (.cons (by exact wk_nils _) (.cons wr .nil)))))))))))) fun id1 τ ⟨hH, n2⟩ => ?_
 refine ma tk (eErr Err.nil) rfl rfl (wpo_nil (awp_scope (awp_seq (sr rfl (mm tk ((eL 1 (@eU .u8 8)) x0) rfl rfl ?_)))))
 refine l_ H eI rfl (o_len tk td31 rfl) fun v4 H3 => ?_
 refine l_ H3 eB rfl (o_ar tk rfl rfl rfl) fun v6 H5 => ?_
 refine wpo_nil ?_
 refine awp_if H5 rfl (fun H7 => ?_) (fun H7 => ?_)
 ·refine sr rfl ?_
  refine l_ H7 e_api_Msg rfl (o_cw tk false (a := .agg ([AV.int .i64 0] ++ [AV.int .i64 0] ++ [AV.int .i64 0] ++ [AV.int .i64 0] ++ [AV.int .i64 0] ++ [AV.str ⟨#[]⟩, AV.int .i64 0, AV.int .i64 0, AV.int .i64 0, AV.nils] ++ [AV.bool false])) rfl (fun _ => rfl) (wk_agg (WkL.append (WkL.append (WkL.append (WkL.append (WkL.append (WkL.append (.cons wr .nil) (.cons wr .nil)) (.cons wr .nil)) (.cons wr .nil)) (.cons wr .nil)) (.cons wr (.cons wr (.cons wr (.cons wr (.cons (by exact wk_nils _) .nil)))))) (.cons wr .nil)))) fun v9 H8 => ?_
  refine mm tk ((eL 1 (@eU .u8 8)) x0) rfl rfl ?_
  refine l_ H8 eI rfl (o_len tk td31 rfl) fun v11 H10 => ?_
  refine b_ H10 eErr rfl (fun v13 hv => OpP.of_call rfl rfl (.cons wr (.cons wr (.cons wr .nil))) (trouble_New_ok hv)) fun v13 hv13 H12 => ?_
  obtain ⟨c15, hc16, H14⟩ := lt_ex H12
  refine wpo_z rfl rfl (h_st tk hH 0 rfl ty35 (by simp) rfl rfl wr (b := (e_api_Msg v9)) (enc35.flat _) rfl (nb rfl) (c_api_Msg c15) (by rw [← hc16]; rfl)) fun τ hH => ?_
  refine ma tk (eErr v13) rfl rfl (wpo_nil (awp_ret ?_))
  obtain rfl := oi H14
  exact ⟨_, (.tup [(e_api_Msg c15), (eErr v13)]), (ares_2 (ares_cell hH 0 rfl rfl rfl) rfl), (wk_tup (.cons wr (.cons wr .nil))), .of_eq (by simp only [cutAV, cutL, enc35.cut _ _ _, encErr.cut _ _ _]), (hH.noT.drop n2)⟩
 ·refine awp_skip (awp_seq (sr rfl (mm tk ((eL 1 (@eU .u8 8)) x0) rfl rfl ?_)))
  refine b_ H7 eB rfl (fun v18 hv => OpP.of_call rfl rfl (.cons wr .nil) (checksum_Fits_ok hv)) fun v18 hv18 H17 => ?_
  refine l_ H17 eB rfl (o_un tk rfl rfl) fun v20 H19 => ?_
  refine wpo_nil ?_
  refine awp_if H19 rfl (fun H21 => ?_) (fun H21 => ?_)
  ·refine sr rfl ?_
   refine l_ H21 e_api_Msg rfl (o_cw tk false (a := .agg ([AV.int .i64 0] ++ [AV.int .i64 0] ++ [AV.int .i64 0] ++ [AV.int .i64 0] ++ [AV.int .i64 0] ++ [AV.str ⟨#[]⟩, AV.int .i64 0, AV.int .i64 0, AV.int .i64 0, AV.nils] ++ [AV.bool false])) rfl (fun _ => rfl) (wk_agg (WkL.append (WkL.append (WkL.append (WkL.append (WkL.append (WkL.append (.cons wr .nil) (.cons wr .nil)) (.cons wr .nil)) (.cons wr .nil)) (.cons wr .nil)) (.cons wr (.cons wr (.cons wr (.cons wr (.cons (by exact wk_nils _) .nil)))))) (.cons wr .nil)))) fun v23 H22 => ?_
   refine mm tk ((eL 1 (@eU .u8 8)) x0) rfl rfl ?_
   refine l_ H22 eI rfl (o_len tk td31 rfl) fun v25 H24 => ?_
   refine b_ H24 eErr rfl (fun v27 hv => OpP.of_call rfl rfl (.cons wr (.cons wr (.cons wr .nil))) (trouble_New_ok hv)) fun v27 hv27 H26 => ?_
   obtain ⟨c29, hc30, H28⟩ := lt_ex H26
   refine wpo_z rfl rfl (h_st tk hH 0 rfl ty35 (by simp) rfl rfl wr (b := (e_api_Msg v23)) (enc35.flat _) rfl (nb rfl) (c_api_Msg c29) (by rw [← hc30]; rfl)) fun τ hH => ?_
   refine ma tk (eErr v27) rfl rfl (wpo_nil (awp_ret ?_))
   obtain rfl := oi H28
   exact ⟨_, (.tup [(e_api_Msg c29), (eErr v27)]), (ares_2 (ares_cell hH 0 rfl rfl rfl) rfl), (wk_tup (.cons wr (.cons wr .nil))), .of_eq (by simp only [cutAV, cutL, enc35.cut _ _ _, encErr.cut _ _ _]), (hH.noT.drop n2)⟩
  ·refine awp_skip (sr rfl (mm tk ((eL 1 (@eU .u8 8)) x0) rfl rfl (mm tk ((eL 1 (@eU .u8 8)) x0) rfl rfl ?_)))
   refine l_ H21 eI rfl (o_len tk td31 rfl) fun v32 H31 => ?_
   refine l_ H31 eI rfl (o_ar tk rfl rfl rfl) fun v34 H33 => ?_
   refine b_ H33 (eL 1 (@eU .u8 8)) rfl (fun v36 hv => o_cutTo tk hv td31 (enc_u td5 sz5) rfl rfl) fun v36 hv36 H35 => ?_
   refine wpo_cb H35 (fun _ id => .ref id 0) rfl rfl rfl (fun v38 hv => h_calln hH (c_octets_Reader v38) rfl rfl (.cons wr .nil) (octets_Read_ok hv _)) fun v38 id39 τ hv38 H37 ⟨hH, n40⟩ => ?_
   refine ma tk (.ref id39 0) rfl rfl (wpo_nil (sr rfl ?_))
   refine wpo_a (av := fun id => .ref id 0) rfl rfl rfl (h_allocw tk hH ty35 (c_api_Msg z_api_Msg) (.cons wr (.cons wr (.cons wr (.cons wr (.cons wr (.cons wr (.cons wr (.cons wr (.cons wr (.cons (by exact wk_nils _) (.cons wr .nil)))))))))))) fun id41 τ ⟨hH, n42⟩ => ?_
   refine wpo_nil (sr rfl (mm tk (.ref id39 0) rfl rfl ?_))
   refine wpo_cb H37 (fun x _ => eI x.1) rfl rfl rfl (fun v44 hv => h_call1 hH [(1, (id39, (c_octets_Reader v44.2)))] ⟨⟨_, rfl⟩, trivial⟩ rfl rfl (.cons wr (.cons wr .nil)) (octets_Reader_Number_ok hv _ (hH.at_ 1 rfl))) fun v44 _ τ hv44 H43 hH => ?_
   refine mm tk (.ref id39 0) rfl rfl ?_
   refine wpo_cb H43 (fun x _ => eI x.1) rfl rfl rfl (fun v46 hv => h_call1 hH [(1, (id39, (c_octets_Reader v46.2)))] ⟨⟨_, rfl⟩, trivial⟩ rfl rfl (.cons wr (.cons wr .nil)) (octets_Reader_Number_ok hv _ (hH.at_ 1 rfl))) fun v46 _ τ hv46 H45 hH => ?_
   refine mm tk (.ref id39 0) rfl rfl ?_
   refine wpo_cb H45 (fun x _ => eI x.1) rfl rfl rfl (fun v48 hv => h_call1 hH [(1, (id39, (c_octets_Reader v48.2)))] ⟨⟨_, rfl⟩, trivial⟩ rfl rfl (.cons wr (.cons wr .nil)) (octets_Reader_Number_ok hv _ (hH.at_ 1 rfl))) fun v48 _ τ hv48 H47 hH => ?_
   refine mm tk (.ref id39 0) rfl rfl ?_
   refine wpo_cb H47 (fun x _ => eI x.1) rfl rfl rfl (fun v50 hv => h_call1 hH [(1, (id39, (c_octets_Reader v50.2)))] ⟨⟨_, rfl⟩, trivial⟩ rfl rfl (.cons wr (.cons wr .nil)) (octets_Reader_Number_ok hv _ (hH.at_ 1 rfl))) fun v50 _ τ hv50 H49 hH => ?_
   refine mc tk (.ref id41 0) rfl rfl (fun _ => rfl) ?_
   obtain ⟨c52, hc53, H51⟩ := lt_ex H49
   refine wpo_z rfl rfl (h_st tk hH 0 rfl ty3 (by simp) rfl rfl wr (b := (eI v44.1)) rfl rfl (nb rfl) (c_api_Msg c52) (by rw [← hc53]; rfl)) fun τ hH => ?_
   refine mc tk (.ref id41 1) rfl rfl (fun _ => rfl) ?_
   obtain ⟨c55, hc56, H54⟩ := lt_ex H51
   refine wpo_z rfl rfl (h_st tk hH 0 rfl ty3 (by simp) rfl rfl wr (b := (eI v46.1)) rfl rfl (nb rfl) (c_api_Msg c55) (by rw [← hc56]; rfl)) fun τ hH => ?_
   refine mc tk (.ref id41 2) rfl rfl (fun _ => rfl) ?_
   obtain ⟨c58, hc59, H57⟩ := lt_ex H54
   refine wpo_z rfl rfl (h_st tk hH 0 rfl ty3 (by simp) rfl rfl wr (b := (eI v48.1)) rfl rfl (nb rfl) (c_api_Msg c58) (by rw [← hc59]; rfl)) fun τ hH => ?_
   refine mc tk (.ref id41 3) rfl rfl (fun _ => rfl) ?_
   obtain ⟨c61, hc62, H60⟩ := lt_ex H57
   refine wpo_z rfl rfl (h_st tk hH 0 rfl ty3 (by simp) rfl rfl wr (b := (eI v50.1)) rfl rfl (nb rfl) (c_api_Msg c61) (by rw [← hc62]; rfl)) fun τ hH => ?_
   refine wpo_nil (awp_seq (awp_label (awp_seq (sr rfl (mc tk (.ref id41 0) rfl rfl (fun _ => rfl) (wpo_rd (a := (eI c61.Kind)) rfl rfl rfl (h_ld tk hH 0 rfl rfl rfl) ?_))))))
   refine b_ H60 eS rfl (fun v64 hv => OpP.of_call rfl rfl (.cons wr .nil) (wire_parts_ok hv)) fun v64 hv64 H63 => ?_
   refine wpo_a (av := fun id => .spc id) rfl rfl rfl (h_range tk hH td9 rfl) fun id65 τ ⟨hH, n66⟩ => ?_
   refine wpo_nil (awp_block ?_)
   obtain ⟨s77, hs71, hj72⟩ := ob H63
   refine awp_cutx 0 (fun fr τ => WkF fr (fm [(0, ((eL 1 (@eU .u8 8)) x0)), (2, (.ref id1 0)), (4, (.ref id39 0)), (5, (.ref id41 0))]) ∧ Holds σ [(id65, (cIt s77.1)), (id41, (c_api_Msg s77.2.1)), (id39, (c_octets_Reader s77.2.2)), (id1, (c_api_Msg z_api_Msg))] [] τ) ?_ ?_
   ·rintro fr τ ⟨hfr, hH⟩
    have H141 := hj72
    refine AWP.fm [(0, ((eL 1 (@eU .u8 8)) x0)), (2, (.ref id1 0)), (4, (.ref id39 0)), (5, (.ref id41 0))] hfr ?_
    refine awp_seq (sr rfl (mm tk (.ref id39 0) rfl rfl ?_))
    refine wpo_cb H141 (fun x _ => eI x.1) rfl rfl rfl (fun v143 hv => h_call1 hH [(2, (id39, (c_octets_Reader v143.2)))] ⟨⟨_, rfl⟩, trivial⟩ rfl rfl (.cons wr .nil) (octets_Reader_End_ok hv _ (hH.at_ 2 rfl))) fun v143 _ τ hv143 H142 hH => ?_
    refine ma tk (eI v143.1) rfl rfl (wpo_nil (sr rfl (mm tk (eI v143.1) rfl rfl ?_)))
    refine l_ H142 eB rfl (o_ar tk rfl rfl rfl) fun v145 H144 => ?_
    refine wpo_nil ?_
    refine awp_if H144 rfl (fun H146 => ?_) (fun H146 => ?_)
    ·refine sr rfl ?_
     refine l_ H146 e_api_Msg rfl (o_cw tk false (a := .agg ([AV.int .i64 0] ++ [AV.int .i64 0] ++ [AV.int .i64 0] ++ [AV.int .i64 0] ++ [AV.int .i64 0] ++ [AV.str ⟨#[]⟩, AV.int .i64 0, AV.int .i64 0, AV.int .i64 0, AV.nils] ++ [AV.bool false])) rfl (fun _ => rfl) (wk_agg (WkL.append (WkL.append (WkL.append (WkL.append (WkL.append (WkL.append (.cons wr .nil) (.cons wr .nil)) (.cons wr .nil)) (.cons wr .nil)) (.cons wr .nil)) (.cons wr (.cons wr (.cons wr (.cons wr (.cons (by exact wk_nils _) .nil)))))) (.cons wr .nil)))) fun v148 H147 => ?_
     refine mm tk (.ref id39 0) rfl rfl ?_
     refine wpo_bdr H147 eI rfl rfl rfl (fun v150 hv => h_callr rfl rfl (.cons wr .nil) (octets_Reader_At_ok hv _ (hH.at_ 2 rfl))) fun v150 hv150 H149 => ?_
     refine mm tk (eI v143.1) rfl rfl ?_
     refine b_ H149 eErr rfl (fun v152 hv => OpP.of_call rfl rfl (.cons wr (.cons wr (.cons wr .nil))) (trouble_New_ok hv)) fun v152 hv152 H151 => ?_
     obtain ⟨c154, hc155, H153⟩ := lt_ex H151
     refine wpo_z rfl rfl (h_st tk hH 3 rfl ty35 (by simp) rfl rfl wr (b := (e_api_Msg v148)) (enc35.flat _) rfl (nb rfl) (c_api_Msg c154) (by rw [← hc155]; rfl)) fun τ hH => ?_
     refine ma tk (eErr v152) rfl rfl (wpo_nil (awp_ret ?_))
     obtain rfl := oi H153
     exact ⟨_, (.tup [(e_api_Msg c154), (eErr v152)]), (ares_2 (ares_cell hH 3 rfl rfl rfl) rfl), (wk_tup (.cons wr (.cons wr .nil))), .of_eq (by simp only [cutAV, cutL, enc35.cut _ _ _, encErr.cut _ _ _]), ((((hH.noT.drop n66).drop n42).drop n40).drop n2)⟩
    ·refine awp_skip (awp_seq (sr rfl (wpo_rd (a := (e_api_Msg s77.2.1)) rfl rfl rfl (h_ld tk hH 1 rfl rfl rfl) ?_)))
     refine b_ H146 eErr rfl (fun v157 hv => OpP.of_call rfl rfl (.cons wr .nil) (wire_Check_ok hv)) fun v157 hv157 H156 => ?_
     refine ma tk (eErr v157) rfl rfl (wpo_nil (sr rfl (mm tk (eErr v157) rfl rfl ?_)))
     refine l_ H156 eB rfl (o_err_neq tk rfl rfl rfl) fun v159 H158 => ?_
     refine wpo_nil ?_
     refine awp_if H158 rfl (fun H160 => ?_) (fun H160 => ?_)
     ·refine sr rfl ?_
      refine l_ H160 e_api_Msg rfl (o_cw tk false (a := .agg ([AV.int .i64 0] ++ [AV.int .i64 0] ++ [AV.int .i64 0] ++ [AV.int .i64 0] ++ [AV.int .i64 0] ++ [AV.str ⟨#[]⟩, AV.int .i64 0, AV.int .i64 0, AV.int .i64 0, AV.nils] ++ [AV.bool false])) rfl (fun _ => rfl) (wk_agg (WkL.append (WkL.append (WkL.append (WkL.append (WkL.append (WkL.append (.cons wr .nil) (.cons wr .nil)) (.cons wr .nil)) (.cons wr .nil)) (.cons wr .nil)) (.cons wr (.cons wr (.cons wr (.cons wr (.cons (by exact wk_nils _) .nil)))))) (.cons wr .nil)))) fun v162 H161 => ?_
      refine mm tk ((eL 1 (@eU .u8 8)) x0) rfl rfl ?_
      refine l_ H161 eI rfl (o_len tk td31 rfl) fun v164 H163 => ?_
      refine mm tk (eErr v157) rfl rfl ?_
      refine b_ H163 eErr rfl (fun v166 hv => OpP.of_call rfl rfl (.cons wr (.cons wr (.cons wr .nil))) (trouble_Wrap_ok hv)) fun v166 hv166 H165 => ?_
      obtain ⟨c168, hc169, H167⟩ := lt_ex H165
      refine wpo_z rfl rfl (h_st tk hH 3 rfl ty35 (by simp) rfl rfl wr (b := (e_api_Msg v162)) (enc35.flat _) rfl (nb rfl) (c_api_Msg c168) (by rw [← hc169]; rfl)) fun τ hH => ?_
      refine ma tk (eErr v166) rfl rfl (wpo_nil (awp_ret ?_))
      obtain rfl := oi H167
      exact ⟨_, (.tup [(e_api_Msg c168), (eErr v166)]), (ares_2 (ares_cell hH 3 rfl rfl rfl) rfl), (wk_tup (.cons wr (.cons wr .nil))), .of_eq (by simp only [cutAV, cutL, enc35.cut _ _ _, encErr.cut _ _ _]), ((((hH.noT.drop n66).drop n42).drop n40).drop n2)⟩
     ·refine awp_skip (sr rfl (wpo_rd (a := (e_api_Msg s77.2.1)) rfl rfl rfl (h_ld tk hH 1 rfl rfl rfl) ?_))
      obtain ⟨c171, hc172, H170⟩ := lt_ex H160
      refine wpo_z rfl rfl (h_st tk hH 3 rfl ty35 (by simp) rfl rfl wr (b := (e_api_Msg s77.2.1)) (enc35.flat _) rfl (nb rfl) (c_api_Msg c171) (by rw [← hc172]; rfl)) fun τ hH => ?_
      refine ma tk (eErr Err.nil) rfl rfl (wpo_nil (awp_ret ?_))
      obtain rfl := oi H170
      exact ⟨_, (.tup [(e_api_Msg c171), (eErr Err.nil)]), (ares_2 (ares_cell hH 3 rfl rfl rfl) rfl), (wk_tup (.cons wr (.cons wr .nil))), .of_eq (by simp only [cutAV, cutL, enc35.cut _ _ _, encErr.cut _ _ _]), ((((hH.noT.drop n66).drop n42).drop n40).drop n2)⟩
   ·refine awp_loopO (body := fun s => wire_Get_b0 x0 s.1 s.2.1 s.2.2) hs71 (fun (s : (List (BitVec 8) × Nat) × api_Msg × octets_Reader) fr τ => WkF fr (fm [(0, ((eL 1 (@eU .u8 8)) x0)), (2, (.ref id1 0)), (4, (.ref id39 0)), (5, (.ref id41 0)), (45, (.spc id65))]) ∧ Holds σ [(id65, (cIt s.1)), (id41, (c_api_Msg s.2.1)), (id39, (c_octets_Reader s.2.2)), (id1, (c_api_Msg z_api_Msg))] [] τ) ⟨(wc (wc (wc (wc (wc (wkf_nil _)))))), hH⟩ ?_
    rintro ⟨c67, c68, c69⟩ fr τ y73 ⟨hfr, hH⟩ hb75 hy76
    have H78 : wire_Get_b0 x0 c67 c68 c69 = some y73 := hb75
    unfold wire_Get_b0 at H78
    refine AWP.fm [(0, ((eL 1 (@eU .u8 8)) x0)), (2, (.ref id1 0)), (4, (.ref id39 0)), (5, (.ref id41 0)), (45, (.spc id65))] hfr ?_
    have hH : Holds σ [(id65, (cIt c67)), (id41, (c_api_Msg c68)), (id39, (c_octets_Reader c69)), (id1, (c_api_Msg z_api_Msg))] [] τ := hH
    refine sr rfl ?_
    obtain ⟨v80, hv81, H79⟩ := ob H78
    rcases v80 with _ | c82
    ·rw [Option.elim_none] at H79
     refine wpo_a (av := fun _ => .tup [eB false]) rfl rfl rfl (h_next0 hH 0 hv81 rfl rfl) fun _ τ hH => ?_
     refine m_ (eB false) rfl (o_ext tk rfl rfl) (wpo_nil (awp_seq ?_))
     refine awp_false rfl ?_
     refine awp_exit ?_
     have hz := hy76 _ (inj_inr H79)
     subst hz
     exact ⟨⟨_, inj_inr H79⟩, (wc (wc (wc (wc (wkf_nil _))))), hH⟩
    ·rw [Option.elim_some] at H79
     refine wpo_a (av := fun _ => .tup [eB true, eI (c67.2 : Int), eK .i32 c82]) rfl rfl rfl (h_next1 hH 0 hv81 rfl rfl) fun _ τ (hH : Holds σ [(id65, (cIt (c67.1, c67.2 + 1))), (id41, (c_api_Msg c68)), (id39, (c_octets_Reader c69)), (id1, (c_api_Msg z_api_Msg))] [] τ) => ?_
     refine m_ (eB true) rfl (o_ext tk rfl rfl) (wpo_nil (awp_seq ?_))
     refine awp_true rfl ?_
     refine awp_skip (awp_block (sr rfl (m_ ((eK .i32) c82) rfl (o_ext tk rfl rfl) (ma tk ((eK .i32) c82) rfl rfl (wpo_nil (awp_seq (sr rfl (mm tk (.ref id39 0) rfl rfl ?_))))))))
     refine wpo_bdr H79 eI rfl rfl rfl (fun v84 hv => h_callr rfl rfl (.cons wr .nil) (octets_Reader_Code_ok hv _ (hH.at_ 2 rfl))) fun v84 hv84 H83 => ?_
     refine l_ H83 eB rfl (o_ar tk rfl rfl rfl) fun v86 H85 => ?_
     refine wpo_nil ?_
     refine awp_if H85 rfl (fun H87 => ?_) (fun H87 => ?_)
     ·refine awp_exit ?_
      have hz := hy76 _ (inj_inr H87)
      subst hz
      exact ⟨⟨_, inj_inr H87⟩, (wc (wc (wc (wc (wkf_nil _))))), hH⟩
     ·refine awp_skip (sr rfl (mm tk ((eK .i32) c82) rfl rfl (wpo_nil (awp_block (sr rfl ?_)))))
      refine l_ H87 eB rfl (o_ar tk rfl rfl rfl) fun v89 H88 => ?_
      refine ma tk (eB v89) rfl rfl (wpo_nil ?_)
      refine awp_if H88 rfl (fun H90 => ?_) (fun H90 => ?_)
      ·refine awp_region rfl (mm tk (.ref id39 0) rfl rfl ?_)
       refine wpo_cb H90 (fun x _ => eI x.1) rfl rfl rfl (fun v92 hv => h_call1 hH [(2, (id39, (c_octets_Reader v92.2)))] ⟨⟨_, rfl⟩, trivial⟩ rfl rfl (.cons wr (.cons wr .nil)) (octets_Reader_Number_ok hv _ (hH.at_ 2 rfl))) fun v92 _ τ hv92 H91 hH => ?_
       refine mc tk (.ref id41 4) rfl rfl (fun _ => rfl) ?_
       obtain ⟨c94, hc95, H93⟩ := lt_ex H91
       refine wpo_z rfl rfl (h_st tk hH 1 rfl ty3 (by simp) rfl rfl wr (b := (eI v92.1)) rfl rfl (nb rfl) (c_api_Msg c94) (by rw [← hc95]; rfl)) fun τ hH => ?_
       refine wpo_nil ?_
       exact ⟨((c67.1, c67.2 + 1), c94, v92.2), inj_inl H93, (wc (wc (wc (wc (wc (wkf_nil _)))))), hH⟩
      ·refine sr rfl ?_
       refine l_ H90 eB rfl (o_ar tk rfl rfl rfl) fun v97 H96 => ?_
       refine ma tk (eB v97) rfl rfl (wpo_nil ?_)
       refine awp_if H96 rfl (fun H98 => ?_) (fun H98 => ?_)
       ·refine awp_region rfl (mm tk (.ref id39 0) rfl rfl ?_)
        refine wpo_cb H98 (fun x _ => (eL 1 (@eU .u8 8)) x.1) rfl rfl rfl (fun v100 hv => h_call1 hH [(2, (id39, (c_octets_Reader v100.2)))] ⟨⟨_, rfl⟩, trivial⟩ rfl rfl (.cons wr (.cons wr .nil)) (octets_Reader_Bytes_ok hv _ (hH.at_ 2 rfl))) fun v100 _ τ hv100 H99 hH => ?_
        refine m_ (eS v100.1) rfl (o_b2s tk td31 td9 td5 rfl) (mc tk (.ref id41 5) rfl rfl (fun _ => rfl) (mc tk (.ref id41 5) rfl rfl (fun _ => rfl) ?_))
        obtain ⟨c102, hc103, H101⟩ := lt_ex H99
        refine wpo_z rfl rfl (h_st tk hH 1 rfl ty9 (by simp) rfl rfl wr (b := (eS v100.1)) rfl rfl (nb rfl) (c_api_Msg c102) (by rw [← hc103]; rfl)) fun τ hH => ?_
        refine wpo_nil ?_
        exact ⟨((c67.1, c67.2 + 1), c102, v100.2), inj_inl H101, (wc (wc (wc (wc (wc (wkf_nil _)))))), hH⟩
       ·refine sr rfl ?_
        refine l_ H98 eB rfl (o_ar tk rfl rfl rfl) fun v105 H104 => ?_
        refine ma tk (eB v105) rfl rfl (wpo_nil ?_)
        refine awp_if H104 rfl (fun H106 => ?_) (fun H106 => ?_)
        ·refine awp_region rfl (mm tk (.ref id39 0) rfl rfl ?_)
         refine wpo_cb H106 (fun x _ => eI x.1) rfl rfl rfl (fun v108 hv => h_call1 hH [(2, (id39, (c_octets_Reader v108.2)))] ⟨⟨_, rfl⟩, trivial⟩ rfl rfl (.cons wr (.cons wr .nil)) (octets_Reader_Number_ok hv _ (hH.at_ 2 rfl))) fun v108 _ τ hv108 H107 hH => ?_
         refine mc tk (.ref id41 5) rfl rfl (fun _ => rfl) (mc tk (.ref id41 7) rfl rfl (fun _ => rfl) ?_)
         obtain ⟨c110, hc111, H109⟩ := lt_ex H107
         refine wpo_z rfl rfl (h_st tk hH 1 rfl ty3 (by simp) rfl rfl wr (b := (eI v108.1)) rfl rfl (nb rfl) (c_api_Msg c110) (by rw [← hc111]; rfl)) fun τ hH => ?_
         refine wpo_nil ?_
         exact ⟨((c67.1, c67.2 + 1), c110, v108.2), inj_inl H109, (wc (wc (wc (wc (wc (wkf_nil _)))))), hH⟩
        ·refine sr rfl ?_
         refine l_ H106 eB rfl (o_ar tk rfl rfl rfl) fun v113 H112 => ?_
         refine ma tk (eB v113) rfl rfl (wpo_nil ?_)
         refine awp_if H112 rfl (fun H114 => ?_) (fun H114 => ?_)
         ·refine awp_region rfl (mm tk (.ref id39 0) rfl rfl ?_)
          refine wpo_cb H114 (fun x _ => eI x.1) rfl rfl rfl (fun v116 hv => h_call1 hH [(2, (id39, (c_octets_Reader v116.2)))] ⟨⟨_, rfl⟩, trivial⟩ rfl rfl (.cons wr (.cons wr .nil)) (octets_Reader_Number_ok hv _ (hH.at_ 2 rfl))) fun v116 _ τ hv116 H115 hH => ?_
          refine l_ H115 eB rfl (o_ar tk rfl rfl rfl) fun v118 H117 => ?_
          refine mc tk (.ref id41 10) rfl rfl (fun _ => rfl) ?_
          obtain ⟨c120, hc121, H119⟩ := lt_ex H117
          refine wpo_z rfl rfl (h_st tk hH 1 rfl ty4 (by simp) rfl rfl wr (b := (eB v118)) rfl rfl (nb rfl) (c_api_Msg c120) (by rw [← hc121]; rfl)) fun τ hH => ?_
          refine wpo_nil ?_
          exact ⟨((c67.1, c67.2 + 1), c120, v116.2), inj_inl H119, (wc (wc (wc (wc (wc (wkf_nil _)))))), hH⟩
         ·refine sr rfl ?_
          refine l_ H114 eB rfl (o_ar tk rfl rfl rfl) fun v123 H122 => ?_
          refine ma tk (eB v123) rfl rfl (wpo_nil ?_)
          refine awp_if H122 rfl (fun H124 => ?_) (fun H124 => ?_)
          ·refine sr rfl (mc tk (.ref id41 10) rfl rfl (fun _ => rfl) (wpo_rd (a := (eB c68.Found)) rfl rfl rfl (h_ld tk hH 1 rfl rfl rfl) (wpo_nil ?_)))
           refine awp_if H124 rfl (fun H125 => ?_) (fun H125 => ?_)
           ·refine sr rfl (mm tk (.ref id39 0) rfl rfl ?_)
            refine wpo_cb H125 (fun x _ => eI x.1) rfl rfl rfl (fun v127 hv => h_call1 hH [(2, (id39, (c_octets_Reader v127.2)))] ⟨⟨_, rfl⟩, trivial⟩ rfl rfl (.cons wr (.cons wr .nil)) (octets_Reader_Number_ok hv _ (hH.at_ 2 rfl))) fun v127 _ τ hv127 H126 hH => ?_
            refine mm tk (.ref id39 0) rfl rfl ?_
            refine wpo_cb H126 (fun x _ => eI x.1) rfl rfl rfl (fun v129 hv => h_call1 hH [(2, (id39, (c_octets_Reader v129.2)))] ⟨⟨_, rfl⟩, trivial⟩ rfl rfl (.cons wr (.cons wr .nil)) (octets_Reader_Number_ok hv _ (hH.at_ 2 rfl))) fun v129 _ τ hv129 H128 hH => ?_
            refine mc tk (.ref id41 5) rfl rfl (fun _ => rfl) (mc tk (.ref id41 6) rfl rfl (fun _ => rfl) ?_)
            obtain ⟨c131, hc132, H130⟩ := lt_ex H128
            refine wpo_z rfl rfl (h_st tk hH 1 rfl ty3 (by simp) rfl rfl wr (b := (eI v127.1)) rfl rfl (nb rfl) (c_api_Msg c131) (by rw [← hc132]; rfl)) fun τ hH => ?_
            refine mc tk (.ref id41 5) rfl rfl (fun _ => rfl) (mc tk (.ref id41 8) rfl rfl (fun _ => rfl) ?_)
            obtain ⟨c134, hc135, H133⟩ := lt_ex H130
            refine wpo_z rfl rfl (h_st tk hH 1 rfl ty3 (by simp) rfl rfl wr (b := (eI v129.1)) rfl rfl (nb rfl) (c_api_Msg c134) (by rw [← hc135]; rfl)) fun τ hH => ?_
            refine wpo_nil (awp_region rfl (mm tk (.ref id39 0) rfl rfl ?_))
            refine wpo_cb H133 (fun x _ => (eL 1 (@eU .u8 8)) x.1) rfl rfl rfl (fun v137 hv => h_call1 hH [(2, (id39, (c_octets_Reader v137.2)))] ⟨⟨_, rfl⟩, trivial⟩ rfl rfl (.cons wr (.cons wr .nil)) (octets_Reader_Bytes_ok hv _ (hH.at_ 2 rfl))) fun v137 _ τ hv137 H136 hH => ?_
            refine mc tk (.ref id41 5) rfl rfl (fun _ => rfl) (mc tk (.ref id41 9) rfl rfl (fun _ => rfl) ?_)
            obtain ⟨c139, hc140, H138⟩ := lt_ex H136
            refine wpo_z rfl rfl (h_st tk hH 1 rfl ty31 (by simp) rfl rfl wr (b := ((eL 1 (@eU .u8 8)) v137.1)) rfl rfl (nb rfl) (c_api_Msg c139) (by rw [← hc140]; rfl)) fun τ hH => ?_
            refine wpo_nil ?_
            exact ⟨((c67.1, c67.2 + 1), c139, v137.2), inj_inl H138, (wc (wc (wc (wc (wc (wkf_nil _)))))), hH⟩
           ·refine awp_skip ?_
            exact ⟨((c67.1, c67.2 + 1), c68, c69), inj_inl H125, (wc (wc (wc (wc (wc (wkf_nil _)))))), hH⟩
          ·refine awp_skip ?_
           exact ⟨((c67.1, c67.2 + 1), c68, c69), inj_inl H124, (wc (wc (wc (wc (wc (wkf_nil _)))))), hH⟩
theorem lines_Lines_Look_ok {x0 : lines_Lines} {x1 : Int} {r : api_Msg × Err} (H : lines_Lines_Look x0 x1 = some r) (σ : St) {p0 p0_l c_p0_l : Nat} {g_p0_l : AV} (h0 : σ.objs[p0]? = some [g_p0_l, (eI x0.lost)]) (h0_l : σ.objs[p0_l]? = some (gK e_lines_parcel c_p0_l x0.l)) (hd : [p0, p0_l].Pairwise fun a b => a ≠ b) (gg_p0_l : GG p0_l 2 c_p0_l (x0.l).length g_p0_l) : ACall Tryd.prog 19 [(.ref p0 0), (eI x1)] σ (fun a τ => a = .tup [e_api_Msg r.1, eErr r.2] ∧ τ = σ) := by
 unfold lines_Lines_Look at H
 refine ACall.pure (acall_start tk Tryd.func19 (by decide) rfl (nb rfl) ?_)
 have hH := Holds.brings (σ := σ) [(p0, [g_p0_l, (eI x0.lost)]), (p0_l, (gK e_lines_parcel c_p0_l x0.l))] (by simp only [List.mem_cons, List.not_mem_nil, or_false]; rintro _ (rfl | rfl) <;> assumption) hd
 refine sr rfl ?_
 refine wpo_a (av := fun id => .ref id 0) rfl rfl rfl (h_allocw tk hH ty35 (c_api_Msg z_api_Msg) (.cons wr (.cons wr (.cons wr (.cons wr (.cons wr (.cons wr (.cons wr (.cons wr (.cons wr (.cons (by exact wk_nils _) (.cons wr .nil)))))))))))) fun id1 τ ⟨hH, n2⟩ => ?_
 refine ma tk (eErr Err.nil) rfl rfl (wpo_nil (awp_seq (sr rfl (mm tk (.ref p0 0) rfl rfl (mm tk (eI x1) rfl rfl ?_)))))
 refine wpo_bdr H eErr rfl rfl rfl (fun v4 hv => h_callr rfl rfl (.cons wr (.cons wr (.cons wr .nil))) (lines_Lines_at_ok hv _ (hH.at_ 1 rfl) (hH.at_ 2 rfl) (hH.pw [1, 2] rfl (by decide)) gg_p0_l)) fun v4 hv4 H3 => ?_
 refine ma tk (eErr v4) rfl rfl (wpo_nil (sr rfl (mm tk (eErr v4) rfl rfl ?_)))
 refine l_ H3 eB rfl (o_err_neq tk rfl rfl rfl) fun v6 H5 => ?_
 refine wpo_nil ?_
 refine awp_if H5 rfl (fun H7 => ?_) (fun H7 => ?_)
 ·refine sr rfl ?_
  refine l_ H7 e_api_Msg rfl (o_cw tk false (a := .agg ([AV.int .i64 0] ++ [AV.int .i64 0] ++ [AV.int .i64 0] ++ [AV.int .i64 0] ++ [AV.int .i64 0] ++ [AV.str ⟨#[]⟩, AV.int .i64 0, AV.int .i64 0, AV.int .i64 0, AV.nils] ++ [AV.bool false])) rfl (fun _ => rfl) (wk_agg (WkL.append (WkL.append (WkL.append (WkL.append (WkL.append (WkL.append (.cons wr .nil) (.cons wr .nil)) (.cons wr .nil)) (.cons wr .nil)) (.cons wr .nil)) (.cons wr (.cons wr (.cons wr (.cons wr (.cons (by exact wk_nils _) .nil)))))) (.cons wr .nil)))) fun v9 H8 => ?_
  refine mm tk (eErr v4) rfl rfl ?_
  obtain ⟨c11, hc12, H10⟩ := lt_ex H8
  refine wpo_z rfl rfl (h_st tk hH 0 rfl ty35 (by simp) rfl rfl wr (b := (e_api_Msg v9)) (enc35.flat _) rfl (nb rfl) (c_api_Msg c11) (by rw [← hc12]; rfl)) fun τ hH => ?_
  refine ma tk (eErr v4) rfl rfl (wpo_nil (awp_ret ?_))
  obtain rfl := oi H10
  exact ⟨_, (.tup [(e_api_Msg c11), (eErr v4)]), (ares_2 (ares_cell hH 0 rfl rfl rfl) rfl), (wk_tup (.cons wr (.cons wr .nil))), .of_eq (by simp only [cutAV, cutL, enc35.cut _ _ _, encErr.cut _ _ _]), (((hH.noT.drop n2).unbring h0).unbring h0_l)⟩
 ·refine awp_skip (sr rfl (mm tk (.ref p0 0) rfl rfl (mc tk (.ref p0 0) rfl rfl (fun _ => rfl) (mc tk (.ref p0 0) rfl rfl (fun _ => rfl) (wpo_rd (a := (gC p0_l 2 c_p0_l (x0.l).length)) rfl rfl rfl (OpS.wkr gg_p0_l.wk (h_ld tk hH 1 rfl rfl rfl)) (mm tk (eI x1) rfl rfl ?_))))))
  refine b_ H7 (fun _ => .ref p0_l (0 + (x1 : Int).toNat * 2 + 0)) rfl (fun v14 hv => o_gvecx tk hv td49 sz55 (by decide) rfl rfl) fun v14 hv14 H13 => ?_
  refine mc tk (.ref p0_l (0 + (x1 : Int).toNat * 2 + 0)) rfl rfl (fun _ => rfl) ?_
  refine wpo_bdr H13 (fun y => (eL 1 (@eU .u8 8)) y.b) rfl rfl rfl (fun v16 hv => h_ldxG tk hH 2 hv rfl enc55 rfl (by decide) rfl) fun v16 hv16 H15 => ?_
  refine b_ H15 (fun r => .tup [e_api_Msg r.1, eErr r.2]) rfl (fun v18 hv => OpP.of_call rfl rfl (.cons wr .nil) (wire_Get_ok hv)) fun v18 hv18 H17 => ?_
  refine mm tk (.tup [(e_api_Msg v18.1), (eErr v18.2)]) rfl rfl (m_ (e_api_Msg v18.1) rfl (o_ext tk rfl rfl) (m_ (eErr v18.2) rfl (o_ext tk rfl rfl) ?_))
  refine wpo_a (av := fun id => .ref id 0) rfl rfl rfl (h_allocw tk hH ty35 (c_api_Msg z_api_Msg) (.cons wr (.cons wr (.cons wr (.cons wr (.cons wr (.cons wr (.cons wr (.cons wr (.cons wr (.cons (by exact wk_nils _) (.cons wr .nil)))))))))))) fun id19 τ ⟨hH, n20⟩ => ?_
  obtain ⟨c22, hc23, H21⟩ := lt_ex H17
  refine wpo_z rfl rfl (h_st tk hH 0 rfl ty35 (by simp) rfl rfl wr (b := (e_api_Msg v18.1)) (enc35.flat _) rfl (nb rfl) (c_api_Msg c22) (by rw [← hc23]; rfl)) fun τ hH => ?_
  refine ma tk (eErr v18.2) rfl rfl (wpo_nil (awp_seq ?_))
  refine awp_drawS mixed [4] rfl (by decide +kernel) rfl rfl ?_
  refine wpdS_rd (a := (e_api_Msg c22)) rfl (by decide +kernel) rfl rfl (h_ld tk hH 0 rfl rfl rfl) (wpdS_mv (a := (eI x1)) rfl rfl rfl (o_mv tk rfl (Wk.refl _)) (wpdS_mv (a := (eErr v18.2)) rfl rfl rfl (o_mv tk rfl (Wk.refl _)) ?_))
  refine wpdS_bd H21 eErr rfl rfl rfl (fun v25 hv => OpP.of_call rfl rfl (.cons wr (.cons wr (.cons wr .nil))) (trouble_Wrap_ok hv)) fun v25 hv25 H24 => ?_
  obtain ⟨c27, hc28, H26⟩ := lt_ex H24
  refine wpdS_z rfl rfl rfl (h_st tk hH 1 rfl ty35 (by simp) rfl rfl wr (b := (e_api_Msg c22)) (enc35.flat _) rfl (nb rfl) (c_api_Msg c27) (by rw [← hc28]; rfl)) fun τ hH => ?_
  refine wpdS_mv (a := (eErr v25)) rfl rfl rfl (o_as tk rfl (Wk.refl _)) (wpdS_nil (awp_ret ?_))
  obtain rfl := oi H26
  exact ⟨_, (.tup [(e_api_Msg c27), (eErr v25)]), (ares_2 (ares_cell hH 1 rfl rfl rfl) rfl), (wk_tup (.cons wr (.cons wr .nil))), .of_eq (by simp only [cutAV, cutL, enc35.cut _ _ _, encErr.cut _ _ _]), ((((hH.noT.drop n20).drop n2).unbring h0).unbring h0_l)⟩
theorem lines_Lines_All_ok {x0 : lines_Lines} {r : (List api_Msg)} (H : lines_Lines_All x0 = some r) (σ : St) {p0 p0_l c_p0_l : Nat} {g_p0_l : AV} (h0 : σ.objs[p0]? = some [g_p0_l, (eI x0.lost)]) (h0_l : σ.objs[p0_l]? = some (gK e_lines_parcel c_p0_l x0.l)) (hd : [p0, p0_l].Pairwise fun a b => a ≠ b) (gg_p0_l : GG p0_l 2 c_p0_l (x0.l).length g_p0_l) : ACall Tryd.prog 17 [(.ref p0 0)] σ (fun a τ => a = (eL 11 e_api_Msg) r ∧ τ = σ) := by
 unfold lines_Lines_All at H
 refine ACall.pure (acall_start tk Tryd.func17 (by decide) rfl (nb rfl) ?_)
 have hH := Holds.brings (σ := σ) [(p0, [g_p0_l, (eI x0.lost)]), (p0_l, (gK e_lines_parcel c_p0_l x0.l))] (by simp only [List.mem_cons, List.not_mem_nil, or_false]; rintro _ (rfl | rfl) <;> assumption) hd
 refine sr rfl (ma tk AV.nils rfl rfl (wpo_nil (sr rfl (ma tk AV.nils rfl rfl (wpo_nil (awp_seq (sr rfl (mm tk (.ref p0 0) rfl rfl ?_))))))))
 refine mc tk (.ref p0 0) rfl rfl (fun _ => rfl) (mc tk (.ref p0 0) rfl rfl (fun _ => rfl) (wpo_rd (a := (gC p0_l 2 c_p0_l (x0.l).length)) rfl rfl rfl (OpS.wkr gg_p0_l.wk (h_ld tk hH 0 rfl rfl rfl)) ?_))
 refine l_ H eI rfl (o_glen tk td49 rfl) fun v2 H1 => ?_
 refine mm tk (eI (0 : Int)) rfl rfl (wpo_nil (awp_block ?_))
 refine AWP.tokN hH 3 11 rfl fun tk5 τ hH => ?_
 obtain ⟨s13, hs7, hj8⟩ := ob H1
 refine awp_cutx 0 (fun fr τ => ∃ tk_3, WkF fr (fm [(3, (eT tk_3 11 e_api_Msg s13))]) ∧ Holds σ [(p0, [g_p0_l, (eI x0.lost)]), (p0_l, (gK e_lines_parcel c_p0_l x0.l))] [tk_3] τ) ?_ ?_
 ·rintro fr τ ⟨tk_3, hfr, hH⟩
  have H53 := hj8
  refine AWP.fm [(3, (eT tk_3 11 e_api_Msg s13))] hfr ?_
  refine sr rfl (mm tk (eT tk_3 11 e_api_Msg s13) rfl rfl (ma tk (eT tk_3 11 e_api_Msg s13) rfl rfl (wpo_nil (awp_ret ?_))))
  obtain rfl := oi H53
  exact ⟨_, ((eL 11 e_api_Msg) s13), rfl, wk_no, .of_eq ((enc_l td27 sz27 enc35.cut).cut _ _ _), ((hH.noT.unbring h0).unbring h0_l)⟩
 ·refine awp_loopO (body := fun s => lines_Lines_All_b0 x0 v2 s.1 s.2) hs7 (fun (s : (List api_Msg) × Int) fr τ => ∃ tk_3, WkF fr (fm [(0, (.ref p0 0)), (3, (eT tk_3 11 e_api_Msg s.1)), (11, (gC p0_l 2 c_p0_l (x0.l).length)), (12, (eI v2)), (13, (eI s.2))]) ∧ Holds σ [(p0, [g_p0_l, (eI x0.lost)]), (p0_l, (gK e_lines_parcel c_p0_l x0.l))] [tk_3] τ) ⟨tk5, (wc (wc (wc (wc (wc (wkf_nil _)))))), hH⟩ ?_
  rintro ⟨c3, c4⟩ fr τ y9 ⟨tk_3, hfr, hH⟩ hb11 hy12
  have H14 : lines_Lines_All_b0 x0 v2 c3 c4 = some y9 := hb11
  unfold lines_Lines_All_b0 at H14
  refine AWP.fm [(0, (.ref p0 0)), (3, (eT tk_3 11 e_api_Msg c3)), (11, (gC p0_l 2 c_p0_l (x0.l).length)), (12, (eI v2)), (13, (eI c4))] hfr ?_
  have hH : Holds σ [(p0, [g_p0_l, (eI x0.lost)]), (p0_l, (gK e_lines_parcel c_p0_l x0.l))] [tk_3] τ := hH
  refine sr rfl ?_
  refine l_ H14 eB rfl (o_ar tk rfl rfl rfl) fun v16 H15 => ?_
  refine wpo_nil (awp_seq ?_)
  refine awp_if H15 rfl (fun H17 => ?_) (fun H17 => ?_)
  ·refine awp_skip (awp_seq (awp_block (sr rfl (mm tk (eI c4) rfl rfl ?_))))
   refine b_ H17 (fun _ => .ref p0_l (0 + (c4 : Int).toNat * 2 + 0)) rfl (fun v19 hv => o_gvecx tk hv td49 sz55 (by decide) rfl rfl) fun v19 hv19 H18 => ?_
   refine wpo_bdr H18 (fun y => e_lines_parcel y) rfl rfl rfl (fun v21 hv => h_ldxG tk hH 1 hv rfl enc55 (acut_enc enc55 rfl _) (by decide) rfl) fun v21 hv21 H20 => ?_
   refine wpo_a (av := fun id => .ref id 0) rfl rfl rfl (h_alloc tk hH ty55 [AV.nils, (eB z_lines_parcel.spoilt)] rfl) fun id22 τ ⟨hH, n23⟩ => ?_
   refine ma tk (eI c4) rfl rfl ?_
   refine wpo_z rfl rfl (h_st tk hH 0 rfl ty55 (by simp) rfl rfl wr (b := (e_lines_parcel v21)) (enc55.flat _) rfl (nb rfl) (c_lines_parcel (v21 : lines_parcel)) rfl) fun τ hH => ?_
   refine wpo_nil (sr rfl (mm tk (.ref p0 0) rfl rfl (mm tk (eI c4) rfl rfl ?_)))
   refine wpo_bdr H20 (fun r => .tup [e_api_Msg r.1, eErr r.2]) rfl rfl rfl (fun v26 hv => h_callr rfl rfl (.cons wr (.cons wr .nil)) (lines_Lines_Look_ok hv _ (hH.at_ 1 rfl) (hH.at_ 2 rfl) (hH.pw [1, 2] rfl (by decide)) gg_p0_l)) fun v26 hv26 H25 => ?_
   refine mm tk (.tup [(e_api_Msg v26.1), (eErr v26.2)]) rfl rfl (m_ (e_api_Msg v26.1) rfl (o_ext tk rfl rfl) (m_ (eErr v26.2) rfl (o_ext tk rfl rfl) ?_))
   refine wpo_a (av := fun id => .ref id 0) rfl rfl rfl (h_allocw tk hH ty35 (c_api_Msg z_api_Msg) (.cons wr (.cons wr (.cons wr (.cons wr (.cons wr (.cons wr (.cons wr (.cons wr (.cons wr (.cons (by exact wk_nils _) (.cons wr .nil)))))))))))) fun id27 τ ⟨hH, n28⟩ => ?_
   obtain ⟨c30, hc31, H29⟩ := lt_ex H25
   refine wpo_z rfl rfl (h_st tk hH 0 rfl ty35 (by simp) rfl rfl wr (b := (e_api_Msg v26.1)) (enc35.flat _) rfl (nb rfl) (c_api_Msg c30) (by rw [← hc31]; rfl)) fun τ hH => ?_
   refine ma tk (eErr v26.2) rfl rfl (wpo_nil (awp_seq ?_))
   obtain ⟨s32, hs34, hj35⟩ := ob H29
   refine awp_cutn (fun fr τ => ∃ tk_3, WkF fr (fm [(0, (.ref p0 0)), (3, (eT tk_3 11 e_api_Msg c3)), (6, (.ref id27 0)), (11, (gC p0_l 2 c_p0_l (x0.l).length)), (12, (eI v2)), (13, (eI c4)), (30, (eB s32))]) ∧ Holds σ [(id27, (c_api_Msg c30)), (id22, (c_lines_parcel (v21 : lines_parcel))), (p0, [g_p0_l, (eI x0.lost)]), (p0_l, (gK e_lines_parcel c_p0_l x0.l))] [tk_3] τ) ?_ ?_
   ·rintro fr τ ⟨tk_3, hfr, hH⟩
    have H41 := hj35
    refine AWP.fm [(0, (.ref p0 0)), (3, (eT tk_3 11 e_api_Msg c3)), (6, (.ref id27 0)), (11, (gC p0_l 2 c_p0_l (x0.l).length)), (12, (eI v2)), (13, (eI c4)), (30, (eB s32))] hfr ?_
    refine awp_if H41 rfl (fun H42 => ?_) (fun H42 => ?_)
    ·refine awp_region rfl (mm tk (eT tk_3 11 e_api_Msg c3) rfl rfl (wpo_rd (a := (e_api_Msg c30)) rfl rfl rfl (h_ld tk hH 0 rfl rfl rfl) ?_))
     refine l_ H42 (eF 11 e_api_Msg) rfl (o_c tk false rfl (fun _ => rfl)) fun v44 H43 => ?_
     obtain ⟨v46, hv47, H45⟩ := ob H43
     refine wpo_a (av := fun t => eT t 11 e_api_Msg v46) rfl rfl rfl (h_app tk hH 0 hv47 rfl td27 ty35 rfl (by decide) rfl (src_l td27 rfl)) fun tk48 τ hH => ?_
     refine ma tk (eT tk48 11 e_api_Msg v46) rfl rfl (wpo_nil (awp_region rfl ?_))
     refine l_ H45 eI rfl (o_ar tk rfl rfl rfl) fun v50 H49 => ?_
     refine mm tk (eI v50) rfl rfl (wpo_nil ?_)
     exact ⟨(v46, v50), inj_inl H49, tk48, (wc (wc (wc (wc (wc (wkf_nil _)))))), ((hH.drop n28).drop n23)⟩
    ·refine awp_skip (awp_region rfl ?_)
     refine l_ H42 eI rfl (o_ar tk rfl rfl rfl) fun v52 H51 => ?_
     refine mm tk (eI v52) rfl rfl (wpo_nil ?_)
     exact ⟨(c3, v52), inj_inl H51, tk_3, (wc (wc (wc (wc (wc (wkf_nil _)))))), ((hH.drop n28).drop n23)⟩
   ·refine awp_region rfl (mm tk (eErr v26.2) rfl rfl ?_)
    refine l_ hs34 eB rfl (o_err_eql tk rfl rfl rfl) fun v37 H36 => ?_
    refine mm tk (eB v37) rfl rfl ?_
    refine if_split H36 (fun hb H38 => ?_) (fun hb H38 => ?_)
    ·subst hb
     refine mc tk (.ref id22 1) rfl rfl (fun _ => rfl) (wpo_rd (a := (eB (v21 : lines_parcel).spoilt)) rfl rfl rfl (h_ld tk hH 1 rfl rfl rfl) ?_)
     refine l_ H38 eB rfl (o_un tk rfl rfl) fun v40 H39 => ?_
     refine pt tk (eB v40) rfl rfl rfl (wpo_nil ?_)
     have e := oi H39
     subst e
     exact ⟨tk_3, (wc (wc (wc (wc (wc (wc (wc (wkf_nil _)))))))), hH⟩
    ·subst hb
     refine k_ rfl (k_ rfl (k_ rfl (pf tk (eB false) rfl rfl rfl (wpo_nil ?_))))
     have e := oi H38
     subst e
     exact ⟨tk_3, (wc (wc (wc (wc (wc (wc (wc (wkf_nil _)))))))), hH⟩
  ·refine awp_exit ?_
   have hz := hy12 _ (inj_inr H17)
   subst hz
   exact ⟨⟨_, inj_inr H17⟩, tk_3, (wc (wkf_nil _)), hH⟩
theorem lines_New_ok  {r : lines_Lines} (H : lines_New = some r) (σ : St)  : ACall Tryd.prog 6 [] σ (fun a τ => a = .ref σ.objs.length 0 ∧ τ = ⟨σ.objs ++ (fun f c => [[(gC (f 1) 2 0 (c.l).length), (eI c.lost)], (gK e_lines_parcel 0 c.l)]) (fun i => σ.objs.length + i) r, σ.opn, σ.gl⟩) := by
 unfold lines_New at H
 refine ACall.newB1 (args := []) (B := (fun f c => [[(gC (f 1) 2 0 (c.l).length), (eI c.lost)], (gK e_lines_parcel 0 c.l)])) (c := r) 2 (fun f => rfl) (by decide) (fun ρ κ f g h => by exact (.cons rfl (.cons (cut_gC (h 1 (by decide))) (.cons (.of_eq ((enc_i64 td3 sz3).cut ρ κ _)) .nil)) (.cons (by first | rfl | exact (cutL_spcl ρ κ (gK e_lines_parcel 0 r.l)).trans (gK_sp enc55 _ _)) (by rw [gK_cut enc55.cut _ _ ρ κ]; exact .refl _) .nil))) (acall_start tk Tryd.func6 (by decide) rfl (nb rfl) ?_)
 have hH := Holds.init σ
 refine sr rfl (ma tk .nilp rfl rfl (wpo_nil (sr rfl (mc tk (.agg [AV.nils, (eI (⟨([] : List lines_parcel), (0 : Int)⟩ : lines_Lines).lost)]) rfl rfl (fun _ => rfl) ?_))))
 refine wpo_a (av := fun id => .ref id 0) rfl rfl rfl (h_box tk hH rfl wr (b := (.agg [AV.nils, (eI (⟨([] : List lines_parcel), (0 : Int)⟩ : lines_Lines).lost)])) rfl [AV.nils, (eI (⟨([] : List lines_parcel), (0 : Int)⟩ : lines_Lines).lost)] rfl) fun id1 τ ⟨hH, n2⟩ => ?_
 refine ma tk (.ref id1 0) rfl rfl (wpo_nil ?_)
 refine AWP.vecF hH 0 (fun id => [(gC id 2 0 ((([] : List lines_parcel)).length)), (eI (⟨([] : List lines_parcel), (0 : Int)⟩ : lines_Lines).lost)]) rfl (fun id => (.cons (wk_vec0n id 2) (.cons wr .nil))) fun id3 τ (hH : Holds σ [(id3, (gK e_lines_parcel 0 ([] : List lines_parcel))), (id1, [(gC id3 2 0 ((([] : List lines_parcel)).length)), (eI (⟨([] : List lines_parcel), (0 : Int)⟩ : lines_Lines).lost)])] [] τ) n4 => ?_
 refine awp_ret ?_
 obtain rfl := oi H
 have hH : Holds σ [(id3, (gK e_lines_parcel 0 ([] : List lines_parcel))), (id1, [(gC id3 2 0 ((([] : List lines_parcel)).length)), (eI (⟨([] : List lines_parcel), (0 : Int)⟩ : lines_Lines).lost)])] [] _ := hH
 have hF : Holds σ [(id1, [(gC id3 2 0 ((([] : List lines_parcel)).length)), (eI (⟨([] : List lines_parcel), (0 : Int)⟩ : lines_Lines).lost)]), (id3, (gK e_lines_parcel 0 ([] : List lines_parcel)))] [] _ := hH.pick (by simp only [List.mem_cons, List.not_mem_nil, or_false]; rintro _ (rfl | rfl) <;> simp) (pw_zip (hH.pw [1, 0] rfl (by decide))) (by simp only [List.mem_cons, List.not_mem_nil, or_false]; rintro _ (rfl | rfl) <;> first | exact .inl (by assumption) | exact .inr (by simp)) (fun t h => by cases h) .nil
 exact ⟨_, .ref id1 0, rfl, .of_eq rfl, fun i => [id1, id3].getD i 0, rfl, by intro i hi; match i, hi with | 0, _ => exact n2 | 1, _ => exact n4 | k + 2, hi => exact absurd hi (by simp), hF⟩
theorem octets_Put_app {x0 : List (BitVec 8)} {x1 : List Int} {r : (List (BitVec 8))} (H : octets_Put x0 x1 = some r) (σ : St)  : ACall Tryd.prog 29 [((eL 1 (@eU .u8 8)) x0), ((eL 1 eI) x1)] σ (fun a τ => a = .sl (.own σ.opn.length) 1 (r.map (@eU .u8 8)) ∧ τ = σ.more) := by
 unfold octets_Put at H
 refine ACall.app (fun ρ κ => cutL_enc (enc_u td5 sz5).cut ρ κ r) (acall_start tk Tryd.func29 (by decide) rfl (nb rfl) ?_)
 have hH := Holds.init σ
 refine sr rfl (ma tk AV.nils rfl rfl (wpo_nil (sr rfl (mc tk (eF 1 (@eU .u8 8) ([] : List (BitVec 8))) rfl rfl (fun _ => rfl) (mm tk ((eL 1 (@eU .u8 8)) x0) rfl rfl ?_)))))
 obtain ⟨v2, hv3, H1⟩ := ob H
 refine wpo_a (av := fun t => eT t 1 (@eU .u8 8) v2) rfl rfl rfl (h_app0 tk hH hv3 td31 ty5 rfl (by decide) (.inr rfl) (src_l td31 rfl)) fun tk4 τ hH => ?_
 refine ma tk (eT tk4 1 (@eU .u8 8) v2) rfl rfl (wpo_nil (awp_seq (sr rfl (mm tk ((eL 1 eI) x1) rfl rfl ?_))))
 refine l_ H1 eI rfl (o_len tk td93 rfl) fun v6 H5 => ?_
 refine mm tk (eI (0 : Int)) rfl rfl (wpo_nil (awp_block ?_))
 obtain ⟨s16, hs10, hj11⟩ := ob H5
 refine awp_cutx 0 (fun fr τ => ∃ tk_5, WkF fr (fm [(5, (eT tk_5 1 (@eU .u8 8) s16))]) ∧ Holds σ [] [tk_5] τ) ?_ ?_
 ·rintro fr τ ⟨tk_5, hfr, hH⟩
  have H86 := hj11
  refine AWP.fm [(5, (eT tk_5 1 (@eU .u8 8) s16))] hfr ?_
  refine sr rfl (mm tk (eT tk_5 1 (@eU .u8 8) s16) rfl rfl (ma tk (eT tk_5 1 (@eU .u8 8) s16) rfl rfl (wpo_nil (awp_ret ?_))))
  obtain rfl := oi H86
  exact ⟨_, (eT tk_5 1 (@eU .u8 8) s16), rfl, .of_eq rfl, tk_5, rfl, hH⟩
 ·refine awp_loopO (body := fun s => octets_Put_b0 x1 v6 s.1 s.2) hs10 (fun (s : (List (BitVec 8)) × Int) fr τ => ∃ tk_5, WkF fr (fm [(5, (eT tk_5 1 (@eU .u8 8) s.1)), (12, ((eL 1 eI) x1)), (13, (eI v6)), (14, (eI s.2))]) ∧ Holds σ [] [tk_5] τ) ⟨tk4, (wc (wc (wc (wc (wkf_nil _))))), hH⟩ ?_
  rintro ⟨c7, c8⟩ fr τ y12 ⟨tk_5, hfr, hH⟩ hb14 hy15
  have H17 : octets_Put_b0 x1 v6 c7 c8 = some y12 := hb14
  unfold octets_Put_b0 at H17
  refine AWP.fm [(5, (eT tk_5 1 (@eU .u8 8) c7)), (12, ((eL 1 eI) x1)), (13, (eI v6)), (14, (eI c8))] hfr ?_
  have hH : Holds σ [] [tk_5] τ := hH
  refine sr rfl ?_
  refine l_ H17 eB rfl (o_ar tk rfl rfl rfl) fun v19 H18 => ?_
  refine wpo_nil (awp_seq ?_)
  refine awp_if H18 rfl (fun H20 => ?_) (fun H20 => ?_)
  ·refine awp_skip (awp_seq (awp_block (sr rfl ?_)))
   refine b_ H20 (fun y => .fptr (eI y).cells 0) rfl (fun v22 hv => o_ixa tk hv td93 (enc_i64 td3 sz3) rfl rfl) fun v22 hv22 H21 => ?_
   refine m_ (eI v22) rfl (o_ld_e tk (enc_i64 td3 sz3) rfl rfl) (ma tk (eI v22) rfl rfl (wpo_nil (sr rfl (ma tk (eI (0 : Int)) rfl rfl (wpo_nil (awp_seq (awp_block ?_)))))))
   obtain ⟨s31, hs25, hj26⟩ := ob H21
   refine awp_cutx 2 (fun fr τ => ∃ tk_5, WkF fr (fm [(5, (eT tk_5 1 (@eU .u8 8) c7)), (7, (eI v22)), (8, (eI s31)), (12, ((eL 1 eI) x1)), (13, (eI v6)), (14, (eI c8))]) ∧ Holds σ [] [tk_5] τ) ?_ ?_
   ·rintro fr τ ⟨tk_5, hfr, hH⟩
    have H42 := hj26
    refine AWP.fm [(5, (eT tk_5 1 (@eU .u8 8) c7)), (7, (eI v22)), (8, (eI s31)), (12, ((eL 1 eI) x1)), (13, (eI v6)), (14, (eI c8))] hfr ?_
    refine awp_seq (awp_block ?_)
    obtain ⟨s52, hs46, hj47⟩ := ob H42
    refine awp_cutx 4 (fun fr τ => ∃ tk_5, WkF fr (fm [(5, (eT tk_5 1 (@eU .u8 8) s52)), (7, (eI v22)), (12, ((eL 1 eI) x1)), (13, (eI v6)), (14, (eI c8))]) ∧ Holds σ [] [tk_5] τ) ?_ ?_
    ·rintro fr τ ⟨tk_5, hfr, hH⟩
     have H73 := hj47
     refine AWP.fm [(5, (eT tk_5 1 (@eU .u8 8) s52)), (7, (eI v22)), (12, ((eL 1 eI) x1)), (13, (eI v6)), (14, (eI c8))] hfr ?_
     refine awp_region rfl (mm tk (eT tk_5 1 (@eU .u8 8) s52) rfl rfl (mm tk (eI v22) rfl rfl ?_))
     refine l_ H73 (@eU .u8 8) rfl (o_cv_iu tk td3 td5 rfl rfl) fun v75 H74 => ?_
     refine l_ H74 (@eU .u8 8) rfl (o_and_u tk rfl rfl rfl) fun v77 H76 => ?_
     refine l_ H76 (eF 1 (@eU .u8 8)) rfl (o_c tk false rfl (fun _ => rfl)) fun v79 H78 => ?_
     obtain ⟨v81, hv82, H80⟩ := ob H78
     refine wpo_a (av := fun t => eT t 1 (@eU .u8 8) v81) rfl rfl rfl (h_app tk hH 0 hv82 rfl td31 ty5 rfl (by decide) rfl (src_l td31 rfl)) fun tk83 τ hH => ?_
     refine ma tk (eT tk83 1 (@eU .u8 8) v81) rfl rfl (wpo_nil (awp_region rfl ?_))
     refine l_ H80 eI rfl (o_ar tk rfl rfl rfl) fun v85 H84 => ?_
     refine mm tk (eI v85) rfl rfl (wpo_nil ?_)
     exact ⟨(v81, v85), inj_inl H84, tk83, (wc (wc (wc (wc (wkf_nil _))))), hH⟩
    ·refine awp_loopO (body := fun s => octets_Put_b2 x1 v6 c8 v22 s.1 s.2) hs46 (fun (s : (List (BitVec 8)) × Int) fr τ => ∃ tk_5, WkF fr (fm [(5, (eT tk_5 1 (@eU .u8 8) s.1)), (7, (eI v22)), (8, (eI s.2)), (12, ((eL 1 eI) x1)), (13, (eI v6)), (14, (eI c8))]) ∧ Holds σ [] [tk_5] τ) ⟨tk_5, (wc (wc (wc (wc (wc (wc (wkf_nil _))))))), hH⟩ ?_
     rintro ⟨c43, c44⟩ fr τ y48 ⟨tk_5, hfr, hH⟩ hb50 hy51
     have H53 : octets_Put_b2 x1 v6 c8 v22 c43 c44 = some y48 := hb50
     unfold octets_Put_b2 at H53
     refine AWP.fm [(5, (eT tk_5 1 (@eU .u8 8) c43)), (7, (eI v22)), (8, (eI c44)), (12, ((eL 1 eI) x1)), (13, (eI v6)), (14, (eI c8))] hfr ?_
     have hH : Holds σ [] [tk_5] τ := hH
     refine awp_seq (sr rfl (mm tk (eI c44) rfl rfl ?_))
     refine l_ H53 eB rfl (o_ar tk rfl rfl rfl) fun v55 H54 => ?_
     refine wpo_nil ?_
     refine awp_if H54 rfl (fun H56 => ?_) (fun H56 => ?_)
     ·refine awp_skip (awp_seq (awp_block (awp_region rfl (mm tk (eT tk_5 1 (@eU .u8 8) c43) rfl rfl (mm tk (eI v22) rfl rfl (mm tk (eI c44) rfl rfl ?_))))))
      refine l_ H56 eI rfl (o_ar tk rfl rfl rfl) fun v58 H57 => ?_
      refine b_ H57 eI rfl (fun v60 hv => om_shr tk hv rfl rfl) fun v60 hv60 H59 => ?_
      refine l_ H59 (@eU .u8 8) rfl (o_cv_iu tk td3 td5 rfl rfl) fun v62 H61 => ?_
      refine l_ H61 (@eU .u8 8) rfl (o_or_u tk rfl rfl rfl) fun v64 H63 => ?_
      refine l_ H63 (eF 1 (@eU .u8 8)) rfl (o_c tk false rfl (fun _ => rfl)) fun v66 H65 => ?_
      obtain ⟨v68, hv69, H67⟩ := ob H65
      refine wpo_a (av := fun t => eT t 1 (@eU .u8 8) v68) rfl rfl rfl (h_app tk hH 0 hv69 rfl td31 ty5 rfl (by decide) rfl (src_l td31 rfl)) fun tk70 τ hH => ?_
      refine ma tk (eT tk70 1 (@eU .u8 8) v68) rfl rfl (wpo_nil (awp_region rfl (mm tk (eI c44) rfl rfl ?_)))
      refine l_ H67 eI rfl (o_ar tk rfl rfl rfl) fun v72 H71 => ?_
      refine ma tk (eI v72) rfl rfl (wpo_nil ?_)
      exact ⟨(v68, v72), inj_inl H71, tk70, (wc (wc (wc (wc (wc (wc (wkf_nil _))))))), hH⟩
     ·refine awp_exit ?_
      have hz := hy51 _ (inj_inr H56)
      subst hz
      exact ⟨⟨_, inj_inr H56⟩, tk_5, (wc (wc (wc (wc (wc (wkf_nil _)))))), hH⟩
   ·refine awp_loopO (body := fun s => octets_Put_b1 x1 v6 c7 c8 v22 s) hs25 (fun (s : Int) fr τ => ∃ tk_5, WkF fr (fm [(5, (eT tk_5 1 (@eU .u8 8) c7)), (7, (eI v22)), (8, (eI s)), (12, ((eL 1 eI) x1)), (13, (eI v6)), (14, (eI c8))]) ∧ Holds σ [] [tk_5] τ) ⟨tk_5, (wc (wc (wc (wc (wc (wc (wkf_nil _))))))), hH⟩ ?_
    rintro c23 fr τ y27 ⟨tk_5, hfr, hH⟩ hb29 hy30
    have H32 : octets_Put_b1 x1 v6 c7 c8 v22 c23 = some y27 := hb29
    unfold octets_Put_b1 at H32
    refine AWP.fm [(5, (eT tk_5 1 (@eU .u8 8) c7)), (7, (eI v22)), (8, (eI c23)), (12, ((eL 1 eI) x1)), (13, (eI v6)), (14, (eI c8))] hfr ?_
    have hH : Holds σ [] [tk_5] τ := hH
    refine awp_seq (sr rfl (mm tk (eI v22) rfl rfl (mm tk (eI c23) rfl rfl ?_)))
    refine l_ H32 eI rfl (o_ar tk rfl rfl rfl) fun v34 H33 => ?_
    refine b_ H33 eI rfl (fun v36 hv => om_shr tk hv rfl rfl) fun v36 hv36 H35 => ?_
    refine l_ H35 eB rfl (o_ar tk rfl rfl rfl) fun v38 H37 => ?_
    refine wpo_nil ?_
    refine awp_if H37 rfl (fun H39 => ?_) (fun H39 => ?_)
    ·refine awp_skip (awp_block (awp_region rfl (mm tk (eI c23) rfl rfl ?_)))
     refine l_ H39 eI rfl (o_ar tk rfl rfl rfl) fun v41 H40 => ?_
     refine ma tk (eI v41) rfl rfl (wpo_nil ?_)
     exact ⟨v41, inj_inl H40, tk_5, (wc (wc (wc (wc (wc (wc (wkf_nil _))))))), hH⟩
    ·refine awp_exit ?_
     have hz := hy30 _ (inj_inr H39)
     subst hz
     exact ⟨⟨_, inj_inr H39⟩, tk_5, (wc (wc (wc (wc (wc (wc (wkf_nil _))))))), hH⟩
  ·refine awp_exit ?_
   have hz := hy15 _ (inj_inr H20)
   subst hz
   exact ⟨⟨_, inj_inr H20⟩, tk_5, (wc (wkf_nil _)), hH⟩
theorem octets_Put_ok {x0 : List (BitVec 8)} {x1 : List Int} {r : (List (BitVec 8))} (H : octets_Put x0 x1 = some r) (σ : St) : ACall Tryd.prog 29 [((eL 1 (@eU .u8 8)) x0), ((eL 1 eI) x1)] σ (fun a τ => a = (eL 1 (@eU .u8 8)) r ∧ τ = σ) := (octets_Put_app H σ).unapp (fun ρ κ => cutL_enc (enc_u td5 sz5).cut ρ κ r)
theorem octets_Bytes_app {x0 : List (BitVec 8)} {x1 : List (BitVec 8)} {r : (List (BitVec 8))} (H : octets_Bytes x0 x1 = some r) (σ : St)  : ACall Tryd.prog 31 [((eL 1 (@eU .u8 8)) x0), ((eL 1 (@eU .u8 8)) x1)] σ (fun a τ => a = .sl (.own σ.opn.length) 1 (r.map (@eU .u8 8)) ∧ τ = σ.more) := by
 unfold octets_Bytes at H
 refine ACall.app (fun ρ κ => cutL_enc (enc_u td5 sz5).cut ρ κ r) (acall_start tk Tryd.func31 (by decide) rfl (nb rfl) ?_)
 have hH := Holds.init σ
 refine sr rfl (ma tk AV.nils rfl rfl (wpo_nil (sr rfl (mm tk ((eL 1 (@eU .u8 8)) x0) rfl rfl (mm tk ((eL 1 (@eU .u8 8)) x1) rfl rfl ?_)))))
 refine l_ H eI rfl (o_len tk td31 rfl) fun v2 H1 => ?_
 refine l_ H1 (eF 1 eI) rfl (o_c tk false rfl (fun _ => rfl)) fun v4 H3 => ?_
 refine wpo_cb H3 (fun x t => eT t 1 (@eU .u8 8) x) rfl rfl rfl (fun v6 hv => h_calla hH rfl rfl (.cons wr (.cons wk_no .nil)) (octets_Put_app hv _)) fun v6 tk7 τ hv6 H5 hH => ?_
 refine mm tk ((eL 1 (@eU .u8 8)) x1) rfl rfl ?_
 obtain ⟨v9, hv10, H8⟩ := ob H5
 refine wpo_a (av := fun t => eT t 1 (@eU .u8 8) v9) rfl rfl rfl (h_app tk hH 0 hv10 rfl td31 ty5 rfl (by decide) rfl (src_l td31 rfl)) fun tk11 τ hH => ?_
 refine ma tk (eT tk11 1 (@eU .u8 8) v9) rfl rfl (wpo_nil (awp_ret ?_))
 obtain rfl := oi H8
 exact ⟨_, (eT tk11 1 (@eU .u8 8) v9), rfl, .of_eq rfl, tk11, rfl, hH⟩
theorem octets_Bytes_ok {x0 : List (BitVec 8)} {x1 : List (BitVec 8)} {r : (List (BitVec 8))} (H : octets_Bytes x0 x1 = some r) (σ : St) : ACall Tryd.prog 31 [((eL 1 (@eU .u8 8)) x0), ((eL 1 (@eU .u8 8)) x1)] σ (fun a τ => a = (eL 1 (@eU .u8 8)) r ∧ τ = σ) := (octets_Bytes_app H σ).unapp (fun ρ κ => cutL_enc (enc_u td5 sz5).cut ρ κ r)
theorem checksum_Seal_app {x0 : List (BitVec 8)} {r : (List (BitVec 8))} (H : checksum_Seal x0 = some r) (σ : St)  : ACall Tryd.prog 32 [((eL 1 (@eU .u8 8)) x0)] σ (fun a τ => a = .sl (.own σ.opn.length) 1 (r.map (@eU .u8 8)) ∧ τ = σ.more) := by
 unfold checksum_Seal at H
 refine ACall.app (fun ρ κ => cutL_enc (enc_u td5 sz5).cut ρ κ r) (acall_start tk Tryd.func32 (by decide) rfl (nb rfl) ?_)
 have hH := Holds.init σ
 refine sr rfl (ma tk AV.nils rfl rfl (wpo_nil (sr rfl (mm tk ((eL 1 (@eU .u8 8)) x0) rfl rfl ?_))))
 refine b_ H (@eU .u32 32) rfl (fun v2 hv => OpP.of_call rfl rfl (.cons wr .nil) (checksum_Sum_ok hv)) fun v2 hv2 H1 => ?_
 refine b_ H1 (eA (@eU .u8 8)) rfl (fun v4 hv => OpP.of_call rfl rfl (.cons wr .nil) (checksum_Four_ok hv)) fun v4 hv4 H3 => ?_
 refine wpo_a (av := fun id => .ref id 0) rfl rfl rfl (h_alloc tk hH ty94 (cL (@eU .u8 8) (List.replicate 4 0#8)) rfl) fun id5 τ ⟨hH, n6⟩ => ?_
 obtain ⟨c8, hc9, H7⟩ := ob H3
 refine wpo_z rfl rfl (h_stw tk hH 0 hc9 rfl (enc_u td5 sz5) ty94 rfl (by simp) rfl rfl) fun τ hH => ?_
 refine wpo_nil (awp_seq ?_)
 refine awp_drawS mixed [2, 4] rfl (by decide +kernel) rfl rfl ?_
 refine wpdS_mv (a := (eF 1 (@eU .u8 8) ([] : List (BitVec 8)))) rfl rfl rfl (o_c tk false rfl (fun _ => rfl)) (wpdS_mv (a := ((eL 1 (@eU .u8 8)) x0)) rfl rfl rfl (o_mv tk rfl (Wk.refl _)) ?_)
 obtain ⟨v11, hv12, H10⟩ := ob H7
 refine wpdS_a (av := fun t => eT t 1 (@eU .u8 8) v11) rfl rfl rfl (h_app0 tk hH hv12 td31 ty5 rfl (by decide) (.inr rfl) (src_l td31 rfl)) fun tk13 τ hH => ?_
 refine wpdS_mv (a := (.msl id5 0 4)) rfl rfl rfl (o_c tk false rfl (fun _ => rfl)) ?_
 obtain ⟨v15, hv16, H14⟩ := ob H10
 obtain ⟨whv16, hwhv16, hv16b⟩ := ob hv16
 obtain ⟨hxhv16, rfl⟩ := whole_some hwhv16
 refine wpdS_a (av := fun t => eT t 1 (@eU .u8 8) v15) rfl rfl rfl (h_app tk hH 0 hv16b rfl td31 ty5 rfl (by decide) rfl (src_arr hH 0 rfl (enc_u td5 sz5) rfl td31 hxhv16 rfl)) fun tk17 τ hH => ?_
 refine wpdS_mv (a := (eT tk17 1 (@eU .u8 8) v15)) rfl rfl rfl (o_as tk rfl (Wk.refl _)) (wpdS_nil (awp_ret ?_))
 obtain rfl := oi H14
 exact ⟨_, (eT tk17 1 (@eU .u8 8) v15), rfl, .of_eq rfl, tk17, rfl, (hH.drop n6)⟩
theorem checksum_Seal_ok {x0 : List (BitVec 8)} {r : (List (BitVec 8))} (H : checksum_Seal x0 = some r) (σ : St) : ACall Tryd.prog 32 [((eL 1 (@eU .u8 8)) x0)] σ (fun a τ => a = (eL 1 (@eU .u8 8)) r ∧ τ = σ) := (checksum_Seal_app H σ).unapp (fun ρ κ => cutL_enc (enc_u td5 sz5).cut ρ κ r)
theorem wire_Put_ok {x0 : api_Msg} {r : (List (BitVec 8)) × Err} (H : wire_Put x0 = some r) (σ : St)  : ACall Tryd.prog 18 [(e_api_Msg x0)] σ (fun a τ => a = .tup [(eL 1 (@eU .u8 8)) r.1, eErr r.2] ∧ τ = σ) := by
 unfold wire_Put at H
 refine ACall.pure (acall_start tk Tryd.func18 (by decide) rfl (nb rfl) ?_)
 have hH := Holds.init σ
 refine sr rfl (m_ (.fptr (c_api_Msg x0) 0) rfl (o_boxf tk rfl wr (b := (e_api_Msg x0)) (enc35.flat _)) (ma tk AV.nils rfl rfl (ma tk (eErr Err.nil) rfl rfl (wpo_nil (awp_seq (sr rfl (m_ (e_api_Msg x0) rfl (o_ld tk rfl rfl) ?_)))))))
 refine b_ H eErr rfl (fun v2 hv => OpP.of_call rfl rfl (.cons wr .nil) (wire_Check_ok hv)) fun v2 hv2 H1 => ?_
 refine ma tk (eErr v2) rfl rfl (wpo_nil (sr rfl (mm tk (eErr v2) rfl rfl ?_)))
 refine l_ H1 eB rfl (o_err_neq tk rfl rfl rfl) fun v4 H3 => ?_
 refine wpo_nil ?_
 refine awp_if H3 rfl (fun H5 => ?_) (fun H5 => ?_)
 ·refine sr rfl (mc tk (.fptr (c_api_Msg x0) 0) rfl rfl (fun _ => rfl) (m_ (eI x0.Kind) rfl (o_ld tk rfl rfl) (mm tk (eErr v2) rfl rfl ?_)))
  refine b_ H5 eErr rfl (fun v7 hv => OpP.of_call rfl rfl (.cons wr (.cons wr (.cons wr .nil))) (trouble_Wrap_ok hv)) fun v7 hv7 H6 => ?_
  refine ma tk AV.nils rfl rfl (ma tk (eErr v7) rfl rfl (wpo_nil (awp_ret ?_)))
  obtain rfl := oi H6
  exact ⟨_, (.tup [((eL 1 (@eU .u8 8)) []), (eErr v7)]), rfl, (wk_tup (.cons (wk_nils _) (.cons wr .nil))), .of_eq (by simp only [cutAV, cutL, (enc_l td31 sz31 (enc_u td5 sz5).cut).cut _ _ _, encErr.cut _ _ _]), hH.noT⟩
 ·refine awp_skip (sr rfl (mc tk (.fptr (c_api_Msg x0) 0) rfl rfl (fun _ => rfl) (m_ (eI x0.Kind) rfl (o_ld tk rfl rfl) (mc tk (.fptr (c_api_Msg x0) 1) rfl rfl (fun _ => rfl) (m_ (eI x0.From) rfl (o_ld tk rfl rfl) (mc tk (.fptr (c_api_Msg x0) 2) rfl rfl (fun _ => rfl) (m_ (eI x0.To) rfl (o_ld tk rfl rfl) (mc tk (.fptr (c_api_Msg x0) 3) rfl rfl (fun _ => rfl) ?_))))))))
  refine m_ (eI x0.Epoch) rfl (o_ld tk rfl rfl) ?_
  refine l_ H5 (eF 1 eI) rfl (o_c tk false rfl (fun _ => rfl)) fun v9 H8 => ?_
  refine b_ H8 (eL 1 (@eU .u8 8)) rfl (fun v11 hv => OpP.of_call rfl rfl (.cons (wk_nils _) (.cons wk_no .nil)) (octets_Put_ok hv)) fun v11 hv11 H10 => ?_
  refine ma tk ((eL 1 (@eU .u8 8)) v11) rfl rfl (wpo_nil (awp_seq (sr rfl (mc tk (.fptr (c_api_Msg x0) 0) rfl rfl (fun _ => rfl) (m_ (eI x0.Kind) rfl (o_ld tk rfl rfl) ?_)))))
  refine b_ H10 eS rfl (fun v13 hv => OpP.of_call rfl rfl (.cons wr .nil) (wire_parts_ok hv)) fun v13 hv13 H12 => ?_
  refine wpo_a (av := fun id => .spc id) rfl rfl rfl (h_range tk hH td9 rfl) fun id14 τ ⟨hH, n15⟩ => ?_
  refine wpo_nil (awp_block ?_)
  obtain ⟨s25, hs19, hj20⟩ := ob H12
  refine awp_cutx 0 (fun fr τ => WkF fr (fm [(5, ((eL 1 (@eU .u8 8)) s25.1))]) ∧ Holds σ [(id14, (cIt s25.2))] [] τ) ?_ ?_
  ·rintro fr τ ⟨hfr, hH⟩
   have H75 := hj20
   refine AWP.fm [(5, ((eL 1 (@eU .u8 8)) s25.1))] hfr ?_
   refine sr rfl (mm tk ((eL 1 (@eU .u8 8)) s25.1) rfl rfl ?_)
   refine b_ H75 (eL 1 (@eU .u8 8)) rfl (fun v77 hv => OpP.of_call rfl rfl (.cons wr .nil) (checksum_Seal_ok hv)) fun v77 hv77 H76 => ?_
   refine ma tk ((eL 1 (@eU .u8 8)) v77) rfl rfl (ma tk (eErr Err.nil) rfl rfl (wpo_nil (awp_ret ?_)))
   obtain rfl := oi H76
   exact ⟨_, (.tup [((eL 1 (@eU .u8 8)) v77), (eErr Err.nil)]), rfl, (wk_tup (.cons wr (.cons wr .nil))), .of_eq (by simp only [cutAV, cutL, (enc_l td31 sz31 (enc_u td5 sz5).cut).cut _ _ _, encErr.cut _ _ _]), (hH.noT.drop n15)⟩
  ·refine awp_loopO (body := fun s => wire_Put_b0 x0 s.1 s.2) hs19 (fun (s : (List (BitVec 8)) × (List (BitVec 8) × Nat)) fr τ => WkF fr (fm [(1, (.fptr (c_api_Msg x0) 0)), (5, ((eL 1 (@eU .u8 8)) s.1)), (30, (.spc id14))]) ∧ Holds σ [(id14, (cIt s.2))] [] τ) ⟨(wc (wc (wc (wkf_nil _)))), hH⟩ ?_
   rintro ⟨c16, c17⟩ fr τ y21 ⟨hfr, hH⟩ hb23 hy24
   have H26 : wire_Put_b0 x0 c16 c17 = some y21 := hb23
   unfold wire_Put_b0 at H26
   refine AWP.fm [(1, (.fptr (c_api_Msg x0) 0)), (5, ((eL 1 (@eU .u8 8)) c16)), (30, (.spc id14))] hfr ?_
   have hH : Holds σ [(id14, (cIt c17))] [] τ := hH
   refine sr rfl ?_
   obtain ⟨v28, hv29, H27⟩ := ob H26
   rcases v28 with _ | c30
   ·rw [Option.elim_none] at H27
    refine wpo_a (av := fun _ => .tup [eB false]) rfl rfl rfl (h_next0 hH 0 hv29 rfl rfl) fun _ τ hH => ?_
    refine m_ (eB false) rfl (o_ext tk rfl rfl) (wpo_nil (awp_seq ?_))
    refine awp_false rfl ?_
    refine awp_exit ?_
    have hz := hy24 _ (inj_inr H27)
    subst hz
    exact ⟨⟨_, inj_inr H27⟩, (wc (wkf_nil _)), hH⟩
   ·rw [Option.elim_some] at H27
    refine wpo_a (av := fun _ => .tup [eB true, eI (c17.2 : Int), eK .i32 c30]) rfl rfl rfl (h_next1 hH 0 hv29 rfl rfl) fun _ τ (hH : Holds σ [(id14, (cIt (c17.1, c17.2 + 1)))] [] τ) => ?_
    refine m_ (eB true) rfl (o_ext tk rfl rfl) (wpo_nil (awp_seq ?_))
    refine awp_true rfl ?_
    refine awp_skip (awp_block (sr rfl (m_ ((eK .i32) c30) rfl (o_ext tk rfl rfl) (ma tk ((eK .i32) c30) rfl rfl (wpo_nil (sr rfl (mm tk ((eK .i32) c30) rfl rfl (wpo_nil ?_))))))))
    refine awp_block (sr rfl ?_)
    refine l_ H27 eB rfl (o_ar tk rfl rfl rfl) fun v32 H31 => ?_
    refine ma tk (eB v32) rfl rfl (wpo_nil ?_)
    refine awp_if H31 rfl (fun H33 => ?_) (fun H33 => ?_)
    ·refine awp_region rfl (mm tk ((eL 1 (@eU .u8 8)) c16) rfl rfl (mc tk (.fptr (c_api_Msg x0) 4) rfl rfl (fun _ => rfl) (m_ (eI x0.Id) rfl (o_ld tk rfl rfl) ?_)))
     refine l_ H33 (eF 1 eI) rfl (o_c tk false rfl (fun _ => rfl)) fun v35 H34 => ?_
     refine b_ H34 (eL 1 (@eU .u8 8)) rfl (fun v37 hv => OpP.of_call rfl rfl (.cons wr (.cons wk_no .nil)) (octets_Put_ok hv)) fun v37 hv37 H36 => ?_
     refine ma tk ((eL 1 (@eU .u8 8)) v37) rfl rfl (wpo_nil ?_)
     exact ⟨(v37, (c17.1, c17.2 + 1)), inj_inl H36, (wc (wc (wc (wkf_nil _)))), hH⟩
    ·refine sr rfl ?_
     refine l_ H33 eB rfl (o_ar tk rfl rfl rfl) fun v39 H38 => ?_
     refine ma tk (eB v39) rfl rfl (wpo_nil ?_)
     refine awp_if H38 rfl (fun H40 => ?_) (fun H40 => ?_)
     ·refine awp_region rfl (mm tk ((eL 1 (@eU .u8 8)) c16) rfl rfl (mc tk (.fptr (c_api_Msg x0) 5) rfl rfl (fun _ => rfl) (mc tk (.fptr (c_api_Msg x0) 5) rfl rfl (fun _ => rfl) (m_ (eS x0.X.Key) rfl (o_ld tk rfl rfl) ?_))))
      refine b_ H40 (eL 1 (@eU .u8 8)) rfl (fun v42 hv => o_s2b tk hv td9 td31 td5 rfl) fun v42 hv42 H41 => ?_
      refine b_ H41 (eL 1 (@eU .u8 8)) rfl (fun v44 hv => OpP.of_call rfl rfl (.cons wr (.cons wr .nil)) (octets_Bytes_ok hv)) fun v44 hv44 H43 => ?_
      refine ma tk ((eL 1 (@eU .u8 8)) v44) rfl rfl (wpo_nil ?_)
      exact ⟨(v44, (c17.1, c17.2 + 1)), inj_inl H43, (wc (wc (wc (wkf_nil _)))), hH⟩
     ·refine sr rfl ?_
      refine l_ H40 eB rfl (o_ar tk rfl rfl rfl) fun v46 H45 => ?_
      refine ma tk (eB v46) rfl rfl (wpo_nil ?_)
      refine awp_if H45 rfl (fun H47 => ?_) (fun H47 => ?_)
      ·refine awp_region rfl (mm tk ((eL 1 (@eU .u8 8)) c16) rfl rfl (mc tk (.fptr (c_api_Msg x0) 5) rfl rfl (fun _ => rfl) (mc tk (.fptr (c_api_Msg x0) 7) rfl rfl (fun _ => rfl) (m_ (eI x0.X.AsOf) rfl (o_ld tk rfl rfl) ?_))))
       refine l_ H47 (eF 1 eI) rfl (o_c tk false rfl (fun _ => rfl)) fun v49 H48 => ?_
       refine b_ H48 (eL 1 (@eU .u8 8)) rfl (fun v51 hv => OpP.of_call rfl rfl (.cons wr (.cons wk_no .nil)) (octets_Put_ok hv)) fun v51 hv51 H50 => ?_
       refine ma tk ((eL 1 (@eU .u8 8)) v51) rfl rfl (wpo_nil ?_)
       exact ⟨(v51, (c17.1, c17.2 + 1)), inj_inl H50, (wc (wc (wc (wkf_nil _)))), hH⟩
      ·refine sr rfl ?_
       refine l_ H47 eB rfl (o_ar tk rfl rfl rfl) fun v53 H52 => ?_
       refine ma tk (eB v53) rfl rfl (wpo_nil ?_)
       refine awp_if H52 rfl (fun H54 => ?_) (fun H54 => ?_)
       ·refine sr rfl (ma tk (eI (0 : Int)) rfl rfl (wpo_nil (awp_seq (sr rfl (mc tk (.fptr (c_api_Msg x0) 10) rfl rfl (fun _ => rfl) (m_ (eB x0.Found) rfl (o_ld tk rfl rfl) (wpo_nil ?_)))))))
        obtain ⟨s55, hs57, hj58⟩ := ob H54
        refine awp_cutn (fun fr τ => WkF fr (fm [(1, (.fptr (c_api_Msg x0) 0)), (5, ((eL 1 (@eU .u8 8)) c16)), (8, (eI s55)), (30, (.spc id14))]) ∧ Holds σ [(id14, (cIt (c17.1, c17.2 + 1)))] [] τ) ?_ ?_
        ·rintro fr τ ⟨hfr, hH⟩
         have H60 := hj58
         refine AWP.fm [(1, (.fptr (c_api_Msg x0) 0)), (5, ((eL 1 (@eU .u8 8)) c16)), (8, (eI s55)), (30, (.spc id14))] hfr ?_
         refine awp_region rfl (mm tk ((eL 1 (@eU .u8 8)) c16) rfl rfl (mm tk (eI s55) rfl rfl ?_))
         refine l_ H60 (eF 1 eI) rfl (o_c tk false rfl (fun _ => rfl)) fun v62 H61 => ?_
         refine b_ H61 (eL 1 (@eU .u8 8)) rfl (fun v64 hv => OpP.of_call rfl rfl (.cons wr (.cons wk_no .nil)) (octets_Put_ok hv)) fun v64 hv64 H63 => ?_
         refine ma tk ((eL 1 (@eU .u8 8)) v64) rfl rfl (wpo_nil ?_)
         exact ⟨(v64, (c17.1, c17.2 + 1)), inj_inl H63, (wc (wc (wc (wkf_nil _)))), hH⟩
        ·refine awp_if hs57 rfl (fun H59 => ?_) (fun H59 => ?_)
         ·refine awp_region rfl (ma tk (eI (1 : Int)) rfl rfl (wpo_nil ?_))
          have e := oi H59
          subst e
          exact ⟨(wc (wc (wc (wc (wkf_nil _))))), hH⟩
         ·refine awp_skip ?_
          have e := oi H59
          subst e
          exact ⟨(wc (wc (wc (wc (wkf_nil _))))), hH⟩
       ·refine sr rfl ?_
        refine l_ H54 eB rfl (o_ar tk rfl rfl rfl) fun v66 H65 => ?_
        refine ma tk (eB v66) rfl rfl (wpo_nil ?_)
        refine awp_if H65 rfl (fun H67 => ?_) (fun H67 => ?_)
        ·refine sr rfl (mc tk (.fptr (c_api_Msg x0) 10) rfl rfl (fun _ => rfl) (m_ (eB x0.Found) rfl (o_ld tk rfl rfl) (wpo_nil ?_)))
         refine awp_if H67 rfl (fun H68 => ?_) (fun H68 => ?_)
         ·refine awp_drawS mixed [] rfl (by decide +kernel) rfl rfl ?_
          refine wpdS_mv (a := ((eL 1 (@eU .u8 8)) c16)) rfl rfl rfl (o_mv tk rfl (Wk.refl _)) (wpdS_mv (a := (.fptr (c_api_Msg x0) 5)) rfl rfl rfl (o_c tk false rfl (fun _ => rfl)) (wpdS_mv (a := (.fptr (c_api_Msg x0) 6)) rfl rfl rfl (o_c tk false rfl (fun _ => rfl)) (wpdS_mv (a := (eI x0.X.Version)) rfl rfl rfl (o_ld tk rfl rfl) (wpdS_mv (a := (.fptr (c_api_Msg x0) 5)) rfl rfl rfl (o_c tk false rfl (fun _ => rfl)) (wpdS_mv (a := (.fptr (c_api_Msg x0) 8)) rfl rfl rfl (o_c tk false rfl (fun _ => rfl)) (wpdS_mv (a := (eI x0.X.Ends)) rfl rfl rfl (o_ld tk rfl rfl) ?_))))))
          refine wpdS_lt H68 (eF 1 eI) rfl rfl rfl (o_c tk false rfl (fun _ => rfl)) fun v70 H69 => ?_
          refine wpdS_bd H69 (eL 1 (@eU .u8 8)) rfl rfl rfl (fun v72 hv => OpP.of_call rfl rfl (.cons wr (.cons wk_no .nil)) (octets_Put_ok hv)) fun v72 hv72 H71 => ?_
          refine wpdS_mv (a := (.fptr (c_api_Msg x0) 5)) rfl rfl rfl (o_c tk false rfl (fun _ => rfl)) (wpdS_mv (a := (.fptr (c_api_Msg x0) 9)) rfl rfl rfl (o_c tk false rfl (fun _ => rfl)) (wpdS_mv (a := ((eL 1 (@eU .u8 8)) x0.X.Value)) rfl rfl rfl (o_ld tk rfl rfl) ?_))
          refine wpdS_bd H71 (eL 1 (@eU .u8 8)) rfl rfl rfl (fun v74 hv => OpP.of_call rfl rfl (.cons wr (.cons wr .nil)) (octets_Bytes_ok hv)) fun v74 hv74 H73 => ?_
          refine wpdS_mv (a := ((eL 1 (@eU .u8 8)) v74)) rfl rfl rfl (o_as tk rfl (Wk.refl _)) (wpdS_nil ?_)
          exact ⟨(v74, (c17.1, c17.2 + 1)), inj_inl H73, (wc (wc (wc (wkf_nil _)))), hH⟩
         ·refine awp_skip ?_
          exact ⟨(c16, (c17.1, c17.2 + 1)), inj_inl H68, (wc (wc (wc (wkf_nil _)))), hH⟩
        ·refine awp_skip ?_
         exact ⟨(c16, (c17.1, c17.2 + 1)), inj_inl H67, (wc (wc (wc (wkf_nil _)))), hH⟩
theorem lines_Lines_Send_ok {x0 : lines_Lines} {x1 : List api_Msg} {r : lines_Lines} (H : lines_Lines_Send x0 x1 = some r) (σ : St) {p0 p0_l c_p0_l : Nat} {g_p0_l : AV} (h0 : σ.objs[p0]? = some [g_p0_l, (eI x0.lost)]) (h0_l : σ.objs[p0_l]? = some (gK e_lines_parcel c_p0_l x0.l)) (hd : [p0, p0_l].Pairwise fun a b => a ≠ b) (gg_p0_l : GG p0_l 2 c_p0_l (x0.l).length g_p0_l) : ACall Tryd.prog 7 [(.ref p0 0), ((eL 11 e_api_Msg) x1)] σ (fun a τ => a = .tup [] ∧ τ = σ.grow [(p0, [(gC (σ.objs.length + 0) 2 c_p0_l (r.l).length), (eI r.lost)]), (p0_l, [])] [(gK e_lines_parcel c_p0_l r.l)] [] 0) := by
 unfold lines_Lines_Send at H
 refine ACall.outV (B := (fun f => [(p0, [(gC (f 0) 2 c_p0_l (r.l).length), (eI r.lost)]), (p0_l, [])])) (L := [(gK e_lines_parcel c_p0_l r.l)]) (fun ρ κ => rfl) (by simp only [List.mem_cons, List.not_mem_nil, or_false]; rintro _ (rfl) ρ κ <;> exact gK_cut (by first | exact enc55.cut) _ _ ρ κ) (by intro f; simp only [List.mem_cons, List.not_mem_nil, or_false]; rintro _ (rfl | rfl) <;> exact (List.getElem?_eq_some_iff.1 (by assumption)).1) (fun ρ κ f f1 h1 h3 => (.cons rfl (.cons (cut_gC (h1 0 (by simp))) (.cons (.of_eq ((enc_i64 td3 sz3).cut ρ κ _)) .nil)) (.cons rfl .nil .nil))) (acall_start tk Tryd.func7 (by decide) rfl (nb rfl) ?_)
 have hH := Holds.brings (σ := σ) [(p0, [g_p0_l, (eI x0.lost)]), (p0_l, (gK e_lines_parcel c_p0_l x0.l))] (by simp only [List.mem_cons, List.not_mem_nil, or_false]; rintro _ (rfl | rfl) <;> assumption) hd
 refine AWP.wko hH 0 rfl (c1 := [(gC p0_l 2 c_p0_l (x0.l).length), (eI x0.lost)]) (.cons gg_p0_l.wk (.cons wr .nil)) fun τ (hH : Holds σ [(p0, [(gC p0_l 2 c_p0_l (x0.l).length), (eI x0.lost)]), (p0_l, (gK e_lines_parcel c_p0_l x0.l))] [] τ) => ?_
 refine AWP.renF (g := fun i => gC i 2 c_p0_l (x0.l).length) hH 0 1 0 rfl rfl (by decide) rfl ren_gC fun id1 τ (hH : Holds σ [(id1, (gK e_lines_parcel c_p0_l x0.l)), (p0, [(gC id1 2 c_p0_l (x0.l).length), (eI x0.lost)]), (p0_l, (cL e_lines_parcel ([] : List lines_parcel)))] [] τ) n2 => ?_
 refine sr rfl (mm tk ((eL 11 e_api_Msg) x1) rfl rfl ?_)
 refine l_ H eI rfl (o_len tk td27 rfl) fun v4 H3 => ?_
 refine mm tk (eI (0 : Int)) rfl rfl (wpo_nil (awp_block ?_))
 obtain ⟨s15, hs9, hj10⟩ := ob H3
 refine awp_cutx 0 (fun fr τ => ∃ id_p0_l, σ.objs.length ≤ id_p0_l ∧ WkF fr (fm []) ∧ Holds σ [(id_p0_l, (gK e_lines_parcel c_p0_l s15.1)), (p0, [(gC id_p0_l 2 c_p0_l (s15.1).length), (eI s15.2.lost)]), (p0_l, (cL e_lines_parcel ([] : List lines_parcel)))] [] τ) ?_ ?_
 ·rintro fr τ ⟨id_p0_l, n_p0_l, hfr, hH⟩
  have H57 := hj10
  obtain rfl := oi H57
  have hH : Holds σ [(id_p0_l, (gK e_lines_parcel c_p0_l s15.1)), (p0, [(gC id_p0_l 2 c_p0_l (s15.1).length), (eI s15.2.lost)]), (p0_l, (cL e_lines_parcel ([] : List lines_parcel)))] [] _ := hH
  have hF : Holds σ [(id_p0_l, (gK e_lines_parcel c_p0_l s15.1)), (p0, [(gC id_p0_l 2 c_p0_l (s15.1).length), (eI s15.2.lost)]), (p0_l, (cL e_lines_parcel ([] : List lines_parcel)))] [] _ := hH.pick (by simp only [List.mem_cons, List.not_mem_nil, or_false]; rintro _ (rfl | rfl | rfl) <;> simp) (pw_zip (hH.pw [0, 1, 2] rfl (by decide))) (by simp only [List.mem_cons, List.not_mem_nil, or_false]; rintro _ (rfl | rfl | rfl) <;> first | exact .inl (by assumption) | exact .inr (by simp)) (fun t h => by cases h) .nil
  exact ⟨_, (.tup []), rfl, wr, rfl, fun i => [id_p0_l].getD i 0, by intro i hi; match i, hi with | 0, _ => exact n_p0_l | k + 1, hi => exact absurd hi (by simp), hF⟩
 ·refine awp_loopO (body := fun s => lines_Lines_Send_b0 x1 v4 s.1 s.2.1 s.2.2) hs9 (fun (s : Int × (List lines_parcel) × lines_Lines) fr τ => ∃ id_p0_l, σ.objs.length ≤ id_p0_l ∧ WkF fr (fm [(0, (.ref p0 0)), (8, ((eL 11 e_api_Msg) x1)), (9, (eI v4)), (10, (eI s.1))]) ∧ Holds σ [(id_p0_l, (gK e_lines_parcel c_p0_l s.2.1)), (p0, [(gC id_p0_l 2 c_p0_l (s.2.1).length), (eI s.2.2.lost)]), (p0_l, (cL e_lines_parcel ([] : List lines_parcel)))] [] τ) ⟨id1, n2, (wc (wc (wc (wc (wkf_nil _))))), hH⟩ ?_
  rintro ⟨c5, c6, c7⟩ fr τ y11 ⟨id_p0_l, n_p0_l, hfr, hH⟩ hb13 hy14
  have H16 : lines_Lines_Send_b0 x1 v4 c5 c6 c7 = some y11 := hb13
  unfold lines_Lines_Send_b0 at H16
  refine AWP.fm [(0, (.ref p0 0)), (8, ((eL 11 e_api_Msg) x1)), (9, (eI v4)), (10, (eI c5))] hfr ?_
  have hH : Holds σ [(id_p0_l, (gK e_lines_parcel c_p0_l c6)), (p0, [(gC id_p0_l 2 c_p0_l (c6).length), (eI c7.lost)]), (p0_l, (cL e_lines_parcel ([] : List lines_parcel)))] [] τ := hH
  refine sr rfl ?_
  refine l_ H16 eB rfl (o_ar tk rfl rfl rfl) fun v18 H17 => ?_
  refine wpo_nil (awp_seq ?_)
  refine awp_if H17 rfl (fun H19 => ?_) (fun H19 => ?_)
  ·refine awp_skip (awp_seq (awp_block (sr rfl ?_)))
   refine b_ H19 (fun y => .fptr (e_api_Msg y).cells 0) rfl (fun v21 hv => o_ixa tk hv td27 enc35 rfl rfl) fun v21 hv21 H20 => ?_
   refine m_ (e_api_Msg v21) rfl (o_ld_e tk enc35 rfl rfl) ?_
   refine wpo_a (av := fun id => .ref id 0) rfl rfl rfl (h_allocw tk hH ty35 (c_api_Msg z_api_Msg) (.cons wr (.cons wr (.cons wr (.cons wr (.cons wr (.cons wr (.cons wr (.cons wr (.cons wr (.cons (by exact wk_nils _) (.cons wr .nil)))))))))))) fun id22 τ ⟨hH, n23⟩ => ?_
   obtain ⟨c25, hc26, H24⟩ := lt_ex H20
   refine wpo_z rfl rfl (h_st tk hH 0 rfl ty35 (by simp) rfl rfl wr (b := (e_api_Msg v21)) (enc35.flat _) rfl (nb rfl) (c_api_Msg c25) (by rw [← hc26]; rfl)) fun τ hH => ?_
   refine wpo_nil (sr rfl (wpo_rd (a := (e_api_Msg c25)) rfl rfl rfl (h_ld tk hH 0 rfl rfl rfl) ?_))
   refine b_ H24 (fun r => .tup [(eL 1 (@eU .u8 8)) r.1, eErr r.2]) rfl (fun v28 hv => OpP.of_call rfl rfl (.cons wr .nil) (wire_Put_ok hv)) fun v28 hv28 H27 => ?_
   refine mm tk (.tup [((eL 1 (@eU .u8 8)) v28.1), (eErr v28.2)]) rfl rfl (m_ ((eL 1 (@eU .u8 8)) v28.1) rfl (o_ext tk rfl rfl) (m_ (eErr v28.2) rfl (o_ext tk rfl rfl) (ma tk ((eL 1 (@eU .u8 8)) v28.1) rfl rfl (ma tk (eErr v28.2) rfl rfl (wpo_nil (awp_seq (awp_seq ?_)))))))
   obtain ⟨s29, hs31, hj32⟩ := ob H27
   refine awp_cutn (fun fr τ => WkF fr (fm [(0, (.ref p0 0)), (6, ((eL 1 (@eU .u8 8)) v28.1)), (8, ((eL 11 e_api_Msg) x1)), (9, (eI v4)), (10, (eI c5)), (28, (eB s29))]) ∧ Holds σ [(id22, (c_api_Msg c25)), (id_p0_l, (gK e_lines_parcel c_p0_l c6)), (p0, [(gC id_p0_l 2 c_p0_l (c6).length), (eI c7.lost)]), (p0_l, (cL e_lines_parcel ([] : List lines_parcel)))] [] τ) ?_ ?_
   ·rintro fr τ ⟨hfr, hH⟩
    have H40 := hj32
    refine AWP.fm [(0, (.ref p0 0)), (6, ((eL 1 (@eU .u8 8)) v28.1)), (8, ((eL 11 e_api_Msg) x1)), (9, (eI v4)), (10, (eI c5)), (28, (eB s29))] hfr ?_
    refine awp_if H40 rfl (fun H41 => ?_) (fun H41 => ?_)
    ·refine sr rfl (mm tk (.ref p0 0) rfl rfl (mc tk (.ref p0 0) rfl rfl (fun _ => rfl) (mc tk (.ref p0 1) rfl rfl (fun _ => rfl) (wpo_rd (a := (eI c7.lost)) rfl rfl rfl (h_ld tk hH 2 rfl rfl rfl) ?_))))
     refine l_ H41 eI rfl (o_ar tk rfl rfl rfl) fun v43 H42 => ?_
     refine mc tk (.ref p0 0) rfl rfl (fun _ => rfl) (mc tk (.ref p0 1) rfl rfl (fun _ => rfl) ?_)
     refine wpo_z rfl rfl (h_st tk hH 2 rfl ty3 (by simp) rfl rfl wr (b := (eI v43)) rfl rfl (nb rfl) [(gC id_p0_l 2 c_p0_l (c6).length), (eI ({ c7 with lost := v43 } : lines_Lines).lost)] rfl) fun τ hH => ?_
     refine wpo_nil (awp_exit (awp_region rfl ?_))
     refine l_ H42 eI rfl (o_ar tk rfl rfl rfl) fun v46 H45 => ?_
     refine mm tk (eI v46) rfl rfl (wpo_nil ?_)
     exact ⟨(v46, c6, ({ c7 with lost := v43 } : lines_Lines)), inj_inl H45, id_p0_l, n_p0_l, (wc (wc (wc (wc (wkf_nil _))))), (hH.drop n23)⟩
    ·refine awp_skip (awp_region rfl (mm tk (.ref p0 0) rfl rfl (mm tk (.ref p0 0) rfl rfl (mc tk (.ref p0 0) rfl rfl (fun _ => rfl) (mc tk (.ref p0 0) rfl rfl (fun _ => rfl) (wpo_rd (a := (gC id_p0_l 2 c_p0_l (c6).length)) rfl rfl rfl (h_ld tk hH 2 rfl rfl rfl) (mm tk ((eL 1 (@eU .u8 8)) v28.1) rfl rfl ?_)))))))
     refine l_ H41 e_lines_parcel rfl (o_c tk false rfl (fun _ => rfl)) fun v48 H47 => ?_
     refine mc tk (eF 2 e_lines_parcel ([v48] : List lines_parcel)) rfl rfl (fun _ => rfl) ?_
     obtain ⟨v50, hv51, H49⟩ := ob H47
     refine wpo_a (av := fun b => gC b 2 c_p0_l (v50).length) rfl rfl rfl (h_appG tk hH 1 hv51 rfl rfl n_p0_l enc55 td49 ty55 rfl (by decide) rfl rfl (srv_l enc55 td49 rfl)) fun id52 τ ⟨hH, n53⟩ => ?_
     refine mc tk (.ref p0 0) rfl rfl (fun _ => rfl) (mc tk (.ref p0 0) rfl rfl (fun _ => rfl) ?_)
     refine wpo_z rfl rfl (h_st (y := (gC id52 2 c_p0_l (v50).length)) tk hH 2 rfl ty49 (by simp) rfl rfl wr (b := (gC id52 2 c_p0_l (v50).length)) (gC_flat _ _ _ _) (gC_one _ _ _ _) (nb rfl) [(gC id52 2 c_p0_l (v50).length), (eI ({ c7 with l := v50 } : lines_Lines).lost)] (by rw [gC_cells]; rfl)) fun τ hH => ?_
     refine wpo_nil (awp_region rfl ?_)
     refine l_ H49 eI rfl (o_ar tk rfl rfl rfl) fun v56 H55 => ?_
     refine mm tk (eI v56) rfl rfl (wpo_nil ?_)
     exact ⟨(v56, v50, ({ c7 with l := v50 } : lines_Lines)), inj_inl H55, id52, n53, (wc (wc (wc (wc (wkf_nil _))))), (hH.drop n23)⟩
   ·refine awp_region rfl (mm tk (eErr v28.2) rfl rfl ?_)
    refine l_ hs31 eB rfl (o_err_neq tk rfl rfl rfl) fun v34 H33 => ?_
    refine mm tk (eB v34) rfl rfl ?_
    refine if_split H33 (fun hb H35 => ?_) (fun hb H35 => ?_)
    ·subst hb
     refine k_ rfl (k_ rfl (k_ rfl (k_ rfl (k_ rfl (k_ rfl (pt tk (eB true) rfl rfl rfl (wpo_nil ?_)))))))
     have e := oi H35
     subst e
     exact ⟨(wc (wc (wc (wc (wc (wc (wkf_nil _))))))), hH⟩
    ·subst hb
     refine mm tk (.ref p0 0) rfl rfl (mc tk (.ref p0 0) rfl rfl (fun _ => rfl) (mc tk (.ref p0 0) rfl rfl (fun _ => rfl) (wpo_rd (a := (gC id_p0_l 2 c_p0_l (c6).length)) rfl rfl rfl (h_ld tk hH 2 rfl rfl rfl) ?_)))
     refine l_ H35 eI rfl (o_glen tk td49 rfl) fun v37 H36 => ?_
     refine l_ H36 eB rfl (o_ar tk rfl rfl rfl) fun v39 H38 => ?_
     refine pf tk (eB v39) rfl rfl rfl (wpo_nil ?_)
     have e := oi H38
     subst e
     exact ⟨(wc (wc (wc (wc (wc (wc (wkf_nil _))))))), hH⟩
  ·refine awp_exit ?_
   have hz := hy14 _ (inj_inr H19)
   subst hz
   exact ⟨⟨_, inj_inr H19⟩, id_p0_l, n_p0_l, (wkf_nil _), hH⟩
end Go.Proofs.YtedcgeghgbgonaaDoor
namespace Go.Proofs.YtedcgeghgbgonaaDoor
open Go Go.Va Go.RowKit
set_option linter.unusedVariables false
set_option linter.unusedSimpArgs false
set_option maxRecDepth 20000
def mkE (k : Int) : AV := .iface 76 (.agg [eI k])
theorem fis_ok (o : List (BitVec 8)) (a c : Int) (u : Err) (k : Int) (σ : St) : ACall Tryd.prog 80 [.fptr [eS o, eI a, eI c, eErr u] 0, mkE k] σ (fun b τ => b = eB (c == k && c != 0) ∧ τ = σ) := by
  refine ACall.pure (acall_start tk Tryd.func80 (by decide) rfl (Nat.le_of_ble_eq_true rfl) ?_)
  have hH := Holds.init σ
  refine awp_seq ?_
  refine awp_region rfl ?_
  refine wpo_mv (a := eB false) rfl rfl rfl (o_as tk rfl (Wk.refl _)) ?_
  refine wpo_nil ?_
  refine awp_seq ?_
  refine awp_region rfl ?_
  refine wpo_mv (a := mkE k) rfl rfl rfl (o_mv tk rfl (Wk.refl _)) ?_
  refine wpo_mv (a := .tup [.agg [eI k], eB true]) rfl rfl rfl (o_ta (z := fun v => v) rfl (fun v w => by simp [Instr.typeAssert, run_underlying Tryd.underlying76, Result.andThen]) (fun G v h => h)) ?_
  refine wpo_mv (a := .tup [.agg [eI k], eB true]) rfl rfl rfl (o_mv tk rfl (Wk.refl _)) ?_
  refine wpo_mv (a := .agg [eI k]) rfl rfl rfl (o_ext tk rfl rfl) ?_
  refine wpo_mv (a := eB true) rfl rfl rfl (o_ext tk rfl rfl) ?_
  refine wpo_a (av := fun id => .ref id 0) rfl rfl rfl (h_alloc tk hH ty76 [eI 0] rfl) fun id τ ⟨hH, hn⟩ => ?_
  refine wpo_z rfl rfl (h_st tk hH 0 rfl ty76 (by simp) rfl rfl (Wk.refl _) rfl rfl (by decide) [eI k] rfl) fun τ hH => ?_
  refine wpo_mv (a := eB true) rfl rfl rfl (o_as tk rfl (Wk.refl _)) ?_
  refine wpo_nil ?_
  refine awp_seq ?_
  refine awp_drawS mixed [] rfl (by decide +kernel) rfl rfl ?_
  refine wpdS_mv (a := eB true) rfl rfl rfl (o_mv tk rfl (Wk.refl _)) ?_
  refine wpdS_mv (a := eB true) rfl rfl rfl (o_mv tk rfl (Wk.refl _)) ?_
  refine wpdS_mv (a := .fptr [eS o, eI a, eI c, eErr u] 0) rfl rfl rfl (o_mv tk rfl (Wk.refl _)) ?_
  refine wpdS_mv (a := .fptr [eS o, eI a, eI c, eErr u] 0) rfl rfl rfl (o_c tk false rfl (fun _ => rfl)) ?_
  refine wpdS_mv (a := .fptr [eS o, eI a, eI c, eErr u] 2) rfl rfl rfl (o_c tk false rfl (fun _ => rfl)) ?_
  refine wpdS_mv (a := eI c) rfl rfl rfl (o_ld tk rfl rfl) ?_
  refine wpdS_mv (a := .ref id 0) rfl rfl rfl (o_c tk false rfl (fun _ => rfl)) ?_
  refine wpdS_rd (a := eI k) rfl (by decide +kernel) rfl rfl (h_ld tk hH 0 rfl rfl rfl) ?_
  cases hck : (c == k) with
  | false =>
    refine wpdS_mv (a := eB false) rfl rfl rfl (by rw [← hck]; exact o_ar tk rfl rfl rfl) ?_
    refine wpdS_mv (a := eB false) rfl rfl rfl (o_pick_t tk rfl rfl (Wk.refl _)) ?_
    refine wpdS_mv (a := eB false) rfl rfl rfl (o_mv tk rfl (Wk.refl _)) ?_
    refine wpdS_skip rfl rfl rfl ?_
    refine wpdS_skip rfl rfl rfl ?_
    refine wpdS_skip rfl rfl rfl ?_
    refine wpdS_skip rfl rfl rfl ?_
    refine wpdS_skip rfl rfl rfl ?_
    refine wpdS_mv (a := eB false) rfl rfl rfl (o_pick_f tk rfl rfl (Wk.refl _)) ?_
    refine wpdS_mv (a := eB false) rfl rfl rfl (o_as tk rfl (Wk.refl _)) ?_
    refine wpdS_nil ?_
    refine awp_ret ?_
    exact ⟨_, (eB false), rfl, (.of_eq rfl), .of_eq rfl, (hH.noT.drop hn)⟩
  | true =>
    refine wpdS_mv (a := eB true) rfl rfl rfl (by rw [← hck]; exact o_ar tk rfl rfl rfl) ?_
    refine wpdS_mv (a := eB true) rfl rfl rfl (o_pick_t tk rfl rfl (Wk.refl _)) ?_
    refine wpdS_mv (a := eB true) rfl rfl rfl (o_mv tk rfl (Wk.refl _)) ?_
    refine wpdS_mv (a := .fptr [eS o, eI a, eI c, eErr u] 0) rfl rfl rfl (o_mv tk rfl (Wk.refl _)) ?_
    refine wpdS_mv (a := .fptr [eS o, eI a, eI c, eErr u] 0) rfl rfl rfl (o_c tk false rfl (fun _ => rfl)) ?_
    refine wpdS_mv (a := .fptr [eS o, eI a, eI c, eErr u] 2) rfl rfl rfl (o_c tk false rfl (fun _ => rfl)) ?_
    refine wpdS_mv (a := eI c) rfl rfl rfl (o_ld tk rfl rfl) ?_
    refine wpdS_mv (a := eB (c != 0)) rfl rfl rfl (o_ar tk rfl rfl rfl) ?_
    refine wpdS_mv (a := eB (c != 0)) rfl rfl rfl (o_pick_t tk rfl rfl (Wk.refl _)) ?_
    refine wpdS_mv (a := eB (c != 0)) rfl rfl rfl (o_as tk rfl (Wk.refl _)) ?_
    refine wpdS_nil ?_
    refine awp_ret ?_
    exact ⟨_, (eB (c != 0)), rfl, (.of_eq rfl), .of_eq rfl, (hH.noT.drop hn)⟩
theorem fun_ok (o : List (BitVec 8)) (a c : Int) (u : Err) (σ : St) : ACall Tryd.prog 81 [.fptr [eS o, eI a, eI c, eErr u] 0] σ (fun b τ => b = eErr u ∧ τ = σ) := by
  refine ACall.pure (acall_start tk Tryd.func81 (by decide) rfl (Nat.le_of_ble_eq_true rfl) ?_)
  have hH := Holds.init σ
  refine awp_seq ?_
  refine awp_region rfl ?_
  refine wpo_mv (a := .nili) rfl rfl rfl (o_as tk rfl (Wk.refl _)) ?_
  refine wpo_nil ?_
  refine awp_seq ?_
  refine awp_region rfl ?_
  refine wpo_mv (a := .fptr [eS o, eI a, eI c, eErr u] 0) rfl rfl rfl (o_mv tk rfl (Wk.refl _)) ?_
  refine wpo_mv (a := .fptr [eS o, eI a, eI c, eErr u] 0) rfl rfl rfl (o_c tk false rfl (fun _ => rfl)) ?_
  refine wpo_mv (a := .fptr [eS o, eI a, eI c, eErr u] 3) rfl rfl rfl (o_c tk false rfl (fun _ => rfl)) ?_
  refine wpo_mv (a := eErr u) rfl rfl rfl (o_ld tk rfl (by cases u <;> rfl)) ?_
  refine wpo_mv (a := eErr u) rfl rfl rfl (o_as tk rfl (Wk.refl _)) ?_
  refine wpo_nil ?_
  refine awp_ret ?_
  exact ⟨_, (eErr u), rfl, (.of_eq rfl), .of_eq (encErr.cut _ _ _), hH.noT⟩
abbrev FltT := List (BitVec 8) × Int × Int × Err
def FltT.e (s : FltT) : Err := .fault s.1 s.2.1 s.2.2.1 s.2.2.2
def is_b0 (k : Int) (s : FltT) : Option (FltT ⊕ Bool) := if (s.2.2.1 == k && s.2.2.1 != 0) = true then some (.inr true) else match s.2.2.2 with
  | .nil => some (.inr false)
  | .fault o a c u => some (.inl (o, a, c, u))
theorem is_l0 (k : Int) : ∀ (u : Err) (o : List (BitVec 8)) (a c : Int), loopO (is_b0 k) (o, a, c, u) = some (hasE (.fault o a c u) k)
  | .nil, o, a, c => by
    refine loopO_out ?_
    unfold is_b0 hasE
    cases h : (c == k && c != 0) <;> simp [hasE, h]
  | .fault o' a' c' u', o, a, c => by
    cases h : (c == k && c != 0) with
    | true =>
      refine loopO_out ?_
      unfold is_b0 hasE
      simp [h]
    | false =>
      rw [loopO_in (s' := (o', a', c', u')) (by unfold is_b0; simp [h]), is_l0 k u' o' a' c']
      show _ = some ((c == k && c != 0) || hasE (.fault o' a' c' u') k)
      rw [h, Bool.false_or]
theorem Tryd.hasIsF (v : Value) (xT : TypeId) (w : World) : (Instr.typeAssert (.iface 64 v) xT 125 true).run Tryd.prog w = .ok (.tuple #[.iface 64 v, .bool true]) w := run_typeAssert_hasB Tryd.underlying125 (by kernel_rfl) v xT w
theorem Tryd.hasUnF (v : Value) (xT : TypeId) (w : World) : (Instr.typeAssert (.iface 64 v) xT 114 true).run Tryd.prog w = .ok (.tuple #[.iface 64 v, .bool true]) w := run_typeAssert_hasB Tryd.underlying114 (by kernel_rfl) v xT w
theorem Tryd.methodIsF (v : Value) (w : World) : (Go.method 258 64 v "Is").run Tryd.prog w = .ok (80, v) w := by kernel_rfl
theorem Tryd.methodUnF (v : Value) (w : World) : (Go.method 258 64 v "Unwrap").run Tryd.prog w = .ok (81, v) w := by kernel_rfl
theorem fuel_eq : Tryd.prog.types.size + Made.depth = 258 := by kernel_rfl
theorem is2_ok (o : List (BitVec 8)) (a c : Int) (u : Err) (k : Int) (σ : St) : ACall Tryd.prog 54 [eErr (.fault o a c u), mkE k, eB true] σ (fun b τ => b = eB (hasE (.fault o a c u) k) ∧ τ = σ) := by
  refine ACall.pure (acall_start tk Tryd.func54 (by decide) rfl (Nat.le_of_ble_eq_true rfl) ?_)
  have hH := Holds.init σ
  refine awp_seq ?_
  refine awp_region rfl ?_
  refine wpo_mv (a := eB false) rfl rfl rfl (o_as tk rfl (Wk.refl _)) ?_
  refine wpo_nil ?_
  refine awp_block ?_
  refine awp_loopO (body := is_b0 k) (is_l0 k u o a c) (fun (s : FltT) fr τ => WkF fr (fm [(0, eErr s.e), (1, mkE k), (2, eB true)]) ∧ Holds σ [] [] τ) ⟨(wkf_cons (.of_eq rfl) (wkf_cons (.of_eq rfl) (wkf_cons (.of_eq rfl) (wkf_nil _)))), hH⟩ ?_
  rintro ⟨o1, a1, c1, u1⟩ fr τ y ⟨hfr, hH⟩ hb hy
  have hfr : WkF fr (fm [(0, eErr (.fault o1 a1 c1 u1)), (1, mkE k), (2, eB true)]) := hfr
  refine AWP.fm [(0, eErr (.fault o1 a1 c1 u1)), (1, mkE k), (2, eB true)] hfr ?_
  have hb : (if (c1 == k && c1 != 0) = true then some (.inr true) else match u1 with
    | .nil => some (.inr false)
    | .fault o a c u => some (.inl (o, a, c, u))) = some y := hb
  refine awp_block ?_
  refine awp_seq ?_
  refine awp_seq ?_
  refine awp_region rfl ?_
  refine wpo_mv (a := eB true) rfl rfl rfl (o_mv tk rfl (Wk.refl _)) ?_
  refine wpo_mv (a := eB true) rfl rfl rfl (o_mv tk rfl (Wk.refl _)) ?_
  refine wpo_mv (a := eErr (.fault o1 a1 c1 u1)) rfl rfl rfl (o_mv tk rfl (Wk.refl _)) ?_
  refine wpo_mv (a := mkE k) rfl rfl rfl (o_mv tk rfl (Wk.refl _)) ?_
  refine wpo_mv (a := eB false) rfl rfl rfl (o_ifne tk td37 rfl rfl (by decide)) ?_
  refine wpo_mv (a := eB false) rfl rfl rfl (o_pick_t tk rfl rfl (Wk.refl _)) ?_
  refine wpo_nil ?_
  refine awp_false rfl ?_
  refine awp_skip ?_
  refine awp_seq ?_
  refine awp_seq ?_
  refine awp_region rfl ?_
  refine wpo_mv (a := eErr (.fault o1 a1 c1 u1)) rfl rfl rfl (o_mv tk rfl (Wk.refl _)) ?_
  refine wpo_mv (a := .tup [eErr (.fault o1 a1 c1 u1), eB true]) rfl rfl rfl (o_ta (z := fun v => .iface 64 v) rfl (fun v w => Tryd.hasIsF v _ w) (fun G v h => .iface _ _ _ h)) ?_
  refine wpo_mv (a := .tup [eErr (.fault o1 a1 c1 u1), eB true]) rfl rfl rfl (o_mv tk rfl (Wk.refl _)) ?_
  refine wpo_mv (a := eErr (.fault o1 a1 c1 u1)) rfl rfl rfl (o_ext tk rfl rfl) ?_
  refine wpo_mv (a := eB true) rfl rfl rfl (o_ext tk rfl rfl) ?_
  refine wpo_mv (a := eErr (.fault o1 a1 c1 u1)) rfl rfl rfl (o_as tk rfl (Wk.refl _)) ?_
  refine wpo_mv (a := eB true) rfl rfl rfl (o_as tk rfl (Wk.refl _)) ?_
  refine wpo_nil ?_
  refine awp_seq ?_
  refine awp_region rfl ?_
  refine wpo_mv (a := eB true) rfl rfl rfl (o_mv tk rfl (Wk.refl _)) ?_
  refine wpo_mv (a := eB true) rfl rfl rfl (o_mv tk rfl (Wk.refl _)) ?_
  refine wpo_mv (a := eErr (.fault o1 a1 c1 u1)) rfl rfl rfl (o_mv tk rfl (Wk.refl _)) ?_
  refine wpo_mv (a := mkE k) rfl rfl rfl (o_mv tk rfl (Wk.refl _)) ?_
  refine wpo_mv (a := eB (c1 == k && c1 != 0)) rfl rfl rfl (fun τ => OpS.of_invoke rfl rfl rfl fuel_eq Tryd.methodIsF (.cons (.of_eq rfl) (.cons (.of_eq rfl) .nil)) (fis_ok o1 a1 c1 u1 k τ)) ?_
  refine wpo_mv (a := eB (c1 == k && c1 != 0)) rfl rfl rfl (o_pick_t tk rfl rfl (Wk.refl _)) ?_
  refine wpo_nil ?_
  refine awp_if hb rfl (fun hb => ?_) (fun hb => ?_)
  · refine awp_seq ?_
    refine awp_region rfl ?_
    refine wpo_mv (a := eB true) rfl rfl rfl (o_as tk rfl (Wk.refl _)) ?_
    refine wpo_nil ?_
    refine awp_ret ?_
    have hz := hy _ (Option.some.inj hb).symm
    refine ⟨⟨_, (Option.some.inj hb).symm⟩, ?_⟩
    rw [← hz]
    exact ⟨_, (eB true), rfl, (.of_eq rfl), .of_eq rfl, hH.noT⟩
  · refine awp_skip ?_
    refine awp_seq ?_
    refine awp_region rfl ?_
    refine wpo_mv (a := eErr (.fault o1 a1 c1 u1)) rfl rfl rfl (o_mv tk rfl (Wk.refl _)) ?_
    refine wpo_nil ?_
    refine awp_block ?_
    refine awp_seq ?_
    refine awp_region rfl ?_
    refine wpo_mv (a := .tup [eErr (.fault o1 a1 c1 u1), eB true]) rfl rfl rfl (o_ta (z := fun v => .iface 64 v) rfl (fun v w => Tryd.hasUnF v _ w) (fun G v h => .iface _ _ _ h)) ?_
    refine wpo_mv (a := eB true) rfl rfl rfl (o_ext tk rfl rfl) ?_
    refine wpo_mv (a := eErr (.fault o1 a1 c1 u1)) rfl rfl rfl (o_ext tk rfl rfl) ?_
    refine wpo_nil ?_
    refine awp_true rfl ?_
    refine awp_seq ?_
    refine awp_region rfl ?_
    refine wpo_mv (a := eErr (.fault o1 a1 c1 u1)) rfl rfl rfl (o_as tk rfl (Wk.refl _)) ?_
    refine wpo_nil ?_
    refine awp_seq ?_
    refine awp_region rfl ?_
    refine wpo_mv (a := eErr (.fault o1 a1 c1 u1)) rfl rfl rfl (o_mv tk rfl (Wk.refl _)) ?_
    refine wpo_mv (a := eErr u1) rfl rfl rfl (fun τ => OpS.of_invoke rfl rfl rfl fuel_eq Tryd.methodUnF (.cons (.of_eq rfl) .nil) (fun_ok o1 a1 c1 u1 τ)) ?_
    refine wpo_mv (a := eErr u1) rfl rfl rfl (o_as tk rfl (Wk.refl _)) ?_
    refine wpo_nil ?_
    refine awp_seq ?_
    refine awp_region rfl ?_
    refine wpo_mv (a := eErr u1) rfl rfl rfl (o_mv tk rfl (Wk.refl _)) ?_
    refine wpo_mv (a := eB u1.isNil) rfl rfl rfl (o_err_eql tk td37 rfl rfl) ?_
    refine wpo_nil ?_
    cases u1 with
    | nil =>
      refine awp_true rfl ?_
      refine awp_seq ?_
      refine awp_region rfl ?_
      refine wpo_mv (a := eB false) rfl rfl rfl (o_as tk rfl (Wk.refl _)) ?_
      refine wpo_nil ?_
      refine awp_ret ?_
      have hz := hy _ (Option.some.inj hb).symm
      refine ⟨⟨_, (Option.some.inj hb).symm⟩, ?_⟩
      rw [← hz]
      exact ⟨_, (eB false), rfl, (.of_eq rfl), .of_eq rfl, hH.noT⟩
    | fault o2 a2 c2 u2 =>
      refine awp_false rfl ?_
      refine awp_skip ?_
      exact ⟨(o2, a2, c2, u2), (Option.some.inj hb).symm, (wkf_cons (.of_eq rfl) (wkf_cons (.of_eq rfl) (wkf_cons (.of_eq rfl) (wkf_nil _)))), hH⟩
end Go.Proofs.YtedcgeghgbgonaaDoor
namespace Go.Proofs.YtedcgeghgbgonaaDoor
open Go.RowKit Go.Extern.Stop Go.Stop Go.Extern
theorem Tryd.isTypeOf (v : Value) (w : World) : (Extern.ReflectliteType.typeOf #[.iface 76 v]).run Tryd.prog w = .ok (.iface 107 (.agg #[.pointer (some ⟨1, 76, none⟩)])) w := by kernel_rfl
def cmpF : Array Value → Sem Value := Extern.ReflectliteType.method fun t => do Extern.Rtype.noPackHeld "Comparable" t; pure (.bool (← typeInfo t).comparable)
theorem Tryd.isComparable (w : World) : (cmpF #[.agg #[.pointer (some ⟨1, 76, none⟩)]]).run Tryd.prog w = .ok (.bool true) w := by kernel_rfl
theorem Tryd.isMethodComparable (v : Value) (w : World) : (Go.method 258 107 v "Comparable").run Tryd.prog w = .ok (88, v) w := by kernel_rfl
theorem is_raw (v u : Value) (w : World) {r : Bool} {R : World → Prop} (h33 : Calls Tryd.prog 54 #[.iface 64 v, .iface 76 u, .bool true] w fun e w' => e = .returned (.bool r) ∧ R w') :
    Calls Tryd.prog 34 #[.iface 64 v, .iface 76 u] w fun e w' => e = .returned (.bool r) ∧ R w' := by
  have h8 := @run_callFunc_extern Tryd.prog 53 _ Extern.ReflectliteType.typeOf Tryd.func53 (by kernel_rfl) (by kernel_rfl) (by kernel_rfl) (by kernel_rfl)
  have h32 := @run_callFunc_extern Tryd.prog 88 _ cmpF Tryd.func88 (by kernel_rfl) (by kernel_rfl) (by kernel_rfl) (by kernel_rfl)
  have tT := Tryd.isTypeOf
  have cT := Tryd.isComparable
  have mR := Tryd.isMethodComparable
  go_enter Tryd.func34, Tryd.ntmps34
  go_wp2_with (go_at_call 54; refine h33.mono ?_; rintro e w' ⟨rfl, hR⟩)
  go_ret
  exact ⟨rfl, hR⟩
open Go.Va in
theorem Is_ok (o : List (BitVec 8)) (a c : Int) (u : Err) (k : Int) (σ : St) : ACall Tryd.prog 34 [eErr (.fault o a c u), mkE k] σ (fun b τ => b = eB (hasE (.fault o a c u) k) ∧ τ = σ) := by
  have h := is2_ok o a c u k σ
  refine ⟨⟨_, Tryd.func34, by decide, rfl⟩, fun w0 G w vs hI hr => ?_⟩
  obtain ⟨v0, h0, r0⟩ := hr.get (i := 0) rfl
  obtain ⟨v1, h1, r1⟩ := hr.get (i := 1) rfl
  have hvs : vs = #[v0, v1] := by
    obtain ⟨l⟩ := vs
    have hl := hr.len
    simp only [List.length_cons, List.length_nil] at hl h0 h1
    match l, hl, h0, h1 with
    | [x, y], _, h0, h1 => simp at h0 h1; subst h0; subst h1; rfl
  subst hvs
  simp only [eErr] at r0
  simp only [mkE] at r1
  cases r0 with | iface _ v0 _ r0 =>
  cases r1 with | iface _ v1 _ r1 =>
  have h2 := h.2 w0 G w #[.iface 64 v0, .iface 76 v1, .bool true] hI (by
    simp only [eErr, mkE]
    exact ((RelL.nil _).cons (.bool true)).cons (.iface _ _ _ r1) |>.cons (.iface _ _ _ r0))
  refine (is_raw v0 v1 w (r := hasE (.fault o a c u) k) (R := fun w' => ∃ G', G.Le G' ∧ Inv w0 G' w' σ) (h2.mono ?_)).mono ?_
  · rintro e w' ⟨v, x, σ', G', rfl, k1, k2, k3, rfl, rfl⟩
    cases k3
    exact ⟨rfl, G', k1, k2⟩
  · rintro e w' ⟨rfl, G', k1, k2⟩
    exact ⟨.bool _, eB (hasE (.fault o a c u) k), σ, G', rfl, k1, k2, .bool _, rfl, rfl⟩
end Go.Proofs.YtedcgeghgbgonaaDoor
namespace Go.Proofs.YtedcgeghgbgonaaDoor
open Go Go.Va
set_option linter.unusedVariables false
set_option linter.unusedSimpArgs false
set_option maxRecDepth 20000
theorem trouble_Has_ok {x : Err} {k : Int} {r : Bool} (H : trouble_Has x k = some r) (σ : St) : ACall Tryd.prog 20 [eErr x, eI k] σ (fun b τ => b = eB r ∧ τ = σ) := by
 obtain rfl := oi H
 refine ACall.pure (acall_start tk Tryd.func20 (by decide) rfl (nb rfl) ?_)
 have hH := Holds.init σ
 refine sr rfl (ma tk (eB false) rfl rfl (wpo_nil (sr rfl (mm tk (eErr x) rfl rfl ?_))))
 cases x with
 | nil =>
  refine m_ (eB false) rfl (o_err_neq (x := .nil) tk td37 rfl rfl) (mm tk (eB false) rfl rfl (k_ rfl (k_ rfl (k_ rfl (k_ rfl (k_ rfl (pf tk (eB false) rfl rfl rfl (ma tk (eB false) rfl rfl ?_))))))))
  refine wpo_nil (awp_ret ?_)
  exact ⟨_, (eB false), rfl, wr, .of_eq rfl, hH.noT⟩
 | fault o a c u =>
  refine m_ (eB true) rfl (o_err_neq (x := .fault o a c u) tk td37 rfl rfl) (mm tk (eB true) rfl rfl (mm tk (eErr (.fault o a c u)) rfl rfl (mm tk (eI k) rfl rfl (mc tk (.agg [eI k]) rfl rfl (fun _ => rfl) (mc tk (mkE k) rfl rfl (fun _ => rfl) (m_ (eB (hasE (.fault o a c u) k)) rfl (OpP.of_call rfl rfl (.cons wr (.cons wr .nil)) (Is_ok o a c u k)) (pt tk (eB (hasE (.fault o a c u) k)) rfl rfl rfl (ma tk (eB (hasE (.fault o a c u) k)) rfl rfl ?_))))))))
  refine wpo_nil (awp_ret ?_)
  exact ⟨_, (eB (hasE (.fault o a c u) k)), rfl, wr, .of_eq rfl, hH.noT⟩
theorem lines_Lines_Take_ok {x0 : lines_Lines} {x1 : Int} {r : api_Msg × Err × lines_Lines} (H : lines_Lines_Take x0 x1 = some r) (σ : St) {p0 p0_l c_p0_l : Nat} (h0 : σ.objs[p0]? = some [(gR p0_l 2 c_p0_l (x0.l).length), (eI x0.lost)]) (h0_l : σ.objs[p0_l]? = some (gK e_lines_parcel c_p0_l x0.l)) (hd : [p0, p0_l].Pairwise fun a b => a ≠ b) (hle_p0_l : (x0.l).length ≤ c_p0_l) : ACall Tryd.prog 8 [(.ref p0 0), (eI x1)] σ (fun a τ => a = .tup [e_api_Msg r.1, eErr r.2.1] ∧ τ = σ.grow [(p0, [(gC (σ.objs.length + 0) 2 c_p0_l (r.2.2.l).length), (eI r.2.2.lost)]), (p0_l, [])] [(gK e_lines_parcel c_p0_l r.2.2.l)] [] 0) := by
 unfold lines_Lines_Take at H
 refine ACall.outV (B := (fun f => [(p0, [(gC (f 0) 2 c_p0_l (r.2.2.l).length), (eI r.2.2.lost)]), (p0_l, [])])) (L := [(gK e_lines_parcel c_p0_l r.2.2.l)]) (fun ρ κ => by simp only [cutAV, cutL, enc35.cut ρ κ, encErr.cut ρ κ]) (by simp only [List.mem_cons, List.not_mem_nil, or_false]; rintro _ (rfl) ρ κ <;> exact gK_cut (by first | exact enc55.cut) _ _ ρ κ) (by intro f; simp only [List.mem_cons, List.not_mem_nil, or_false]; rintro _ (rfl | rfl) <;> exact (List.getElem?_eq_some_iff.1 (by assumption)).1) (fun ρ κ f f1 h1 h3 => (.cons rfl (.cons (cut_gC (h1 0 (by simp))) (.cons (.of_eq ((enc_i64 td3 sz3).cut ρ κ _)) .nil)) (.cons rfl .nil .nil))) (acall_start tk Tryd.func8 (by decide) rfl (nb rfl) ?_)
 have hH := Holds.brings (σ := σ) [(p0, [(gR p0_l 2 c_p0_l (x0.l).length), (eI x0.lost)]), (p0_l, (gK e_lines_parcel c_p0_l x0.l))] (by simp only [List.mem_cons, List.not_mem_nil, or_false]; rintro _ (rfl | rfl) <;> assumption) hd
 refine AWP.renF (g := fun i => gR i 2 c_p0_l (x0.l).length) hH 0 1 0 rfl rfl (by decide) rfl ren_gR fun id1 τ (hH : Holds σ [(id1, (gK e_lines_parcel c_p0_l x0.l)), (p0, [(gR id1 2 c_p0_l (x0.l).length), (eI x0.lost)]), (p0_l, (cL e_lines_parcel ([] : List lines_parcel)))] [] τ) n2 => ?_
 refine sr rfl ?_
 refine wpo_a (av := fun id => .ref id 0) rfl rfl rfl (h_allocw tk hH ty35 (c_api_Msg z_api_Msg) (.cons wr (.cons wr (.cons wr (.cons wr (.cons wr (.cons wr (.cons wr (.cons wr (.cons wr (.cons (by exact wk_nils _) (.cons wr .nil)))))))))))) fun id3 τ ⟨hH, n4⟩ => ?_
 refine ma tk (eErr Err.nil) rfl rfl (wpo_nil (sr rfl (mm tk (.ref p0 0) rfl rfl (mm tk (eI x1) rfl rfl ?_))))
 refine wpo_bdr H (fun r => .tup [e_api_Msg r.1, eErr r.2]) rfl rfl rfl (fun v6 hv => h_callr rfl rfl (.cons wr (.cons wr .nil)) (lines_Lines_Look_ok hv _ (hH.at_ 2 rfl) (hH.at_ 1 rfl) (hH.pw [2, 1] rfl (by decide)) (.r hle_p0_l))) fun v6 hv6 H5 => ?_
 refine mm tk (.tup [(e_api_Msg v6.1), (eErr v6.2)]) rfl rfl (m_ (e_api_Msg v6.1) rfl (o_ext tk rfl rfl) (m_ (eErr v6.2) rfl (o_ext tk rfl rfl) ?_))
 refine wpo_a (av := fun id => .ref id 0) rfl rfl rfl (h_allocw tk hH ty35 (c_api_Msg z_api_Msg) (.cons wr (.cons wr (.cons wr (.cons wr (.cons wr (.cons wr (.cons wr (.cons wr (.cons wr (.cons (by exact wk_nils _) (.cons wr .nil)))))))))))) fun id7 τ ⟨hH, n8⟩ => ?_
 obtain ⟨c10, hc11, H9⟩ := lt_ex H5
 refine wpo_z rfl rfl (h_st tk hH 0 rfl ty35 (by simp) rfl rfl wr (b := (e_api_Msg v6.1)) (enc35.flat _) rfl (nb rfl) (c_api_Msg c10) (by rw [← hc11]; rfl)) fun τ hH => ?_
 refine ma tk (eErr v6.2) rfl rfl (wpo_nil (awp_seq (sr rfl (mm tk (eErr v6.2) rfl rfl ?_))))
 refine b_ H9 eB rfl (fun v13 hv => OpP.of_call rfl rfl (.cons wr (.cons wr .nil)) (trouble_Has_ok hv)) fun v13 hv13 H12 => ?_
 refine wpo_nil ?_
 refine awp_if H12 rfl (fun H14 => ?_) (fun H14 => ?_)
 ·refine sr rfl ?_
  refine l_ H14 e_api_Msg rfl (o_cw tk false (a := .agg ([AV.int .i64 0] ++ [AV.int .i64 0] ++ [AV.int .i64 0] ++ [AV.int .i64 0] ++ [AV.int .i64 0] ++ [AV.str ⟨#[]⟩, AV.int .i64 0, AV.int .i64 0, AV.int .i64 0, AV.nils] ++ [AV.bool false])) rfl (fun _ => rfl) (wk_agg (WkL.append (WkL.append (WkL.append (WkL.append (WkL.append (WkL.append (.cons wr .nil) (.cons wr .nil)) (.cons wr .nil)) (.cons wr .nil)) (.cons wr .nil)) (.cons wr (.cons wr (.cons wr (.cons wr (.cons (by exact wk_nils _) .nil)))))) (.cons wr .nil)))) fun v16 H15 => ?_
  refine mm tk (eI x1) rfl rfl (mm tk (eErr v6.2) rfl rfl ?_)
  refine b_ H15 eErr rfl (fun v18 hv => OpP.of_call rfl rfl (.cons wr (.cons wr (.cons wr .nil))) (trouble_Wrap_ok hv)) fun v18 hv18 H17 => ?_
  obtain ⟨c20, hc21, H19⟩ := lt_ex H17
  refine wpo_z rfl rfl (h_st tk hH 1 rfl ty35 (by simp) rfl rfl wr (b := (e_api_Msg v16)) (enc35.flat _) rfl (nb rfl) (c_api_Msg c20) (by rw [← hc21]; rfl)) fun τ hH => ?_
  refine ma tk (eErr v18) rfl rfl (wpo_nil ?_)
  refine AWP.wko hH 3 rfl (c1 := [(gC id1 2 c_p0_l (x0.l).length), (eI x0.lost)]) (.cons (GG.wk (.r hle_p0_l)) (.cons wr .nil)) fun τ (hH : Holds σ [(id7, (c_api_Msg c10)), (id3, (c_api_Msg c20)), (id1, (gK e_lines_parcel c_p0_l x0.l)), (p0, [(gC id1 2 c_p0_l (x0.l).length), (eI x0.lost)]), (p0_l, (cL e_lines_parcel ([] : List lines_parcel)))] [] τ) => ?_
  refine awp_ret ?_
  obtain rfl := oi H19
  have hH : Holds σ [(id7, (c_api_Msg c10)), (id3, (c_api_Msg c20)), (id1, (gK e_lines_parcel c_p0_l x0.l)), (p0, [(gC id1 2 c_p0_l (x0.l).length), (eI x0.lost)]), (p0_l, (cL e_lines_parcel ([] : List lines_parcel)))] [] _ := hH
  have hF : Holds σ [(id1, (gK e_lines_parcel c_p0_l x0.l)), (p0, [(gC id1 2 c_p0_l (x0.l).length), (eI x0.lost)]), (p0_l, (cL e_lines_parcel ([] : List lines_parcel)))] [] _ := hH.pick (by simp only [List.mem_cons, List.not_mem_nil, or_false]; rintro _ (rfl | rfl | rfl) <;> simp) (pw_zip (hH.pw [2, 3, 4] rfl (by decide))) (by simp only [List.mem_cons, List.not_mem_nil, or_false]; rintro _ (rfl | rfl | rfl | rfl | rfl) <;> first | exact .inl (by assumption) | exact .inr (by simp)) (fun t h => by cases h) .nil
  exact ⟨_, (.tup [(e_api_Msg c20), (eErr v18)]), (ares_2 (ares_cell hH 1 rfl rfl rfl) rfl), (wk_tup (.cons wr (.cons wr .nil))), rfl, fun i => [id1].getD i 0, by intro i hi; match i, hi with | 0, _ => exact n2 | k + 1, hi => exact absurd hi (by simp), hF⟩
 ·refine awp_skip (sr rfl (mm tk (.ref p0 0) rfl rfl (mm tk (.ref p0 0) rfl rfl (mc tk (.ref p0 0) rfl rfl (fun _ => rfl) (mc tk (.ref p0 0) rfl rfl (fun _ => rfl) (wpo_rd (a := (gR id1 2 c_p0_l (x0.l).length)) rfl rfl rfl (h_ld tk hH 3 rfl rfl rfl) (mm tk (eI x1) rfl rfl (mm tk (eI x1) rfl rfl ?_))))))))
  refine l_ H14 eI rfl (o_ar tk rfl rfl rfl) fun v23 H22 => ?_
  obtain ⟨v25, hv26, H24⟩ := ob H22
  have hle29 : (v25).length ≤ c_p0_l := Nat.le_trans (delO_len hv26) hle_p0_l
  refine wpo_a (av := fun b => gR b 2 c_p0_l (v25).length) rfl rfl rfl (h_calldg hH 2 rfl n2 rfl rfl (.cons wr (.cons wr (.cons wr .nil))) (slices_Delete_lines_parcel_lines_parcel_g hv26 _ (hH.at_ 2 rfl) hle_p0_l)) fun id27 τ ⟨hH, n28⟩ => ?_
  refine mc tk (.ref p0 0) rfl rfl (fun _ => rfl) (mc tk (.ref p0 0) rfl rfl (fun _ => rfl) ?_)
  refine wpo_z rfl rfl (h_st (y := (gR id27 2 c_p0_l (v25).length)) tk hH 3 rfl ty49 (by simp) rfl rfl (GG.wk (.r hle29)) (b := (gC id27 2 c_p0_l (v25).length)) (gC_flat _ _ _ _) (gC_one _ _ _ _) (nb rfl) [(gC id27 2 c_p0_l (v25).length), (eI ({ x0 with l := v25 } : lines_Lines).lost)] (by rw [gC_cells]; rfl)) fun τ hH => ?_
  refine wpo_nil (awp_seq (sr rfl (mm tk (eErr v6.2) rfl rfl ?_)))
  refine l_ H24 eB rfl (o_err_neq tk rfl rfl rfl) fun v32 H31 => ?_
  refine wpo_nil ?_
  refine awp_if H31 rfl (fun H33 => ?_) (fun H33 => ?_)
  ·refine sr rfl (mm tk (.ref p0 0) rfl rfl (mc tk (.ref p0 0) rfl rfl (fun _ => rfl) (mc tk (.ref p0 1) rfl rfl (fun _ => rfl) (wpo_rd (a := (eI ({ x0 with l := v25 } : lines_Lines).lost)) rfl rfl rfl (h_ld tk hH 3 rfl rfl rfl) ?_))))
   refine l_ H33 eI rfl (o_ar tk rfl rfl rfl) fun v35 H34 => ?_
   refine mc tk (.ref p0 0) rfl rfl (fun _ => rfl) (mc tk (.ref p0 1) rfl rfl (fun _ => rfl) ?_)
   refine wpo_z rfl rfl (h_st tk hH 3 rfl ty3 (by simp) rfl rfl wr (b := (eI v35)) rfl rfl (nb rfl) [(gC id27 2 c_p0_l (v25).length), (eI ({ ({ x0 with l := v25 } : lines_Lines) with lost := v35 } : lines_Lines).lost)] rfl) fun τ hH => ?_
   refine wpo_nil (sr rfl ?_)
   refine l_ H34 e_api_Msg rfl (o_cw tk false (a := .agg ([AV.int .i64 0] ++ [AV.int .i64 0] ++ [AV.int .i64 0] ++ [AV.int .i64 0] ++ [AV.int .i64 0] ++ [AV.str ⟨#[]⟩, AV.int .i64 0, AV.int .i64 0, AV.int .i64 0, AV.nils] ++ [AV.bool false])) rfl (fun _ => rfl) (wk_agg (WkL.append (WkL.append (WkL.append (WkL.append (WkL.append (WkL.append (.cons wr .nil) (.cons wr .nil)) (.cons wr .nil)) (.cons wr .nil)) (.cons wr .nil)) (.cons wr (.cons wr (.cons wr (.cons wr (.cons (by exact wk_nils _) .nil)))))) (.cons wr .nil)))) fun v38 H37 => ?_
   refine mm tk (eI x1) rfl rfl (mm tk (eErr v6.2) rfl rfl ?_)
   refine b_ H37 eErr rfl (fun v40 hv => OpP.of_call rfl rfl (.cons wr (.cons wr (.cons wr .nil))) (trouble_Wrap_ok hv)) fun v40 hv40 H39 => ?_
   obtain ⟨c42, hc43, H41⟩ := lt_ex H39
   refine wpo_z rfl rfl (h_st tk hH 1 rfl ty35 (by simp) rfl rfl wr (b := (e_api_Msg v38)) (enc35.flat _) rfl (nb rfl) (c_api_Msg c42) (by rw [← hc43]; rfl)) fun τ hH => ?_
   refine ma tk (eErr v40) rfl rfl (wpo_nil (awp_ret ?_))
   obtain rfl := oi H41
   have hH : Holds σ [(id7, (c_api_Msg c10)), (id3, (c_api_Msg c42)), (id27, (gK e_lines_parcel c_p0_l v25)), (p0, [(gC id27 2 c_p0_l (v25).length), (eI ({ ({ x0 with l := v25 } : lines_Lines) with lost := v35 } : lines_Lines).lost)]), (p0_l, (cL e_lines_parcel ([] : List lines_parcel)))] [] _ := hH
   have hF : Holds σ [(id27, (gK e_lines_parcel c_p0_l v25)), (p0, [(gC id27 2 c_p0_l (v25).length), (eI ({ ({ x0 with l := v25 } : lines_Lines) with lost := v35 } : lines_Lines).lost)]), (p0_l, (cL e_lines_parcel ([] : List lines_parcel)))] [] _ := hH.pick (by simp only [List.mem_cons, List.not_mem_nil, or_false]; rintro _ (rfl | rfl | rfl) <;> simp) (pw_zip (hH.pw [2, 3, 4] rfl (by decide))) (by simp only [List.mem_cons, List.not_mem_nil, or_false]; rintro _ (rfl | rfl | rfl | rfl | rfl) <;> first | exact .inl (by assumption) | exact .inr (by simp)) (fun t h => by cases h) .nil
   exact ⟨_, (.tup [(e_api_Msg c42), (eErr v40)]), (ares_2 (ares_cell hH 1 rfl rfl rfl) rfl), (wk_tup (.cons wr (.cons wr .nil))), rfl, fun i => [id27].getD i 0, by intro i hi; match i, hi with | 0, _ => exact n28 | k + 1, hi => exact absurd hi (by simp), hF⟩
  ·refine awp_skip (sr rfl (wpo_rd (a := (e_api_Msg c10)) rfl rfl rfl (h_ld tk hH 0 rfl rfl rfl) ?_))
   obtain ⟨c45, hc46, H44⟩ := lt_ex H33
   refine wpo_z rfl rfl (h_st tk hH 1 rfl ty35 (by simp) rfl rfl wr (b := (e_api_Msg c10)) (enc35.flat _) rfl (nb rfl) (c_api_Msg c45) (by rw [← hc46]; rfl)) fun τ hH => ?_
   refine ma tk (eErr Err.nil) rfl rfl (wpo_nil (awp_ret ?_))
   obtain rfl := oi H44
   have hH : Holds σ [(id7, (c_api_Msg c10)), (id3, (c_api_Msg c45)), (id27, (gK e_lines_parcel c_p0_l v25)), (p0, [(gC id27 2 c_p0_l (v25).length), (eI ({ x0 with l := v25 } : lines_Lines).lost)]), (p0_l, (cL e_lines_parcel ([] : List lines_parcel)))] [] _ := hH
   have hF : Holds σ [(id27, (gK e_lines_parcel c_p0_l v25)), (p0, [(gC id27 2 c_p0_l (v25).length), (eI ({ x0 with l := v25 } : lines_Lines).lost)]), (p0_l, (cL e_lines_parcel ([] : List lines_parcel)))] [] _ := hH.pick (by simp only [List.mem_cons, List.not_mem_nil, or_false]; rintro _ (rfl | rfl | rfl) <;> simp) (pw_zip (hH.pw [2, 3, 4] rfl (by decide))) (by simp only [List.mem_cons, List.not_mem_nil, or_false]; rintro _ (rfl | rfl | rfl | rfl | rfl) <;> first | exact .inl (by assumption) | exact .inr (by simp)) (fun t h => by cases h) .nil
   exact ⟨_, (.tup [(e_api_Msg c45), (eErr Err.nil)]), (ares_2 (ares_cell hH 1 rfl rfl rfl) rfl), (wk_tup (.cons wr (.cons wr .nil))), rfl, fun i => [id27].getD i 0, by intro i hi; match i, hi with | 0, _ => exact n28 | k + 1, hi => exact absurd hi (by simp), hF⟩
theorem R02_Same_ok {x0 : List (BitVec 8)} {x1 : List (BitVec 8)} {r : Bool} (H : R02_Same x0 x1 = some r) (σ : St)  : ACall Tryd.prog 35 [((eL 1 (@eU .u8 8)) x0), ((eL 1 (@eU .u8 8)) x1)] σ (fun a τ => a = eB r ∧ τ = σ) := by
 unfold R02_Same at H
 refine ACall.pure (acall_start tk Tryd.func35 (by decide) rfl (nb rfl) ?_)
 have hH := Holds.init σ
 refine sr rfl (ma tk (eB false) rfl rfl (wpo_nil (awp_seq (sr rfl (mm tk ((eL 1 (@eU .u8 8)) x0) rfl rfl ?_)))))
 refine l_ H eI rfl (o_len tk td31 rfl) fun v2 H1 => ?_
 refine mm tk ((eL 1 (@eU .u8 8)) x1) rfl rfl ?_
 refine l_ H1 eI rfl (o_len tk td31 rfl) fun v4 H3 => ?_
 refine l_ H3 eB rfl (o_ar tk rfl rfl rfl) fun v6 H5 => ?_
 refine wpo_nil ?_
 refine awp_if H5 rfl (fun H7 => ?_) (fun H7 => ?_)
 ·refine sr rfl (ma tk (eB false) rfl rfl (wpo_nil (awp_ret ?_)))
  obtain rfl := oi H7
  exact ⟨_, (eB false), rfl, wr, .of_eq ((enc_b td4 sz4).cut _ _ _), hH.noT⟩
 ·refine awp_skip (awp_seq (sr rfl (ma tk (eI (0 : Int)) rfl rfl (wpo_nil (awp_block ?_)))))
  obtain ⟨o9, hs10, hj11⟩ := ob H7
  refine awp_cutx 0 (fun fr τ => ∃ s16 : Unit, o9 = .inl s16 ∧ WkF fr (fm []) ∧ Holds σ [] [] τ) ?_ ?_
  ·rintro fr τ ⟨s16, rfl, hfr, hH⟩
   have H33 := hj11
   simp only [Sum.elim_inl] at H33
   refine AWP.fm [] hfr ?_
   refine sr rfl (ma tk (eB true) rfl rfl (wpo_nil (awp_ret ?_)))
   obtain rfl := oi H33
   exact ⟨_, (eB true), rfl, wr, .of_eq ((enc_b td4 sz4).cut _ _ _), hH.noT⟩
  ·refine awp_loopO (body := fun s => R02_Same_b0 x0 x1 s) hs10 (fun (s : Int) fr τ => WkF fr (fm [(0, ((eL 1 (@eU .u8 8)) x0)), (1, ((eL 1 (@eU .u8 8)) x1)), (5, (eI s))]) ∧ Holds σ [] [] τ) ⟨(wc (wc (wc (wkf_nil _)))), hH⟩ ?_
   rintro c8 fr τ y12 ⟨hfr, hH⟩ hb14 hy15
   have H17 : R02_Same_b0 x0 x1 c8 = some y12 := hb14
   unfold R02_Same_b0 at H17
   refine AWP.fm [(0, ((eL 1 (@eU .u8 8)) x0)), (1, ((eL 1 (@eU .u8 8)) x1)), (5, (eI c8))] hfr ?_
   have hH : Holds σ [] [] τ := hH
   refine awp_seq (sr rfl (mm tk (eI c8) rfl rfl (mm tk ((eL 1 (@eU .u8 8)) x0) rfl rfl ?_)))
   refine l_ H17 eI rfl (o_len tk td31 rfl) fun v19 H18 => ?_
   refine l_ H18 eB rfl (o_ar tk rfl rfl rfl) fun v21 H20 => ?_
   refine wpo_nil ?_
   refine awp_if H20 rfl (fun H22 => ?_) (fun H22 => ?_)
   ·refine awp_skip (awp_seq (awp_block (awp_seq ?_)))
    refine awp_drawS mixed [] rfl (by decide +kernel) rfl rfl ?_
    refine wpdS_mv (a := ((eL 1 (@eU .u8 8)) x0)) rfl rfl rfl (o_mv tk rfl (Wk.refl _)) (wpdS_mv (a := (eI c8)) rfl rfl rfl (o_mv tk rfl (Wk.refl _)) ?_)
    refine wpdS_bd H22 (fun y => .fptr ((@eU .u8 8) y).cells 0) rfl rfl rfl (fun v24 hv => o_ixa tk hv td31 (enc_u td5 sz5) rfl rfl) fun v24 hv24 H23 => ?_
    refine wpdS_mv (a := ((@eU .u8 8) v24)) rfl rfl rfl (o_ld_e tk (enc_u td5 sz5) rfl rfl) (wpdS_mv (a := ((eL 1 (@eU .u8 8)) x1)) rfl rfl rfl (o_mv tk rfl (Wk.refl _)) (wpdS_mv (a := (eI c8)) rfl rfl rfl (o_mv tk rfl (Wk.refl _)) ?_))
    refine wpdS_bd H23 (fun y => .fptr ((@eU .u8 8) y).cells 0) rfl rfl rfl (fun v26 hv => o_ixa tk hv td31 (enc_u td5 sz5) rfl rfl) fun v26 hv26 H25 => ?_
    refine wpdS_mv (a := ((@eU .u8 8) v26)) rfl rfl rfl (o_ld_e tk (enc_u td5 sz5) rfl rfl) ?_
    refine wpdS_lt H25 eB rfl rfl rfl (o_neq_u tk rfl rfl) fun v28 H27 => ?_
    refine wpdS_nil ?_
    refine awp_if H27 rfl (fun H29 => ?_) (fun H29 => ?_)
    ·refine sr rfl (ma tk (eB false) rfl rfl (wpo_nil (awp_ret ?_)))
     have hz := hy15 _ (inj_inr H29)
     refine ⟨⟨_, inj_inr H29⟩, ?_⟩
     rw [← hz] at hj11
     have H30 := (show some _ = some _ from hj11)
     obtain rfl := oi H30
     exact ⟨_, (eB false), rfl, wr, .of_eq ((enc_b td4 sz4).cut _ _ _), hH.noT⟩
    ·refine awp_skip (awp_region rfl (mm tk (eI c8) rfl rfl ?_))
     refine l_ H29 eI rfl (o_ar tk rfl rfl rfl) fun v32 H31 => ?_
     refine ma tk (eI v32) rfl rfl (wpo_nil ?_)
     exact ⟨v32, inj_inl H31, (wc (wc (wc (wkf_nil _)))), hH⟩
   ·refine awp_exit ?_
    have hz := hy15 _ (inj_inr H22)
    exact ⟨⟨_, inj_inr H22⟩, (), hz.symm, (wkf_nil _), hH⟩
theorem R06_Same_ok {x0 : api_Entry} {x1 : api_Entry} {r : Bool} (H : R06_Same x0 x1 = some r) (σ : St)  : ACall Tryd.prog 23 [(e_api_Entry x0), (e_api_Entry x1)] σ (fun a τ => a = eB r ∧ τ = σ) := by
 unfold R06_Same at H
 refine ACall.pure (acall_start tk Tryd.func23 (by decide) rfl (nb rfl) ?_)
 have hH := Holds.init σ
 refine sr rfl (m_ (.fptr (c_api_Entry x0) 0) rfl (o_boxf tk rfl wr (b := (e_api_Entry x0)) (enc33.flat _)) (m_ (.fptr (c_api_Entry x1) 0) rfl (o_boxf tk rfl wr (b := (e_api_Entry x1)) (enc33.flat _)) (ma tk (eB false) rfl rfl (wpo_nil (sr rfl (mc tk (.fptr (c_api_Entry x0) 0) rfl rfl (fun _ => rfl) (m_ (eS x0.Key) rfl (o_ld tk rfl rfl) (mc tk (.fptr (c_api_Entry x1) 0) rfl rfl (fun _ => rfl) ?_))))))))
 refine m_ (eS x1.Key) rfl (o_ld tk rfl rfl) ?_
 refine l_ H eB rfl (o_eql_s tk rfl rfl) fun v2 H1 => ?_
 refine mm tk (eB v2) rfl rfl ?_
 refine if_split H1 (fun hb H3 => ?_) (fun hb H3 => ?_)
 ·subst hb
  refine mc tk (.fptr (c_api_Entry x0) 1) rfl rfl (fun _ => rfl) (m_ (eI x0.Version) rfl (o_ld tk rfl rfl) (mc tk (.fptr (c_api_Entry x1) 1) rfl rfl (fun _ => rfl) (m_ (eI x1.Version) rfl (o_ld tk rfl rfl) ?_)))
  refine l_ H3 eB rfl (o_ar tk rfl rfl rfl) fun v5 H4 => ?_
  refine pt tk (eB v5) rfl rfl rfl (mm tk (eB v5) rfl rfl ?_)
  refine if_split H4 (fun hb H6 => ?_) (fun hb H6 => ?_)
  ·subst hb
   refine mc tk (.fptr (c_api_Entry x0) 2) rfl rfl (fun _ => rfl) (m_ (eI x0.AsOf) rfl (o_ld tk rfl rfl) (mc tk (.fptr (c_api_Entry x1) 2) rfl rfl (fun _ => rfl) (m_ (eI x1.AsOf) rfl (o_ld tk rfl rfl) ?_)))
   refine l_ H6 eB rfl (o_ar tk rfl rfl rfl) fun v8 H7 => ?_
   refine pt tk (eB v8) rfl rfl rfl (mm tk (eB v8) rfl rfl ?_)
   refine if_split H7 (fun hb H9 => ?_) (fun hb H9 => ?_)
   ·subst hb
    refine mc tk (.fptr (c_api_Entry x0) 3) rfl rfl (fun _ => rfl) (m_ (eI x0.Ends) rfl (o_ld tk rfl rfl) (mc tk (.fptr (c_api_Entry x1) 3) rfl rfl (fun _ => rfl) (m_ (eI x1.Ends) rfl (o_ld tk rfl rfl) ?_)))
    refine l_ H9 eB rfl (o_ar tk rfl rfl rfl) fun v11 H10 => ?_
    refine pt tk (eB v11) rfl rfl rfl (mm tk (eB v11) rfl rfl ?_)
    refine if_split H10 (fun hb H12 => ?_) (fun hb H12 => ?_)
    ·subst hb
     refine mc tk (.fptr (c_api_Entry x0) 4) rfl rfl (fun _ => rfl) (m_ ((eL 1 (@eU .u8 8)) x0.Value) rfl (o_ld tk rfl rfl) (mc tk (.fptr (c_api_Entry x1) 4) rfl rfl (fun _ => rfl) (m_ ((eL 1 (@eU .u8 8)) x1.Value) rfl (o_ld tk rfl rfl) ?_)))
     refine b_ H12 eB rfl (fun v14 hv => OpP.of_call rfl rfl (.cons wr (.cons wr .nil)) (R02_Same_ok hv)) fun v14 hv14 H13 => ?_
     refine pt tk (eB v14) rfl rfl rfl (ma tk (eB v14) rfl rfl (wpo_nil (awp_ret ?_)))
     obtain rfl := oi H13
     exact ⟨_, (eB v14), rfl, wr, .of_eq ((enc_b td4 sz4).cut _ _ _), hH.noT⟩
    ·subst hb
     refine k_ rfl (k_ rfl (k_ rfl (k_ rfl (k_ rfl (pf tk (eB false) rfl rfl rfl (ma tk (eB false) rfl rfl (wpo_nil (awp_ret ?_))))))))
     obtain rfl := oi H12
     exact ⟨_, (eB false), rfl, wr, .of_eq ((enc_b td4 sz4).cut _ _ _), hH.noT⟩
   ·subst hb
    refine k_ rfl (k_ rfl (k_ rfl (k_ rfl (k_ rfl (pf tk (eB false) rfl rfl rfl (mm tk (eB false) rfl rfl (k_ rfl (k_ rfl ?_))))))))
    refine k_ rfl (k_ rfl (k_ rfl (pf tk (eB false) rfl rfl rfl (ma tk (eB false) rfl rfl (wpo_nil (awp_ret ?_))))))
    obtain rfl := oi H9
    exact ⟨_, (eB false), rfl, wr, .of_eq ((enc_b td4 sz4).cut _ _ _), hH.noT⟩
  ·subst hb
   refine k_ rfl (k_ rfl (k_ rfl (k_ rfl (k_ rfl (pf tk (eB false) rfl rfl rfl (mm tk (eB false) rfl rfl (k_ rfl (k_ rfl ?_))))))))
   refine k_ rfl (k_ rfl (k_ rfl (pf tk (eB false) rfl rfl rfl (mm tk (eB false) rfl rfl (k_ rfl (k_ rfl (k_ rfl (k_ rfl ?_))))))))
   refine k_ rfl (pf tk (eB false) rfl rfl rfl (ma tk (eB false) rfl rfl (wpo_nil (awp_ret ?_))))
   obtain rfl := oi H6
   exact ⟨_, (eB false), rfl, wr, .of_eq ((enc_b td4 sz4).cut _ _ _), hH.noT⟩
 ·subst hb
  refine k_ rfl (k_ rfl (k_ rfl (k_ rfl (k_ rfl (pf tk (eB false) rfl rfl rfl (mm tk (eB false) rfl rfl (k_ rfl (k_ rfl ?_))))))))
  refine k_ rfl (k_ rfl (k_ rfl (pf tk (eB false) rfl rfl rfl (mm tk (eB false) rfl rfl (k_ rfl (k_ rfl (k_ rfl (k_ rfl ?_))))))))
  refine k_ rfl (pf tk (eB false) rfl rfl rfl (mm tk (eB false) rfl rfl (k_ rfl (k_ rfl (k_ rfl (k_ rfl (k_ rfl (pf tk (eB false) rfl rfl rfl ?_))))))))
  refine ma tk (eB false) rfl rfl (wpo_nil (awp_ret ?_))
  obtain rfl := oi H3
  exact ⟨_, (eB false), rfl, wr, .of_eq ((enc_b td4 sz4).cut _ _ _), hH.noT⟩
theorem R23_Same_ok {x0 : api_Msg} {x1 : api_Msg} {r : Bool} (H : R23_Same x0 x1 = some r) (σ : St)  : ACall Tryd.prog 9 [(e_api_Msg x0), (e_api_Msg x1)] σ (fun a τ => a = eB r ∧ τ = σ) := by
 unfold R23_Same at H
 refine ACall.pure (acall_start tk Tryd.func9 (by decide) rfl (nb rfl) ?_)
 have hH := Holds.init σ
 refine sr rfl (m_ (.fptr (c_api_Msg x0) 0) rfl (o_boxf tk rfl wr (b := (e_api_Msg x0)) (enc35.flat _)) (m_ (.fptr (c_api_Msg x1) 0) rfl (o_boxf tk rfl wr (b := (e_api_Msg x1)) (enc35.flat _)) (ma tk (eB false) rfl rfl (wpo_nil (sr rfl (mc tk (.fptr (c_api_Msg x0) 0) rfl rfl (fun _ => rfl) (m_ (eI x0.Kind) rfl (o_ld tk rfl rfl) (mc tk (.fptr (c_api_Msg x1) 0) rfl rfl (fun _ => rfl) ?_))))))))
 refine m_ (eI x1.Kind) rfl (o_ld tk rfl rfl) ?_
 refine l_ H eB rfl (o_ar tk rfl rfl rfl) fun v2 H1 => ?_
 refine mm tk (eB v2) rfl rfl ?_
 refine if_split H1 (fun hb H3 => ?_) (fun hb H3 => ?_)
 ·subst hb
  refine mc tk (.fptr (c_api_Msg x0) 1) rfl rfl (fun _ => rfl) (m_ (eI x0.From) rfl (o_ld tk rfl rfl) (mc tk (.fptr (c_api_Msg x1) 1) rfl rfl (fun _ => rfl) (m_ (eI x1.From) rfl (o_ld tk rfl rfl) ?_)))
  refine l_ H3 eB rfl (o_ar tk rfl rfl rfl) fun v5 H4 => ?_
  refine pt tk (eB v5) rfl rfl rfl (mm tk (eB v5) rfl rfl ?_)
  refine if_split H4 (fun hb H6 => ?_) (fun hb H6 => ?_)
  ·subst hb
   refine mc tk (.fptr (c_api_Msg x0) 2) rfl rfl (fun _ => rfl) (m_ (eI x0.To) rfl (o_ld tk rfl rfl) (mc tk (.fptr (c_api_Msg x1) 2) rfl rfl (fun _ => rfl) (m_ (eI x1.To) rfl (o_ld tk rfl rfl) ?_)))
   refine l_ H6 eB rfl (o_ar tk rfl rfl rfl) fun v8 H7 => ?_
   refine pt tk (eB v8) rfl rfl rfl (mm tk (eB v8) rfl rfl ?_)
   refine if_split H7 (fun hb H9 => ?_) (fun hb H9 => ?_)
   ·subst hb
    refine mc tk (.fptr (c_api_Msg x0) 3) rfl rfl (fun _ => rfl) (m_ (eI x0.Epoch) rfl (o_ld tk rfl rfl) (mc tk (.fptr (c_api_Msg x1) 3) rfl rfl (fun _ => rfl) (m_ (eI x1.Epoch) rfl (o_ld tk rfl rfl) ?_)))
    refine l_ H9 eB rfl (o_ar tk rfl rfl rfl) fun v11 H10 => ?_
    refine pt tk (eB v11) rfl rfl rfl (mm tk (eB v11) rfl rfl ?_)
    refine if_split H10 (fun hb H12 => ?_) (fun hb H12 => ?_)
    ·subst hb
     refine mc tk (.fptr (c_api_Msg x0) 4) rfl rfl (fun _ => rfl) (m_ (eI x0.Id) rfl (o_ld tk rfl rfl) (mc tk (.fptr (c_api_Msg x1) 4) rfl rfl (fun _ => rfl) (m_ (eI x1.Id) rfl (o_ld tk rfl rfl) ?_)))
     refine l_ H12 eB rfl (o_ar tk rfl rfl rfl) fun v14 H13 => ?_
     refine pt tk (eB v14) rfl rfl rfl (mm tk (eB v14) rfl rfl ?_)
     refine if_split H13 (fun hb H15 => ?_) (fun hb H15 => ?_)
     ·subst hb
      refine mc tk (.fptr (c_api_Msg x0) 10) rfl rfl (fun _ => rfl) (m_ (eB x0.Found) rfl (o_ld tk rfl rfl) (mc tk (.fptr (c_api_Msg x1) 10) rfl rfl (fun _ => rfl) (m_ (eB x1.Found) rfl (o_ld tk rfl rfl) ?_)))
      refine l_ H15 eB rfl (o_bool_eql tk td4 rfl rfl) fun v17 H16 => ?_
      refine pt tk (eB v17) rfl rfl rfl (mm tk (eB v17) rfl rfl ?_)
      refine if_split H16 (fun hb H18 => ?_) (fun hb H18 => ?_)
      ·subst hb
       refine mc tk (.fptr (c_api_Msg x0) 5) rfl rfl (fun _ => rfl) (m_ (e_api_Entry x0.X) rfl (o_ld tk rfl rfl) (mc tk (.fptr (c_api_Msg x1) 5) rfl rfl (fun _ => rfl) (m_ (e_api_Entry x1.X) rfl (o_ld tk rfl rfl) ?_)))
       refine b_ H18 eB rfl (fun v20 hv => OpP.of_call rfl rfl (.cons wr (.cons wr .nil)) (R06_Same_ok hv)) fun v20 hv20 H19 => ?_
       refine pt tk (eB v20) rfl rfl rfl (ma tk (eB v20) rfl rfl (wpo_nil (awp_ret ?_)))
       obtain rfl := oi H19
       exact ⟨_, (eB v20), rfl, wr, .of_eq ((enc_b td4 sz4).cut _ _ _), hH.noT⟩
      ·subst hb
       refine k_ rfl (k_ rfl (k_ rfl (k_ rfl (k_ rfl (pf tk (eB false) rfl rfl rfl (ma tk (eB false) rfl rfl (wpo_nil (awp_ret ?_))))))))
       obtain rfl := oi H18
       exact ⟨_, (eB false), rfl, wr, .of_eq ((enc_b td4 sz4).cut _ _ _), hH.noT⟩
     ·subst hb
      refine k_ rfl (k_ rfl (k_ rfl (k_ rfl (k_ rfl (pf tk (eB false) rfl rfl rfl (mm tk (eB false) rfl rfl (k_ rfl (k_ rfl ?_))))))))
      refine k_ rfl (k_ rfl (k_ rfl (pf tk (eB false) rfl rfl rfl (ma tk (eB false) rfl rfl (wpo_nil (awp_ret ?_))))))
      obtain rfl := oi H15
      exact ⟨_, (eB false), rfl, wr, .of_eq ((enc_b td4 sz4).cut _ _ _), hH.noT⟩
    ·subst hb
     refine k_ rfl (k_ rfl (k_ rfl (k_ rfl (k_ rfl (pf tk (eB false) rfl rfl rfl (mm tk (eB false) rfl rfl (k_ rfl (k_ rfl ?_))))))))
     refine k_ rfl (k_ rfl (k_ rfl (pf tk (eB false) rfl rfl rfl (mm tk (eB false) rfl rfl (k_ rfl (k_ rfl (k_ rfl (k_ rfl ?_))))))))
     refine k_ rfl (pf tk (eB false) rfl rfl rfl (ma tk (eB false) rfl rfl (wpo_nil (awp_ret ?_))))
     obtain rfl := oi H12
     exact ⟨_, (eB false), rfl, wr, .of_eq ((enc_b td4 sz4).cut _ _ _), hH.noT⟩
   ·subst hb
    refine k_ rfl (k_ rfl (k_ rfl (k_ rfl (k_ rfl (pf tk (eB false) rfl rfl rfl (mm tk (eB false) rfl rfl (k_ rfl (k_ rfl ?_))))))))
    refine k_ rfl (k_ rfl (k_ rfl (pf tk (eB false) rfl rfl rfl (mm tk (eB false) rfl rfl (k_ rfl (k_ rfl (k_ rfl (k_ rfl ?_))))))))
    refine k_ rfl (pf tk (eB false) rfl rfl rfl (mm tk (eB false) rfl rfl (k_ rfl (k_ rfl (k_ rfl (k_ rfl (k_ rfl (pf tk (eB false) rfl rfl rfl ?_))))))))
    refine ma tk (eB false) rfl rfl (wpo_nil (awp_ret ?_))
    obtain rfl := oi H9
    exact ⟨_, (eB false), rfl, wr, .of_eq ((enc_b td4 sz4).cut _ _ _), hH.noT⟩
  ·subst hb
   refine k_ rfl (k_ rfl (k_ rfl (k_ rfl (k_ rfl (pf tk (eB false) rfl rfl rfl (mm tk (eB false) rfl rfl (k_ rfl (k_ rfl ?_))))))))
   refine k_ rfl (k_ rfl (k_ rfl (pf tk (eB false) rfl rfl rfl (mm tk (eB false) rfl rfl (k_ rfl (k_ rfl (k_ rfl (k_ rfl ?_))))))))
   refine k_ rfl (pf tk (eB false) rfl rfl rfl (mm tk (eB false) rfl rfl (k_ rfl (k_ rfl (k_ rfl (k_ rfl (k_ rfl (pf tk (eB false) rfl rfl rfl ?_))))))))
   refine mm tk (eB false) rfl rfl (k_ rfl (k_ rfl (k_ rfl (k_ rfl (k_ rfl (pf tk (eB false) rfl rfl rfl (ma tk (eB false) rfl rfl (wpo_nil ?_))))))))
   refine awp_ret ?_
   obtain rfl := oi H6
   exact ⟨_, (eB false), rfl, wr, .of_eq ((enc_b td4 sz4).cut _ _ _), hH.noT⟩
 ·subst hb
  refine k_ rfl (k_ rfl (k_ rfl (k_ rfl (k_ rfl (pf tk (eB false) rfl rfl rfl (mm tk (eB false) rfl rfl (k_ rfl (k_ rfl ?_))))))))
  refine k_ rfl (k_ rfl (k_ rfl (pf tk (eB false) rfl rfl rfl (mm tk (eB false) rfl rfl (k_ rfl (k_ rfl (k_ rfl (k_ rfl ?_))))))))
  refine k_ rfl (pf tk (eB false) rfl rfl rfl (mm tk (eB false) rfl rfl (k_ rfl (k_ rfl (k_ rfl (k_ rfl (k_ rfl (pf tk (eB false) rfl rfl rfl ?_))))))))
  refine mm tk (eB false) rfl rfl (k_ rfl (k_ rfl (k_ rfl (k_ rfl (k_ rfl (pf tk (eB false) rfl rfl rfl (mm tk (eB false) rfl rfl (k_ rfl ?_))))))))
  refine k_ rfl (k_ rfl (k_ rfl (k_ rfl (pf tk (eB false) rfl rfl rfl (ma tk (eB false) rfl rfl (wpo_nil (awp_ret ?_)))))))
  obtain rfl := oi H3
  exact ⟨_, (eB false), rfl, wr, .of_eq ((enc_b td4 sz4).cut _ _ _), hH.noT⟩
theorem L26_works_ok  {r : Bool} (H : L26_works = some r) (σ : St)  (hg : σ.gl = gls) : ACall Tryd.prog 5 [] σ (fun a τ => a = eB r ∧ τ = σ) := by
 unfold L26_works at H
 refine ACall.pure (acall_start tk Tryd.func5 (by decide) rfl (nb rfl) ?_)
 have hH := Holds.init σ
 refine sr rfl (ma tk (eB false) rfl rfl (wpo_nil (sr rfl ?_)))
 refine wpo_cb H (fun _ id => .ref id 0) rfl rfl rfl (fun v2 hv => h_calln1 (B := (fun f c => [[(gC (f 1) 2 0 (c.l).length), (eI c.lost)], (gK e_lines_parcel 0 c.l)])) hH v2 rfl rfl .nil (lines_New_ok hv _)) fun v2 id3 τ hv2 H1 ⟨hH, n4⟩ => ?_
 obtain ⟨id3_l, h_id3_l⟩ : ∃ x, x = id3 + 1 := ⟨_, rfl⟩
 have hH : Holds σ [(id3, [(gC id3_l 2 0 (v2.l).length), (eI v2.lost)]), (id3_l, (gK e_lines_parcel 0 v2.l))] [] τ := by rw [h_id3_l]; exact hH
 have n4_1 : σ.objs.length ≤ id3_l := by omega
 refine ma tk (.ref id3 0) rfl rfl (wpo_nil (awp_seq (sr rfl (mm tk (.ref id3 0) rfl rfl (mc tk (eB false) rfl rfl (fun _ => rfl) (wpo_nil ?_))))))
 refine awp_false rfl ?_
 refine awp_skip (sr rfl ?_)
 refine l_ H1 e_api_Msg rfl (o_cw tk false (a := .agg ([(eI (1 : Int))] ++ [(eI (3 : Int))] ++ [AV.int .i64 0] ++ [(eI (1 : Int))] ++ [AV.int .i64 0] ++ [AV.str ⟨#[]⟩, AV.int .i64 0, AV.int .i64 0, AV.int .i64 0, AV.nils] ++ [AV.bool false])) rfl (fun _ => rfl) (wk_agg (WkL.append (WkL.append (WkL.append (WkL.append (WkL.append (WkL.append (.refl _) (.refl _)) (.cons wr .nil)) (.refl _)) (.cons wr .nil)) (.cons wr (.cons wr (.cons wr (.cons wr (.cons (by exact wk_nils _) .nil)))))) (.cons wr .nil)))) fun v6 H5 => ?_
 refine wpo_a (av := fun id => .ref id 0) rfl rfl rfl (h_allocw tk hH ty35 (c_api_Msg z_api_Msg) (.cons wr (.cons wr (.cons wr (.cons wr (.cons wr (.cons wr (.cons wr (.cons wr (.cons wr (.cons (by exact wk_nils _) (.cons wr .nil)))))))))))) fun id7 τ ⟨hH, n8⟩ => ?_
 obtain ⟨c10, hc11, H9⟩ := lt_ex H5
 refine wpo_z rfl rfl (h_st tk hH 0 rfl ty35 (by simp) rfl rfl wr (b := (e_api_Msg v6)) (enc35.flat _) rfl (nb rfl) (c_api_Msg c10) (by rw [← hc11]; rfl)) fun τ hH => ?_
 refine wpo_nil (sr rfl (mm tk (.ref id3 0) rfl rfl (wpo_rd (a := (e_api_Msg c10)) rfl rfl rfl (h_ld tk hH 0 rfl rfl rfl) ?_)))
 refine l_ H9 e_api_Msg rfl (o_cw tk false (a := .agg ([AV.int .i64 0] ++ [AV.int .i64 0] ++ [AV.int .i64 0] ++ [AV.int .i64 0] ++ [AV.int .i64 0] ++ [AV.str ⟨#[]⟩, AV.int .i64 0, AV.int .i64 0, AV.int .i64 0, AV.nils] ++ [AV.bool false])) rfl (fun _ => rfl) (wk_agg (WkL.append (WkL.append (WkL.append (WkL.append (WkL.append (WkL.append (.cons wr .nil) (.cons wr .nil)) (.cons wr .nil)) (.cons wr .nil)) (.cons wr .nil)) (.cons wr (.cons wr (.cons wr (.cons wr (.cons (by exact wk_nils _) .nil)))))) (.cons wr .nil)))) fun v13 H12 => ?_
 refine wpo_rd (a := (e_api_Msg c10)) rfl rfl rfl (h_ld tk hH 0 rfl rfl rfl) ?_
 refine l_ H12 (eF 11 e_api_Msg) rfl (o_c tk false rfl (fun _ => rfl)) fun v15 H14 => ?_
 refine wpo_cb H14 (fun x _ => .tup []) rfl rfl rfl (fun v17 hv => h_callg hH (fun i => [(1, (id3, [(gC (i + 0) 2 0 (v17.l).length), (eI v17.lost)])), (2, (id3_l, []))]) (fun _ => ⟨⟨_, rfl⟩, ⟨⟨_, rfl⟩, trivial⟩⟩) rfl rfl (.cons wr (.cons wk_no .nil)) (lines_Lines_Send_ok hv _ (hH.at_ 1 rfl) (hH.at_ 2 rfl) (hH.pw [1, 2] rfl (by decide)) .c)) fun v17 id19 τ hv17 H16 ⟨hH, n20⟩ => ?_
 have hH : Holds σ [(id19, (gK e_lines_parcel 0 v17.l)), (id7, (c_api_Msg c10)), (id3, [(gC id19 2 0 (v17.l).length), (eI v17.lost)]), (id3_l, (cL e_lines_parcel ([] : List lines_parcel)))] [] _ := hH
 have hH := hH.dropAt 3 rfl n4_1
 have hH : Holds σ [(id19, (gK e_lines_parcel 0 v17.l)), (id7, (c_api_Msg c10)), (id3, [(gC id19 2 0 (v17.l).length), (eI v17.lost)])] [] _ := hH
 refine wpo_nil (sr rfl (mm tk (.ref id3 0) rfl rfl ?_))
 refine wpo_cb H16 (fun x _ => eErr x.1) rfl rfl rfl (fun v22 hv => h_callg hH (fun i => [(2, (id3, [(gC (i + 0) 2 0 (v22.2.l).length), (eI v22.2.lost)])), (0, (id19, []))]) (fun _ => ⟨⟨_, rfl⟩, ⟨⟨_, rfl⟩, trivial⟩⟩) rfl rfl (.cons wr (.cons wr (.cons wr (.cons wr .nil)))) (lines_Lines_Spoil_ok hv _ (hH.at_ 2 rfl) (hH.at_ 0 rfl) (hH.pw [2, 0] rfl (by decide)) .c)) fun v22 id24 τ hv22 H21 ⟨hH, n25⟩ => ?_
 have hH : Holds σ [(id24, (gK e_lines_parcel 0 v22.2.l)), (id19, (cL e_lines_parcel ([] : List lines_parcel))), (id7, (c_api_Msg c10)), (id3, [(gC id24 2 0 (v22.2.l).length), (eI v22.2.lost)])] [] _ := hH
 have hH := hH.dropAt 1 rfl n20
 have hH : Holds σ [(id24, (gK e_lines_parcel 0 v22.2.l)), (id7, (c_api_Msg c10)), (id3, [(gC id24 2 0 (v22.2.l).length), (eI v22.2.lost)])] [] _ := hH
 refine ma tk (eErr v22.1) rfl rfl (wpo_nil (sr rfl (mm tk (.ref id3 0) rfl rfl ?_)))
 refine wpo_cb H21 (fun x _ => eErr x.1) rfl rfl rfl (fun v27 hv => h_callg hH (fun i => [(2, (id3, [(gC (i + 0) 2 0 (v27.2.l).length), (eI v27.2.lost)])), (0, (id24, []))]) (fun _ => ⟨⟨_, rfl⟩, ⟨⟨_, rfl⟩, trivial⟩⟩) rfl rfl (.cons wr (.cons wr (.cons wr (.cons wr .nil)))) (lines_Lines_Spoil_ok hv _ (hH.at_ 2 rfl) (hH.at_ 0 rfl) (hH.pw [2, 0] rfl (by decide)) .c)) fun v27 id29 τ hv27 H26 ⟨hH, n30⟩ => ?_
 have hH : Holds σ [(id29, (gK e_lines_parcel 0 v27.2.l)), (id24, (cL e_lines_parcel ([] : List lines_parcel))), (id7, (c_api_Msg c10)), (id3, [(gC id29 2 0 (v27.2.l).length), (eI v27.2.lost)])] [] _ := hH
 have hH := hH.dropAt 1 rfl n25
 have hH : Holds σ [(id29, (gK e_lines_parcel 0 v27.2.l)), (id7, (c_api_Msg c10)), (id3, [(gC id29 2 0 (v27.2.l).length), (eI v27.2.lost)])] [] _ := hH
 refine ma tk (eErr v27.1) rfl rfl (wpo_nil (sr rfl (mm tk (.ref id3 0) rfl rfl ?_)))
 refine wpo_cb H26 (fun x _ => eErr x.1) rfl rfl rfl (fun v32 hv => h_callg hH (fun i => [(2, (id3, [(gC (i + 0) 2 0 (v32.2.l).length), (eI v32.2.lost)])), (0, (id29, []))]) (fun _ => ⟨⟨_, rfl⟩, ⟨⟨_, rfl⟩, trivial⟩⟩) rfl rfl (.cons wr (.cons wr .nil)) (lines_Lines_Twice_ok hv _ (hH.at_ 2 rfl) (hH.at_ 0 rfl) (hH.pw [2, 0] rfl (by decide)) .c)) fun v32 id34 τ hv32 H31 ⟨hH, n35⟩ => ?_
 have hH : Holds σ [(id34, (gK e_lines_parcel 0 v32.2.l)), (id29, (cL e_lines_parcel ([] : List lines_parcel))), (id7, (c_api_Msg c10)), (id3, [(gC id34 2 0 (v32.2.l).length), (eI v32.2.lost)])] [] _ := hH
 have hH := hH.dropAt 1 rfl n30
 have hH : Holds σ [(id34, (gK e_lines_parcel 0 v32.2.l)), (id7, (c_api_Msg c10)), (id3, [(gC id34 2 0 (v32.2.l).length), (eI v32.2.lost)])] [] _ := hH
 refine ma tk (eErr v32.1) rfl rfl (wpo_nil (awp_seq ?_))
 refine AWP.reveal hH 2 0 0 rfl rfl rfl .c rfl (fun kc36 τ (hH : Holds σ [(id34, (gK e_lines_parcel kc36 v32.2.l)), (id7, (c_api_Msg c10)), (id3, [(gR id34 2 kc36 (v32.2.l).length), (eI v32.2.lost)])] [] τ) hle37 => ?_) (by decide)
 refine awp_region rfl (mm tk (.ref id3 0) rfl rfl ?_)
 refine wpo_cb H31 (fun x _ => .tup [e_api_Msg x.1, eErr x.2.1]) rfl rfl rfl (fun v39 hv => h_callg hH (fun i => [(2, (id3, [(gC (i + 0) 2 kc36 (v39.2.2.l).length), (eI v39.2.2.lost)])), (0, (id34, []))]) (fun _ => ⟨⟨_, rfl⟩, ⟨⟨_, rfl⟩, trivial⟩⟩) rfl rfl (.cons wr (.cons wr .nil)) (lines_Lines_Take_ok hv _ (hH.at_ 2 rfl) (hH.at_ 0 rfl) (hH.pw [2, 0] rfl (by decide)) hle37)) fun v39 id41 τ hv39 H38 ⟨hH, n42⟩ => ?_
 have hH : Holds σ [(id41, (gK e_lines_parcel kc36 v39.2.2.l)), (id34, (cL e_lines_parcel ([] : List lines_parcel))), (id7, (c_api_Msg c10)), (id3, [(gC id41 2 kc36 (v39.2.2.l).length), (eI v39.2.2.lost)])] [] _ := hH
 have hH := hH.dropAt 1 rfl n35
 have hH : Holds σ [(id41, (gK e_lines_parcel kc36 v39.2.2.l)), (id7, (c_api_Msg c10)), (id3, [(gC id41 2 kc36 (v39.2.2.l).length), (eI v39.2.2.lost)])] [] _ := hH
 refine mm tk (.tup [(e_api_Msg v39.1), (eErr v39.2.1)]) rfl rfl (m_ (e_api_Msg v39.1) rfl (o_ext tk rfl rfl) (m_ (eErr v39.2.1) rfl (o_ext tk rfl rfl) ?_))
 refine wpo_a (av := fun id => .ref id 0) rfl rfl rfl (h_allocw tk hH ty35 (c_api_Msg z_api_Msg) (.cons wr (.cons wr (.cons wr (.cons wr (.cons wr (.cons wr (.cons wr (.cons wr (.cons wr (.cons (by exact wk_nils _) (.cons wr .nil)))))))))))) fun id43 τ ⟨hH, n44⟩ => ?_
 obtain ⟨c46, hc47, H45⟩ := lt_ex H38
 refine wpo_z rfl rfl (h_st tk hH 0 rfl ty35 (by simp) rfl rfl wr (b := (e_api_Msg v39.1)) (enc35.flat _) rfl (nb rfl) (c_api_Msg c46) (by rw [← hc47]; rfl)) fun τ hH => ?_
 refine ma tk (eErr v39.2.1) rfl rfl (wpo_nil (awp_seq ?_))
 refine AWP.reveal hH 3 1 0 rfl rfl rfl .c rfl (fun kc48 τ (hH : Holds σ [(id43, (c_api_Msg c46)), (id41, (gK e_lines_parcel kc48 v39.2.2.l)), (id7, (c_api_Msg c10)), (id3, [(gR id41 2 kc48 (v39.2.2.l).length), (eI v39.2.2.lost)])] [] τ) hle49 => ?_) (by decide)
 refine awp_region rfl (mm tk (.ref id3 0) rfl rfl ?_)
 refine wpo_cb H45 (fun x _ => .tup [e_api_Msg x.1, eErr x.2.1]) rfl rfl rfl (fun v51 hv => h_callg hH (fun i => [(3, (id3, [(gC (i + 0) 2 kc48 (v51.2.2.l).length), (eI v51.2.2.lost)])), (1, (id41, []))]) (fun _ => ⟨⟨_, rfl⟩, ⟨⟨_, rfl⟩, trivial⟩⟩) rfl rfl (.cons wr (.cons wr .nil)) (lines_Lines_Take_ok hv _ (hH.at_ 3 rfl) (hH.at_ 1 rfl) (hH.pw [3, 1] rfl (by decide)) hle49)) fun v51 id53 τ hv51 H50 ⟨hH, n54⟩ => ?_
 have hH : Holds σ [(id53, (gK e_lines_parcel kc48 v51.2.2.l)), (id43, (c_api_Msg c46)), (id41, (cL e_lines_parcel ([] : List lines_parcel))), (id7, (c_api_Msg c10)), (id3, [(gC id53 2 kc48 (v51.2.2.l).length), (eI v51.2.2.lost)])] [] _ := hH
 have hH := hH.dropAt 2 rfl n42
 have hH : Holds σ [(id53, (gK e_lines_parcel kc48 v51.2.2.l)), (id43, (c_api_Msg c46)), (id7, (c_api_Msg c10)), (id3, [(gC id53 2 kc48 (v51.2.2.l).length), (eI v51.2.2.lost)])] [] _ := hH
 refine mm tk (.tup [(e_api_Msg v51.1), (eErr v51.2.1)]) rfl rfl (m_ (e_api_Msg v51.1) rfl (o_ext tk rfl rfl) (m_ (eErr v51.2.1) rfl (o_ext tk rfl rfl) ?_))
 refine wpo_a (av := fun id => .ref id 0) rfl rfl rfl (h_allocw tk hH ty35 (c_api_Msg z_api_Msg) (.cons wr (.cons wr (.cons wr (.cons wr (.cons wr (.cons wr (.cons wr (.cons wr (.cons wr (.cons (by exact wk_nils _) (.cons wr .nil)))))))))))) fun id55 τ ⟨hH, n56⟩ => ?_
 obtain ⟨c58, hc59, H57⟩ := lt_ex H50
 refine wpo_z rfl rfl (h_st tk hH 0 rfl ty35 (by simp) rfl rfl wr (b := (e_api_Msg v51.1)) (enc35.flat _) rfl (nb rfl) (c_api_Msg c58) (by rw [← hc59]; rfl)) fun τ hH => ?_
 refine ma tk (eErr v51.2.1) rfl rfl (wpo_nil (awp_seq ?_))
 refine AWP.reveal hH 4 1 0 rfl rfl rfl .c rfl (fun kc60 τ (hH : Holds σ [(id55, (c_api_Msg c58)), (id53, (gK e_lines_parcel kc60 v51.2.2.l)), (id43, (c_api_Msg c46)), (id7, (c_api_Msg c10)), (id3, [(gR id53 2 kc60 (v51.2.2.l).length), (eI v51.2.2.lost)])] [] τ) hle61 => ?_) (by decide)
 refine awp_region rfl (mm tk (.ref id3 0) rfl rfl ?_)
 refine wpo_cb H57 (fun x _ => eErr x.1) rfl rfl rfl (fun v63 hv => h_callg hH (fun i => [(4, (id3, [(gC (i + 0) 2 kc60 (v63.2.l).length), (eI v63.2.lost)])), (1, (id53, []))]) (fun _ => ⟨⟨_, rfl⟩, ⟨⟨_, rfl⟩, trivial⟩⟩) rfl rfl (.cons wr (.cons wr .nil)) (lines_Lines_Drop_ok hv _ (hH.at_ 4 rfl) (hH.at_ 1 rfl) (hH.pw [4, 1] rfl (by decide)) hle61)) fun v63 id65 τ hv63 H62 ⟨hH, n66⟩ => ?_
 have hH : Holds σ [(id65, (gK e_lines_parcel kc60 v63.2.l)), (id55, (c_api_Msg c58)), (id53, (cL e_lines_parcel ([] : List lines_parcel))), (id43, (c_api_Msg c46)), (id7, (c_api_Msg c10)), (id3, [(gC id65 2 kc60 (v63.2.l).length), (eI v63.2.lost)])] [] _ := hH
 have hH := hH.dropAt 2 rfl n54
 have hH : Holds σ [(id65, (gK e_lines_parcel kc60 v63.2.l)), (id55, (c_api_Msg c58)), (id43, (c_api_Msg c46)), (id7, (c_api_Msg c10)), (id3, [(gC id65 2 kc60 (v63.2.l).length), (eI v63.2.lost)])] [] _ := hH
 refine ma tk (eErr v63.1) rfl rfl (wpo_nil (sr rfl (mm tk (eErr v22.1) rfl rfl ?_)))
 refine l_ H62 eB rfl (o_err_eql tk rfl rfl rfl) fun v68 H67 => ?_
 refine mm tk (eB v68) rfl rfl ?_
 refine if_split H67 (fun hb H69 => ?_) (fun hb H69 => ?_)
 ·subst hb
  refine mm tk (eErr v27.1) rfl rfl ?_
  refine wpo_bdr H69 eI rfl rfl rfl (fun v71 hv => h_callr rfl rfl (.cons wr .nil) (trouble_Of_ok hv _ (hH.gl.trans hg))) fun v71 hv71 H70 => ?_
  refine l_ H70 eB rfl (o_ar tk rfl rfl rfl) fun v73 H72 => ?_
  refine pt tk (eB v73) rfl rfl rfl (mm tk (eB v73) rfl rfl ?_)
  refine if_split H72 (fun hb H74 => ?_) (fun hb H74 => ?_)
  ·subst hb
   refine mm tk (eErr v32.1) rfl rfl ?_
   refine l_ H74 eB rfl (o_err_eql tk rfl rfl rfl) fun v76 H75 => ?_
   refine pt tk (eB v76) rfl rfl rfl (mm tk (eB v76) rfl rfl ?_)
   refine if_split H75 (fun hb H77 => ?_) (fun hb H77 => ?_)
   ·subst hb
    refine mm tk (eErr v39.2.1) rfl rfl ?_
    refine wpo_bdr H77 eI rfl rfl rfl (fun v79 hv => h_callr rfl rfl (.cons wr .nil) (trouble_Of_ok hv _ (hH.gl.trans hg))) fun v79 hv79 H78 => ?_
    refine l_ H78 eB rfl (o_ar tk rfl rfl rfl) fun v81 H80 => ?_
    refine pt tk (eB v81) rfl rfl rfl (mm tk (eB v81) rfl rfl ?_)
    refine if_split H80 (fun hb H82 => ?_) (fun hb H82 => ?_)
    ·subst hb
     refine mm tk (eErr v51.2.1) rfl rfl ?_
     refine l_ H82 eB rfl (o_err_eql tk rfl rfl rfl) fun v84 H83 => ?_
     refine pt tk (eB v84) rfl rfl rfl (mm tk (eB v84) rfl rfl ?_)
     refine if_split H83 (fun hb H85 => ?_) (fun hb H85 => ?_)
     ·subst hb
      refine wpo_rd (a := (e_api_Msg c58)) rfl rfl rfl (h_ld tk hH 1 rfl rfl rfl) (wpo_rd (a := (e_api_Msg c10)) rfl rfl rfl (h_ld tk hH 3 rfl rfl rfl) ?_)
      refine b_ H85 eB rfl (fun v87 hv => OpP.of_call rfl rfl (.cons wr (.cons wr .nil)) (R23_Same_ok hv)) fun v87 hv87 H86 => ?_
      refine pt tk (eB v87) rfl rfl rfl (mm tk (eB v87) rfl rfl ?_)
      refine if_split H86 (fun hb H88 => ?_) (fun hb H88 => ?_)
      ·subst hb
       refine mm tk (eErr v63.1) rfl rfl ?_
       refine wpo_bdr H88 eI rfl rfl rfl (fun v90 hv => h_callr rfl rfl (.cons wr .nil) (trouble_Of_ok hv _ (hH.gl.trans hg))) fun v90 hv90 H89 => ?_
       refine l_ H89 eB rfl (o_ar tk rfl rfl rfl) fun v92 H91 => ?_
       refine pt tk (eB v92) rfl rfl rfl (mm tk (eB v92) rfl rfl ?_)
       refine if_split H91 (fun hb H93 => ?_) (fun hb H93 => ?_)
       ·subst hb
        refine mm tk (.ref id3 0) rfl rfl ?_
        refine wpo_bdr H93 eI rfl rfl rfl (fun v95 hv => h_callr rfl rfl (.cons wr .nil) (lines_Lines_Len_ok hv _ (hH.at_ 4 rfl) (hH.at_ 0 rfl) (hH.pw [4, 0] rfl (by decide)) .c)) fun v95 hv95 H94 => ?_
        refine l_ H94 eB rfl (o_ar tk rfl rfl rfl) fun v97 H96 => ?_
        refine pt tk (eB v97) rfl rfl rfl (mm tk (eB v97) rfl rfl ?_)
        refine if_split H96 (fun hb H98 => ?_) (fun hb H98 => ?_)
        ·subst hb
         refine mm tk (.ref id3 0) rfl rfl ?_
         refine wpo_bdr H98 eI rfl rfl rfl (fun v100 hv => h_callr rfl rfl (.cons wr .nil) (lines_Lines_Lost_ok hv _ (hH.at_ 4 rfl) (hH.at_ 0 rfl) (hH.pw [4, 0] rfl (by decide)) .c)) fun v100 hv100 H99 => ?_
         refine l_ H99 eB rfl (o_ar tk rfl rfl rfl) fun v102 H101 => ?_
         refine pt tk (eB v102) rfl rfl rfl (mm tk (eB v102) rfl rfl ?_)
         refine if_split H101 (fun hb H103 => ?_) (fun hb H103 => ?_)
         ·subst hb
          refine mm tk (.ref id3 0) rfl rfl ?_
          refine wpo_bdr H103 (eL 11 e_api_Msg) rfl rfl rfl (fun v105 hv => h_callr rfl rfl (.cons wr .nil) (lines_Lines_All_ok hv _ (hH.at_ 4 rfl) (hH.at_ 0 rfl) (hH.pw [4, 0] rfl (by decide)) .c)) fun v105 hv105 H104 => ?_
          refine l_ H104 eI rfl (o_len tk td27 rfl) fun v107 H106 => ?_
          refine l_ H106 eB rfl (o_ar tk rfl rfl rfl) fun v109 H108 => ?_
          refine pt tk (eB v109) rfl rfl rfl (ma tk (eB v109) rfl rfl (wpo_nil (awp_ret ?_)))
          obtain rfl := oi H108
          exact ⟨_, (eB v109), rfl, wr, .of_eq ((enc_b td4 sz4).cut _ _ _), (((((hH.noT.drop n66).drop n56).drop n44).drop n8).drop n4)⟩
         ·subst hb
          refine k_ rfl (k_ rfl (k_ rfl (k_ rfl (pf tk (eB false) rfl rfl rfl (ma tk (eB false) rfl rfl (wpo_nil (awp_ret ?_)))))))
          obtain rfl := oi H103
          exact ⟨_, (eB false), rfl, wr, .of_eq ((enc_b td4 sz4).cut _ _ _), (((((hH.noT.drop n66).drop n56).drop n44).drop n8).drop n4)⟩
        ·subst hb
         refine k_ rfl (k_ rfl (k_ rfl (pf tk (eB false) rfl rfl rfl (mm tk (eB false) rfl rfl (k_ rfl (k_ rfl (k_ rfl (k_ rfl ?_))))))))
         refine pf tk (eB false) rfl rfl rfl (ma tk (eB false) rfl rfl (wpo_nil (awp_ret ?_)))
         obtain rfl := oi H98
         exact ⟨_, (eB false), rfl, wr, .of_eq ((enc_b td4 sz4).cut _ _ _), (((((hH.noT.drop n66).drop n56).drop n44).drop n8).drop n4)⟩
       ·subst hb
        refine k_ rfl (k_ rfl (k_ rfl (pf tk (eB false) rfl rfl rfl (mm tk (eB false) rfl rfl (k_ rfl (k_ rfl (k_ rfl (pf tk (eB false) rfl rfl rfl ?_))))))))
        refine mm tk (eB false) rfl rfl (k_ rfl (k_ rfl (k_ rfl (k_ rfl (pf tk (eB false) rfl rfl rfl (ma tk (eB false) rfl rfl (wpo_nil (awp_ret ?_))))))))
        obtain rfl := oi H93
        exact ⟨_, (eB false), rfl, wr, .of_eq ((enc_b td4 sz4).cut _ _ _), (((((hH.noT.drop n66).drop n56).drop n44).drop n8).drop n4)⟩
      ·subst hb
       refine k_ rfl (k_ rfl (k_ rfl (pf tk (eB false) rfl rfl rfl (mm tk (eB false) rfl rfl (k_ rfl (k_ rfl (k_ rfl (pf tk (eB false) rfl rfl rfl ?_))))))))
       refine mm tk (eB false) rfl rfl (k_ rfl (k_ rfl (k_ rfl (pf tk (eB false) rfl rfl rfl (mm tk (eB false) rfl rfl (k_ rfl (k_ rfl (k_ rfl ?_))))))))
       refine k_ rfl (pf tk (eB false) rfl rfl rfl (ma tk (eB false) rfl rfl (wpo_nil (awp_ret ?_))))
       obtain rfl := oi H88
       exact ⟨_, (eB false), rfl, wr, .of_eq ((enc_b td4 sz4).cut _ _ _), (((((hH.noT.drop n66).drop n56).drop n44).drop n8).drop n4)⟩
     ·subst hb
      refine k_ rfl (k_ rfl (k_ rfl (pf tk (eB false) rfl rfl rfl (mm tk (eB false) rfl rfl (k_ rfl (k_ rfl (k_ rfl (pf tk (eB false) rfl rfl rfl ?_))))))))
      refine mm tk (eB false) rfl rfl (k_ rfl (k_ rfl (k_ rfl (pf tk (eB false) rfl rfl rfl (mm tk (eB false) rfl rfl (k_ rfl (k_ rfl (k_ rfl ?_))))))))
      refine pf tk (eB false) rfl rfl rfl (mm tk (eB false) rfl rfl (k_ rfl (k_ rfl (k_ rfl (k_ rfl (pf tk (eB false) rfl rfl rfl (ma tk (eB false) rfl rfl (wpo_nil ?_))))))))
      refine awp_ret ?_
      obtain rfl := oi H85
      exact ⟨_, (eB false), rfl, wr, .of_eq ((enc_b td4 sz4).cut _ _ _), (((((hH.noT.drop n66).drop n56).drop n44).drop n8).drop n4)⟩
    ·subst hb
     refine k_ rfl (k_ rfl (pf tk (eB false) rfl rfl rfl (mm tk (eB false) rfl rfl (k_ rfl (k_ rfl (k_ rfl (pf tk (eB false) rfl rfl rfl (mm tk (eB false) rfl rfl ?_))))))))
     refine k_ rfl (k_ rfl (k_ rfl (pf tk (eB false) rfl rfl rfl (mm tk (eB false) rfl rfl (k_ rfl (k_ rfl (k_ rfl (pf tk (eB false) rfl rfl rfl ?_))))))))
     refine mm tk (eB false) rfl rfl (k_ rfl (k_ rfl (k_ rfl (pf tk (eB false) rfl rfl rfl (mm tk (eB false) rfl rfl (k_ rfl (k_ rfl (k_ rfl ?_))))))))
     refine k_ rfl (pf tk (eB false) rfl rfl rfl (ma tk (eB false) rfl rfl (wpo_nil (awp_ret ?_))))
     obtain rfl := oi H82
     exact ⟨_, (eB false), rfl, wr, .of_eq ((enc_b td4 sz4).cut _ _ _), (((((hH.noT.drop n66).drop n56).drop n44).drop n8).drop n4)⟩
   ·subst hb
    refine k_ rfl (k_ rfl (k_ rfl (pf tk (eB false) rfl rfl rfl (mm tk (eB false) rfl rfl (k_ rfl (k_ rfl (pf tk (eB false) rfl rfl rfl (mm tk (eB false) rfl rfl ?_))))))))
    refine k_ rfl (k_ rfl (k_ rfl (pf tk (eB false) rfl rfl rfl (mm tk (eB false) rfl rfl (k_ rfl (k_ rfl (k_ rfl (pf tk (eB false) rfl rfl rfl ?_))))))))
    refine mm tk (eB false) rfl rfl (k_ rfl (k_ rfl (k_ rfl (pf tk (eB false) rfl rfl rfl (mm tk (eB false) rfl rfl (k_ rfl (k_ rfl (k_ rfl ?_))))))))
    refine pf tk (eB false) rfl rfl rfl (mm tk (eB false) rfl rfl (k_ rfl (k_ rfl (k_ rfl (k_ rfl (pf tk (eB false) rfl rfl rfl (ma tk (eB false) rfl rfl (wpo_nil ?_))))))))
    refine awp_ret ?_
    obtain rfl := oi H77
    exact ⟨_, (eB false), rfl, wr, .of_eq ((enc_b td4 sz4).cut _ _ _), (((((hH.noT.drop n66).drop n56).drop n44).drop n8).drop n4)⟩
  ·subst hb
   refine k_ rfl (k_ rfl (pf tk (eB false) rfl rfl rfl (mm tk (eB false) rfl rfl (k_ rfl (k_ rfl (k_ rfl (pf tk (eB false) rfl rfl rfl (mm tk (eB false) rfl rfl ?_))))))))
   refine k_ rfl (k_ rfl (pf tk (eB false) rfl rfl rfl (mm tk (eB false) rfl rfl (k_ rfl (k_ rfl (k_ rfl (pf tk (eB false) rfl rfl rfl (mm tk (eB false) rfl rfl ?_))))))))
   refine k_ rfl (k_ rfl (k_ rfl (pf tk (eB false) rfl rfl rfl (mm tk (eB false) rfl rfl (k_ rfl (k_ rfl (k_ rfl (pf tk (eB false) rfl rfl rfl ?_))))))))
   refine mm tk (eB false) rfl rfl (k_ rfl (k_ rfl (k_ rfl (pf tk (eB false) rfl rfl rfl (mm tk (eB false) rfl rfl (k_ rfl (k_ rfl (k_ rfl ?_))))))))
   refine k_ rfl (pf tk (eB false) rfl rfl rfl (ma tk (eB false) rfl rfl (wpo_nil (awp_ret ?_))))
   obtain rfl := oi H74
   exact ⟨_, (eB false), rfl, wr, .of_eq ((enc_b td4 sz4).cut _ _ _), (((((hH.noT.drop n66).drop n56).drop n44).drop n8).drop n4)⟩
 ·subst hb
  refine k_ rfl (k_ rfl (k_ rfl (pf tk (eB false) rfl rfl rfl (mm tk (eB false) rfl rfl (k_ rfl (k_ rfl (pf tk (eB false) rfl rfl rfl (mm tk (eB false) rfl rfl ?_))))))))
  refine k_ rfl (k_ rfl (k_ rfl (pf tk (eB false) rfl rfl rfl (mm tk (eB false) rfl rfl (k_ rfl (k_ rfl (pf tk (eB false) rfl rfl rfl (mm tk (eB false) rfl rfl ?_))))))))
  refine k_ rfl (k_ rfl (k_ rfl (pf tk (eB false) rfl rfl rfl (mm tk (eB false) rfl rfl (k_ rfl (k_ rfl (k_ rfl (pf tk (eB false) rfl rfl rfl ?_))))))))
  refine mm tk (eB false) rfl rfl (k_ rfl (k_ rfl (k_ rfl (pf tk (eB false) rfl rfl rfl (mm tk (eB false) rfl rfl (k_ rfl (k_ rfl (k_ rfl ?_))))))))
  refine pf tk (eB false) rfl rfl rfl (mm tk (eB false) rfl rfl (k_ rfl (k_ rfl (k_ rfl (k_ rfl (pf tk (eB false) rfl rfl rfl (ma tk (eB false) rfl rfl (wpo_nil ?_))))))))
  refine awp_ret ?_
  obtain rfl := oi H69
  exact ⟨_, (eB false), rfl, wr, .of_eq ((enc_b td4 sz4).cut _ _ _), (((((hH.noT.drop n66).drop n56).drop n44).drop n8).drop n4)⟩
theorem L26_LinesHonest_ok {x0 : List L26_Op} {r : Bool} (H : L26_LinesHonest x0 = some r) (σ : St)  (hg : σ.gl = gls) : ACall Tryd.prog 3 [((eL 5 e_L26_Op) x0)] σ (fun a τ => a = eB r ∧ τ = σ) := by
 unfold L26_LinesHonest at H
 refine ACall.pure (acall_start tk Tryd.func3 (by decide) rfl (nb rfl) ?_)
 have hH := Holds.init σ
 refine sr rfl (ma tk (eB false) rfl rfl (wpo_nil (awp_seq (sr rfl (mm tk ((eL 5 e_L26_Op) x0) rfl rfl ?_)))))
 refine b_ H eB rfl (fun v2 hv => OpP.of_call rfl rfl (.cons wr .nil) (L26_light_ok hv)) fun v2 hv2 H1 => ?_
 refine l_ H1 eB rfl (o_un tk rfl rfl) fun v4 H3 => ?_
 refine wpo_nil ?_
 refine awp_if H3 rfl (fun H5 => ?_) (fun H5 => ?_)
 ·refine sr rfl ?_
  refine wpo_bdr H5 eB rfl rfl rfl (fun v7 hv => h_callr rfl rfl .nil (L26_works_ok hv _ (hH.gl.trans hg))) fun v7 hv7 H6 => ?_
  refine ma tk (eB v7) rfl rfl (wpo_nil (awp_ret ?_))
  obtain rfl := oi H6
  exact ⟨_, (eB v7), rfl, wr, .of_eq ((enc_b td4 sz4).cut _ _ _), hH.noT⟩
 ·refine awp_skip (sr rfl ?_)
  refine wpo_cb H5 (fun _ id => .ref id 0) rfl rfl rfl (fun v9 hv => h_calln1 (B := (fun f c => [[(gC (f 1) 2 0 (c.l).length), (eI c.lost)], (gK e_lines_parcel 0 c.l)])) hH v9 rfl rfl .nil (lines_New_ok hv _)) fun v9 id10 τ hv9 H8 ⟨hH, n11⟩ => ?_
  obtain ⟨id10_l, h_id10_l⟩ : ∃ x, x = id10 + 1 := ⟨_, rfl⟩
  have hH : Holds σ [(id10, [(gC id10_l 2 0 (v9.l).length), (eI v9.lost)]), (id10_l, (gK e_lines_parcel 0 v9.l))] [] τ := by rw [h_id10_l]; exact hH
  have n11_1 : σ.objs.length ≤ id10_l := by omega
  refine ma tk (.ref id10 0) rfl rfl (wpo_nil (awp_seq (sr rfl (mm tk (.ref id10 0) rfl rfl (mc tk (eB false) rfl rfl (fun _ => rfl) (wpo_nil ?_))))))
  refine awp_false rfl ?_
  refine awp_skip (sr rfl (ma tk AV.nils rfl rfl (wpo_nil (sr rfl (ma tk (eI (0 : Int)) rfl rfl (wpo_nil (sr rfl (ma tk (eI (0 : Int)) rfl rfl ?_))))))))
  refine wpo_nil (awp_seq (sr rfl (ma tk (eI (0 : Int)) rfl rfl (wpo_nil (awp_block ?_)))))
  refine AWP.tokN hH 4 11 rfl fun tk18 τ hH => ?_
  obtain ⟨o19, hs20, hj21⟩ := ob H8
  refine awp_cutx 0 (fun fr τ => ∃ s26 : Int × Int × (List lines_parcel) × lines_Lines, o19 = .inl s26 ∧ ∃ id_id10_l c_id10_l, σ.objs.length ≤ id_id10_l ∧ WkF fr (fm [(3, (.ref id10 0)), (5, (eI s26.1)), (6, (eI s26.2.1))]) ∧ Holds σ [(id_id10_l, (gK e_lines_parcel c_id10_l s26.2.2.1)), (id10, [(gC id_id10_l 2 c_id10_l (s26.2.2.1).length), (eI s26.2.2.2.lost)])] [] τ) ?_ ?_
  ·rintro fr τ ⟨s26, rfl, id_id10_l, c_id10_l, n_id10_l, hfr, hH⟩
   have H151 := hj21
   simp only [Sum.elim_inl] at H151
   refine AWP.fm [(3, (.ref id10 0)), (5, (eI s26.1)), (6, (eI s26.2.1))] hfr ?_
   refine sr rfl (mm tk (eI s26.2.1) rfl rfl (mm tk (.ref id10 0) rfl rfl ?_))
   refine wpo_bdr H151 eI rfl rfl rfl (fun v153 hv => h_callr rfl rfl (.cons wr .nil) (lines_Lines_Lost_ok hv _ (hH.at_ 1 rfl) (hH.at_ 0 rfl) (hH.pw [1, 0] rfl (by decide)) .c)) fun v153 hv153 H152 => ?_
   refine l_ H152 eI rfl (o_ar tk rfl rfl rfl) fun v155 H154 => ?_
   refine mm tk (.ref id10 0) rfl rfl ?_
   refine wpo_bdr H154 eI rfl rfl rfl (fun v157 hv => h_callr rfl rfl (.cons wr .nil) (lines_Lines_Len_ok hv _ (hH.at_ 1 rfl) (hH.at_ 0 rfl) (hH.pw [1, 0] rfl (by decide)) .c)) fun v157 hv157 H156 => ?_
   refine l_ H156 eI rfl (o_ar tk rfl rfl rfl) fun v159 H158 => ?_
   refine mm tk (eI s26.1) rfl rfl ?_
   refine l_ H158 eB rfl (o_ar tk rfl rfl rfl) fun v161 H160 => ?_
   refine mm tk (eB v161) rfl rfl ?_
   refine if_split H160 (fun hb H162 => ?_) (fun hb H162 => ?_)
   ·subst hb
    refine wpo_bdr H162 eB rfl rfl rfl (fun v164 hv => h_callr rfl rfl .nil (L26_works_ok hv _ (hH.gl.trans hg))) fun v164 hv164 H163 => ?_
    refine pt tk (eB v164) rfl rfl rfl (ma tk (eB v164) rfl rfl (wpo_nil (awp_ret ?_)))
    obtain rfl := oi H163
    exact ⟨_, (eB v164), rfl, wr, .of_eq ((enc_b td4 sz4).cut _ _ _), ((hH.noT.drop n_id10_l).drop n11)⟩
   ·subst hb
    refine k_ rfl (pf tk (eB false) rfl rfl rfl (ma tk (eB false) rfl rfl (wpo_nil (awp_ret ?_))))
    obtain rfl := oi H162
    exact ⟨_, (eB false), rfl, wr, .of_eq ((enc_b td4 sz4).cut _ _ _), ((hH.noT.drop n_id10_l).drop n11)⟩
  ·refine awp_loopO (body := fun s => L26_LinesHonest_b0 x0 s.1 s.2.1 s.2.2.1 s.2.2.2.1 s.2.2.2.2.1 s.2.2.2.2.2) hs20 (fun (s : (List api_Msg) × Int × Int × Int × (List lines_parcel) × lines_Lines) fr τ => ∃ tk_4 id_id10_l c_id10_l, σ.objs.length ≤ id_id10_l ∧ WkF fr (fm [(0, ((eL 5 e_L26_Op) x0)), (3, (.ref id10 0)), (4, (eT tk_4 11 e_api_Msg s.1)), (5, (eI s.2.1)), (6, (eI s.2.2.1)), (7, (eI s.2.2.2.1))]) ∧ Holds σ [(id_id10_l, (gK e_lines_parcel c_id10_l s.2.2.2.2.1)), (id10, [(gC id_id10_l 2 c_id10_l (s.2.2.2.2.1).length), (eI s.2.2.2.2.2.lost)])] [tk_4] τ) ⟨tk18, id10_l, 0, n11_1, (wc (wc (wc (wc (wc (wc (wkf_nil _))))))), ((show Holds σ [(id10, [(gC id10_l 2 0 (v9.l).length), (eI v9.lost)]), (id10_l, (gK e_lines_parcel 0 v9.l))] [tk18] _ from hH).front 1 rfl)⟩ ?_
   rintro ⟨c12, c13, c14, c15, c16, c17⟩ fr τ y22 ⟨tk_4, id_id10_l, c_id10_l, n_id10_l, hfr, hH⟩ hb24 hy25
   have H27 : L26_LinesHonest_b0 x0 c12 c13 c14 c15 c16 c17 = some y22 := hb24
   unfold L26_LinesHonest_b0 at H27
   refine AWP.fm [(0, ((eL 5 e_L26_Op) x0)), (3, (.ref id10 0)), (4, (eT tk_4 11 e_api_Msg c12)), (5, (eI c13)), (6, (eI c14)), (7, (eI c15))] hfr ?_
   have hH : Holds σ [(id_id10_l, (gK e_lines_parcel c_id10_l c16)), (id10, [(gC id_id10_l 2 c_id10_l (c16).length), (eI c17.lost)])] [tk_4] τ := hH
   refine awp_seq (sr rfl (mm tk (eI c15) rfl rfl (mm tk ((eL 5 e_L26_Op) x0) rfl rfl ?_)))
   refine l_ H27 eI rfl (o_len tk td22 rfl) fun v29 H28 => ?_
   refine l_ H28 eB rfl (o_ar tk rfl rfl rfl) fun v31 H30 => ?_
   refine wpo_nil ?_
   refine awp_if H30 rfl (fun H32 => ?_) (fun H32 => ?_)
   ·refine awp_skip (awp_seq (awp_block (sr rfl (mm tk ((eL 5 e_L26_Op) x0) rfl rfl (mm tk (eI c15) rfl rfl ?_)))))
    refine b_ H32 (fun y => .fptr (e_L26_Op y).cells 0) rfl (fun v34 hv => o_ixa tk hv td22 enc29 rfl rfl) fun v34 hv34 H33 => ?_
    refine m_ (e_L26_Op v34) rfl (o_ld_e tk enc29 rfl rfl) ?_
    refine wpo_a (av := fun id => .ref id 0) rfl rfl rfl (h_alloc tk hH ty29 [(eI z_L26_Op.Kind), AV.nils, (eI z_L26_Op.I), (eI z_L26_Op.At), ((@eU .u8 8) z_L26_Op.By)] rfl) fun id35 τ ⟨hH, n36⟩ => ?_
    refine wpo_z rfl rfl (h_st tk hH 0 rfl ty29 (by simp) rfl rfl wr (b := (e_L26_Op v34)) (enc29.flat _) rfl (nb rfl) (c_L26_Op (v34 : L26_Op)) rfl) fun τ hH => ?_
    refine wpo_nil (sr rfl (mc tk (.ref id35 0) rfl rfl (fun _ => rfl) (wpo_rd (a := (eI (v34 : L26_Op).Kind)) rfl rfl rfl (h_ld tk hH 0 rfl rfl rfl) (wpo_nil (awp_block (sr rfl ?_))))))
    refine l_ H33 eB rfl (o_ar tk rfl rfl rfl) fun v39 H38 => ?_
    refine ma tk (eB v39) rfl rfl (wpo_nil ?_)
    refine awp_if H38 rfl (fun H40 => ?_) (fun H40 => ?_)
    ·refine sr rfl (mm tk (.ref id10 0) rfl rfl (mc tk (.ref id35 1) rfl rfl (fun _ => rfl) (wpo_rd (a := ((eL 11 e_api_Msg) (v34 : L26_Op).L)) rfl rfl rfl (h_ld tk hH 0 rfl rfl rfl) ?_)))
     refine wpo_cb H40 (fun x _ => .tup []) rfl rfl rfl (fun v42 hv => h_callg hH (fun i => [(2, (id10, [(gC (i + 0) 2 c_id10_l (v42.l).length), (eI v42.lost)])), (1, (id_id10_l, []))]) (fun _ => ⟨⟨_, rfl⟩, ⟨⟨_, rfl⟩, trivial⟩⟩) rfl rfl (.cons wr (.cons wr .nil)) (lines_Lines_Send_ok hv _ (hH.at_ 2 rfl) (hH.at_ 1 rfl) (hH.pw [2, 1] rfl (by decide)) .c)) fun v42 id44 τ hv42 H41 ⟨hH, n45⟩ => ?_
     have hH : Holds σ [(id44, (gK e_lines_parcel c_id10_l v42.l)), (id35, (c_L26_Op (v34 : L26_Op))), (id_id10_l, (cL e_lines_parcel ([] : List lines_parcel))), (id10, [(gC id44 2 c_id10_l (v42.l).length), (eI v42.lost)])] [tk_4] _ := hH
     have hH := hH.dropAt 2 rfl n_id10_l
     have hH : Holds σ [(id44, (gK e_lines_parcel c_id10_l v42.l)), (id35, (c_L26_Op (v34 : L26_Op))), (id10, [(gC id44 2 c_id10_l (v42.l).length), (eI v42.lost)])] [tk_4] _ := hH
     refine wpo_nil (sr rfl (mm tk (eT tk_4 11 e_api_Msg c12) rfl rfl (mc tk (.ref id35 1) rfl rfl (fun _ => rfl) (wpo_rd (a := ((eL 11 e_api_Msg) (v34 : L26_Op).L)) rfl rfl rfl (h_ld tk hH 1 rfl rfl rfl) ?_))))
     obtain ⟨v47, hv48, H46⟩ := ob H41
     refine wpo_a (av := fun t => eT t 11 e_api_Msg v47) rfl rfl rfl (h_app tk hH 0 hv48 rfl td27 ty35 rfl (by decide) rfl (src_l td27 rfl)) fun tk49 τ hH => ?_
     refine ma tk (eT tk49 11 e_api_Msg v47) rfl rfl (wpo_nil (awp_region rfl (mm tk (eI c13) rfl rfl (mc tk (.ref id35 1) rfl rfl (fun _ => rfl) (wpo_rd (a := ((eL 11 e_api_Msg) (v34 : L26_Op).L)) rfl rfl rfl (h_ld tk hH 1 rfl rfl rfl) ?_)))))
     refine l_ H46 eI rfl (o_len tk td27 rfl) fun v51 H50 => ?_
     refine l_ H50 eI rfl (o_ar tk rfl rfl rfl) fun v53 H52 => ?_
     refine ma tk (eI v53) rfl rfl (wpo_nil (awp_region rfl (mm tk (eI c15) rfl rfl ?_)))
     refine l_ H52 eI rfl (o_ar tk rfl rfl rfl) fun v55 H54 => ?_
     refine ma tk (eI v55) rfl rfl (wpo_nil ?_)
     exact ⟨(v47, v53, c14, v55, v42.l, v42), inj_inl H54, tk49, id44, c_id10_l, n45, (wc (wc (wc (wc (wc (wc (wkf_nil _))))))), (hH.dropAt 1 rfl n36)⟩
    ·refine sr rfl ?_
     refine l_ H40 eB rfl (o_ar tk rfl rfl rfl) fun v57 H56 => ?_
     refine ma tk (eB v57) rfl rfl (wpo_nil ?_)
     refine awp_if H56 rfl (fun H58 => ?_) (fun H58 => ?_)
     ·refine awp_seq ?_
      refine AWP.reveal hH 2 1 0 rfl rfl rfl .c rfl (fun kc59 τ (hH : Holds σ [(id35, (c_L26_Op (v34 : L26_Op))), (id_id10_l, (gK e_lines_parcel kc59 c16)), (id10, [(gR id_id10_l 2 kc59 (c16).length), (eI c17.lost)])] [tk_4] τ) hle60 => ?_) (by decide)
      refine awp_region rfl (mm tk (.ref id10 0) rfl rfl (mc tk (.ref id35 2) rfl rfl (fun _ => rfl) (wpo_rd (a := (eI (v34 : L26_Op).I)) rfl rfl rfl (h_ld tk hH 0 rfl rfl rfl) ?_)))
      refine wpo_cb H58 (fun x _ => .tup [e_api_Msg x.1, eErr x.2.1]) rfl rfl rfl (fun v62 hv => h_callg hH (fun i => [(2, (id10, [(gC (i + 0) 2 kc59 (v62.2.2.l).length), (eI v62.2.2.lost)])), (1, (id_id10_l, []))]) (fun _ => ⟨⟨_, rfl⟩, ⟨⟨_, rfl⟩, trivial⟩⟩) rfl rfl (.cons wr (.cons wr .nil)) (lines_Lines_Take_ok hv _ (hH.at_ 2 rfl) (hH.at_ 1 rfl) (hH.pw [2, 1] rfl (by decide)) hle60)) fun v62 id64 τ hv62 H61 ⟨hH, n65⟩ => ?_
      have hH : Holds σ [(id64, (gK e_lines_parcel kc59 v62.2.2.l)), (id35, (c_L26_Op (v34 : L26_Op))), (id_id10_l, (cL e_lines_parcel ([] : List lines_parcel))), (id10, [(gC id64 2 kc59 (v62.2.2.l).length), (eI v62.2.2.lost)])] [tk_4] _ := hH
      have hH := hH.dropAt 2 rfl n_id10_l
      have hH : Holds σ [(id64, (gK e_lines_parcel kc59 v62.2.2.l)), (id35, (c_L26_Op (v34 : L26_Op))), (id10, [(gC id64 2 kc59 (v62.2.2.l).length), (eI v62.2.2.lost)])] [tk_4] _ := hH
      refine mm tk (.tup [(e_api_Msg v62.1), (eErr v62.2.1)]) rfl rfl (m_ (e_api_Msg v62.1) rfl (o_ext tk rfl rfl) (m_ (eErr v62.2.1) rfl (o_ext tk rfl rfl) ?_))
      refine wpo_a (av := fun id => .ref id 0) rfl rfl rfl (h_allocw tk hH ty35 (c_api_Msg z_api_Msg) (.cons wr (.cons wr (.cons wr (.cons wr (.cons wr (.cons wr (.cons wr (.cons wr (.cons wr (.cons (by exact wk_nils _) (.cons wr .nil)))))))))))) fun id66 τ ⟨hH, n67⟩ => ?_
      obtain ⟨c69, hc70, H68⟩ := lt_ex H61
      refine wpo_z rfl rfl (h_st tk hH 0 rfl ty35 (by simp) rfl rfl wr (b := (e_api_Msg v62.1)) (enc35.flat _) rfl (nb rfl) (c_api_Msg c69) (by rw [← hc70]; rfl)) fun τ hH => ?_
      refine ma tk (eErr v62.2.1) rfl rfl (wpo_nil (awp_seq (sr rfl (mm tk (eErr v62.2.1) rfl rfl ?_))))
      refine l_ H68 eB rfl (o_err_neq tk rfl rfl rfl) fun v72 H71 => ?_
      refine wpo_nil ?_
      refine awp_if H71 rfl (fun H73 => ?_) (fun H73 => ?_)
      ·refine awp_exit (awp_region rfl (mm tk (eI c15) rfl rfl ?_))
       refine l_ H73 eI rfl (o_ar tk rfl rfl rfl) fun v75 H74 => ?_
       refine ma tk (eI v75) rfl rfl (wpo_nil ?_)
       exact ⟨(c12, c13, c14, v75, v62.2.2.l, v62.2.2), inj_inl H74, tk_4, id64, kc59, n65, (wc (wc (wc (wc (wc (wc (wkf_nil _))))))), ((hH.drop n67).dropAt 1 rfl n36)⟩
      ·refine awp_skip (sr rfl (ma tk (eB false) rfl rfl (wpo_nil (awp_seq (sr rfl (ma tk (eI (0 : Int)) rfl rfl (wpo_nil (awp_block ?_))))))))
       obtain ⟨s85, hs79, hj80⟩ := ob H73
       refine awp_cutx 3 (fun fr τ => ∃ tk_4, WkF fr (fm [(0, ((eL 5 e_L26_Op) x0)), (3, (.ref id10 0)), (4, (eT tk_4 11 e_api_Msg c12)), (5, (eI c13)), (6, (eI c14)), (7, (eI c15)), (11, (eB s85))]) ∧ Holds σ [(id66, (c_api_Msg c69)), (id64, (gK e_lines_parcel kc59 v62.2.2.l)), (id35, (c_L26_Op (v34 : L26_Op))), (id10, [(gC id64 2 kc59 (v62.2.2.l).length), (eI v62.2.2.lost)])] [tk_4] τ) ?_ ?_
       ·rintro fr τ ⟨tk_4, hfr, hH⟩
        have H101 := hj80
        refine AWP.fm [(0, ((eL 5 e_L26_Op) x0)), (3, (.ref id10 0)), (4, (eT tk_4 11 e_api_Msg c12)), (5, (eI c13)), (6, (eI c14)), (7, (eI c15)), (11, (eB s85))] hfr ?_
        refine awp_seq (sr rfl (mm tk (eB s85) rfl rfl ?_))
        refine l_ H101 eB rfl (o_un tk rfl rfl) fun v103 H102 => ?_
        refine wpo_nil ?_
        refine awp_if H102 rfl (fun H104 => ?_) (fun H104 => ?_)
        ·refine sr rfl (ma tk (eB false) rfl rfl (wpo_nil (awp_ret ?_)))
         have hz := hy25 _ (inj_inr H104)
         refine ⟨⟨_, inj_inr H104⟩, ?_⟩
         rw [← hz] at hj21
         have H105 := (show some _ = some _ from hj21)
         obtain rfl := oi H105
         exact ⟨_, (eB false), rfl, wr, .of_eq ((enc_b td4 sz4).cut _ _ _), ((((hH.noT.drop n67).drop n65).drop n36).drop n11)⟩
        ·refine awp_skip (awp_region rfl (mm tk (eI c14) rfl rfl ?_))
         refine l_ H104 eI rfl (o_ar tk rfl rfl rfl) fun v107 H106 => ?_
         refine ma tk (eI v107) rfl rfl (wpo_nil (awp_region rfl (mm tk (eI c15) rfl rfl ?_)))
         refine l_ H106 eI rfl (o_ar tk rfl rfl rfl) fun v109 H108 => ?_
         refine ma tk (eI v109) rfl rfl (wpo_nil ?_)
         exact ⟨(c12, c13, v107, v109, v62.2.2.l, v62.2.2), inj_inl H108, tk_4, id64, kc59, n65, (wc (wc (wc (wc (wc (wc (wkf_nil _))))))), ((hH.drop n67).dropAt 1 rfl n36)⟩
       ·refine awp_loopO (body := fun s => L26_LinesHonest_b1 x0 c12 c13 c14 c15 v34 v62 c69 s.1 s.2) hs79 (fun (s : Bool × Int) fr τ => ∃ tk_4, WkF fr (fm [(0, ((eL 5 e_L26_Op) x0)), (3, (.ref id10 0)), (4, (eT tk_4 11 e_api_Msg c12)), (5, (eI c13)), (6, (eI c14)), (7, (eI c15)), (9, (.ref id66 0)), (11, (eB s.1)), (12, (eI s.2))]) ∧ Holds σ [(id66, (c_api_Msg c69)), (id64, (gK e_lines_parcel kc59 v62.2.2.l)), (id35, (c_L26_Op (v34 : L26_Op))), (id10, [(gC id64 2 kc59 (v62.2.2.l).length), (eI v62.2.2.lost)])] [tk_4] τ) ⟨tk_4, (wc (wc (wc (wc (wc (wc (wc (wc (wc (wkf_nil _)))))))))), hH⟩ ?_
        rintro ⟨c76, c77⟩ fr τ y81 ⟨tk_4, hfr, hH⟩ hb83 hy84
        have H86 : L26_LinesHonest_b1 x0 c12 c13 c14 c15 v34 v62 c69 c76 c77 = some y81 := hb83
        unfold L26_LinesHonest_b1 at H86
        refine AWP.fm [(0, ((eL 5 e_L26_Op) x0)), (3, (.ref id10 0)), (4, (eT tk_4 11 e_api_Msg c12)), (5, (eI c13)), (6, (eI c14)), (7, (eI c15)), (9, (.ref id66 0)), (11, (eB c76)), (12, (eI c77))] hfr ?_
        have hH : Holds σ [(id66, (c_api_Msg c69)), (id64, (gK e_lines_parcel kc59 v62.2.2.l)), (id35, (c_L26_Op (v34 : L26_Op))), (id10, [(gC id64 2 kc59 (v62.2.2.l).length), (eI v62.2.2.lost)])] [tk_4] τ := hH
        refine awp_seq (sr rfl (mm tk (eI c77) rfl rfl (mm tk (eT tk_4 11 e_api_Msg c12) rfl rfl ?_)))
        refine l_ H86 eI rfl (o_len tk td27 rfl) fun v88 H87 => ?_
        refine l_ H87 eB rfl (o_ar tk rfl rfl rfl) fun v90 H89 => ?_
        refine wpo_nil ?_
        refine awp_if H89 rfl (fun H91 => ?_) (fun H91 => ?_)
        ·refine awp_skip (awp_seq (awp_block ?_))
         refine awp_drawS mixed [] rfl (by decide +kernel) rfl rfl ?_
         refine wpdS_mv (a := (eB c76)) rfl rfl rfl (o_mv tk rfl (Wk.refl _)) (wpdS_mv (a := (eB c76)) rfl rfl rfl (o_mv tk rfl (Wk.refl _)) ?_)
         refine if_split H91 (fun hb H92 => ?_) (fun hb H92 => ?_)
         ·subst hb
          refine wpdS_skip rfl rfl rfl (wpdS_skip rfl rfl rfl (wpdS_skip rfl rfl rfl (wpdS_skip rfl rfl rfl (wpdS_skip rfl rfl rfl (wpdS_skip rfl rfl rfl (wpdS_mv (a := (eB true)) rfl rfl rfl (o_pick_t tk rfl rfl (Wk.refl _)) (wpdS_mv (a := (eB true)) rfl rfl rfl (o_as tk rfl (Wk.refl _)) (wpdS_nil ?_))))))))
          refine awp_region rfl (mm tk (eI c77) rfl rfl ?_)
          refine l_ H92 eI rfl (o_ar tk rfl rfl rfl) fun v94 H93 => ?_
          refine ma tk (eI v94) rfl rfl (wpo_nil ?_)
          exact ⟨(true, v94), inj_inl H93, tk_4, (wc (wc (wc (wc (wc (wc (wc (wc (wc (wkf_nil _)))))))))), hH⟩
         ·subst hb
          refine wpdS_mv (a := (eT tk_4 11 e_api_Msg c12)) rfl rfl rfl (o_mv tk rfl (Wk.refl _)) (wpdS_mv (a := (eI c77)) rfl rfl rfl (o_mv tk rfl (Wk.refl _)) ?_)
          refine wpdS_bd H92 (fun y => .fptr (e_api_Msg y).cells 0) rfl rfl rfl (fun v96 hv => o_ixa tk hv td27 enc35 rfl rfl) fun v96 hv96 H95 => ?_
          refine wpdS_mv (a := (e_api_Msg v96)) rfl rfl rfl (o_ld_e tk enc35 rfl rfl) (wpdS_rd (a := (e_api_Msg c69)) rfl (by decide +kernel) rfl rfl (h_ld tk hH 0 rfl rfl rfl) ?_)
          refine wpdS_bd H95 eB rfl rfl rfl (fun v98 hv => OpP.of_call rfl rfl (.cons wr (.cons wr .nil)) (R23_Same_ok hv)) fun v98 hv98 H97 => ?_
          refine wpdS_mv (a := (eB v98)) rfl rfl rfl (o_pick_f tk rfl rfl (Wk.refl _)) (wpdS_mv (a := (eB v98)) rfl rfl rfl (o_as tk rfl (Wk.refl _)) (wpdS_nil (awp_region rfl (mm tk (eI c77) rfl rfl ?_))))
          refine l_ H97 eI rfl (o_ar tk rfl rfl rfl) fun v100 H99 => ?_
          refine ma tk (eI v100) rfl rfl (wpo_nil ?_)
          exact ⟨(v98, v100), inj_inl H99, tk_4, (wc (wc (wc (wc (wc (wc (wc (wc (wc (wkf_nil _)))))))))), hH⟩
        ·refine awp_exit ?_
         have hz := hy84 _ (inj_inr H91)
         subst hz
         exact ⟨⟨_, inj_inr H91⟩, tk_4, (wc (wc (wc (wc (wc (wc (wc (wkf_nil _)))))))), hH⟩
     ·refine sr rfl ?_
      refine l_ H58 eB rfl (o_ar tk rfl rfl rfl) fun v111 H110 => ?_
      refine ma tk (eB v111) rfl rfl (wpo_nil ?_)
      refine awp_if H110 rfl (fun H112 => ?_) (fun H112 => ?_)
      ·refine AWP.reveal hH 2 1 0 rfl rfl rfl .c rfl (fun kc113 τ (hH : Holds σ [(id35, (c_L26_Op (v34 : L26_Op))), (id_id10_l, (gK e_lines_parcel kc113 c16)), (id10, [(gR id_id10_l 2 kc113 (c16).length), (eI c17.lost)])] [tk_4] τ) hle114 => ?_) (by decide)
       refine awp_region rfl (mm tk (.ref id10 0) rfl rfl (mc tk (.ref id35 2) rfl rfl (fun _ => rfl) (wpo_rd (a := (eI (v34 : L26_Op).I)) rfl rfl rfl (h_ld tk hH 0 rfl rfl rfl) ?_)))
       refine wpo_cb H112 (fun x _ => eErr x.1) rfl rfl rfl (fun v116 hv => h_callg hH (fun i => [(2, (id10, [(gC (i + 0) 2 kc113 (v116.2.l).length), (eI v116.2.lost)])), (1, (id_id10_l, []))]) (fun _ => ⟨⟨_, rfl⟩, ⟨⟨_, rfl⟩, trivial⟩⟩) rfl rfl (.cons wr (.cons wr .nil)) (lines_Lines_Drop_ok hv _ (hH.at_ 2 rfl) (hH.at_ 1 rfl) (hH.pw [2, 1] rfl (by decide)) hle114)) fun v116 id118 τ hv116 H115 ⟨hH, n119⟩ => ?_
       have hH : Holds σ [(id118, (gK e_lines_parcel kc113 v116.2.l)), (id35, (c_L26_Op (v34 : L26_Op))), (id_id10_l, (cL e_lines_parcel ([] : List lines_parcel))), (id10, [(gC id118 2 kc113 (v116.2.l).length), (eI v116.2.lost)])] [tk_4] _ := hH
       have hH := hH.dropAt 2 rfl n_id10_l
       have hH : Holds σ [(id118, (gK e_lines_parcel kc113 v116.2.l)), (id35, (c_L26_Op (v34 : L26_Op))), (id10, [(gC id118 2 kc113 (v116.2.l).length), (eI v116.2.lost)])] [tk_4] _ := hH
       refine wpo_nil (awp_region rfl (mm tk (eI c15) rfl rfl ?_))
       refine l_ H115 eI rfl (o_ar tk rfl rfl rfl) fun v121 H120 => ?_
       refine ma tk (eI v121) rfl rfl (wpo_nil ?_)
       exact ⟨(c12, c13, c14, v121, v116.2.l, v116.2), inj_inl H120, tk_4, id118, kc113, n119, (wc (wc (wc (wc (wc (wc (wkf_nil _))))))), (hH.dropAt 1 rfl n36)⟩
      ·refine sr rfl ?_
       refine l_ H112 eB rfl (o_ar tk rfl rfl rfl) fun v123 H122 => ?_
       refine ma tk (eB v123) rfl rfl (wpo_nil ?_)
       refine awp_if H122 rfl (fun H124 => ?_) (fun H124 => ?_)
       ·refine sr rfl (mm tk (.ref id10 0) rfl rfl (mc tk (.ref id35 2) rfl rfl (fun _ => rfl) (wpo_rd (a := (eI (v34 : L26_Op).I)) rfl rfl rfl (h_ld tk hH 0 rfl rfl rfl) ?_)))
        refine wpo_cb H124 (fun x _ => eErr x.1) rfl rfl rfl (fun v126 hv => h_callg hH (fun i => [(2, (id10, [(gC (i + 0) 2 c_id10_l (v126.2.l).length), (eI v126.2.lost)])), (1, (id_id10_l, []))]) (fun _ => ⟨⟨_, rfl⟩, ⟨⟨_, rfl⟩, trivial⟩⟩) rfl rfl (.cons wr (.cons wr .nil)) (lines_Lines_Twice_ok hv _ (hH.at_ 2 rfl) (hH.at_ 1 rfl) (hH.pw [2, 1] rfl (by decide)) .c)) fun v126 id128 τ hv126 H125 ⟨hH, n129⟩ => ?_
        have hH : Holds σ [(id128, (gK e_lines_parcel c_id10_l v126.2.l)), (id35, (c_L26_Op (v34 : L26_Op))), (id_id10_l, (cL e_lines_parcel ([] : List lines_parcel))), (id10, [(gC id128 2 c_id10_l (v126.2.l).length), (eI v126.2.lost)])] [tk_4] _ := hH
        have hH := hH.dropAt 2 rfl n_id10_l
        have hH : Holds σ [(id128, (gK e_lines_parcel c_id10_l v126.2.l)), (id35, (c_L26_Op (v34 : L26_Op))), (id10, [(gC id128 2 c_id10_l (v126.2.l).length), (eI v126.2.lost)])] [tk_4] _ := hH
        refine l_ H125 eB rfl (o_err_eql tk rfl rfl rfl) fun v131 H130 => ?_
        refine wpo_nil ?_
        refine awp_if H130 rfl (fun H132 => ?_) (fun H132 => ?_)
        ·refine awp_region rfl (mm tk (eI c13) rfl rfl ?_)
         refine l_ H132 eI rfl (o_ar tk rfl rfl rfl) fun v134 H133 => ?_
         refine ma tk (eI v134) rfl rfl (wpo_nil (awp_region rfl (mm tk (eI c15) rfl rfl ?_)))
         refine l_ H133 eI rfl (o_ar tk rfl rfl rfl) fun v136 H135 => ?_
         refine ma tk (eI v136) rfl rfl (wpo_nil ?_)
         exact ⟨(c12, v134, c14, v136, v126.2.l, v126.2), inj_inl H135, tk_4, id128, c_id10_l, n129, (wc (wc (wc (wc (wc (wc (wkf_nil _))))))), (hH.dropAt 1 rfl n36)⟩
        ·refine awp_skip (awp_region rfl (mm tk (eI c15) rfl rfl ?_))
         refine l_ H132 eI rfl (o_ar tk rfl rfl rfl) fun v138 H137 => ?_
         refine ma tk (eI v138) rfl rfl (wpo_nil ?_)
         exact ⟨(c12, c13, c14, v138, v126.2.l, v126.2), inj_inl H137, tk_4, id128, c_id10_l, n129, (wc (wc (wc (wc (wc (wc (wkf_nil _))))))), (hH.dropAt 1 rfl n36)⟩
       ·refine sr rfl ?_
        refine l_ H124 eB rfl (o_ar tk rfl rfl rfl) fun v140 H139 => ?_
        refine ma tk (eB v140) rfl rfl (wpo_nil ?_)
        refine awp_if H139 rfl (fun H141 => ?_) (fun H141 => ?_)
        ·refine awp_region rfl (mm tk (.ref id10 0) rfl rfl (mc tk (.ref id35 2) rfl rfl (fun _ => rfl) (wpo_rd (a := (eI (v34 : L26_Op).I)) rfl rfl rfl (h_ld tk hH 0 rfl rfl rfl) (mc tk (.ref id35 3) rfl rfl (fun _ => rfl) (wpo_rd (a := (eI (v34 : L26_Op).At)) rfl rfl rfl (h_ld tk hH 0 rfl rfl rfl) (mc tk (.ref id35 4) rfl rfl (fun _ => rfl) (wpo_rd (a := ((@eU .u8 8) (v34 : L26_Op).By)) rfl rfl rfl (h_ld tk hH 0 rfl rfl rfl) ?_)))))))
         refine wpo_cb H141 (fun x _ => eErr x.1) rfl rfl rfl (fun v143 hv => h_callg hH (fun i => [(2, (id10, [(gC (i + 0) 2 c_id10_l (v143.2.l).length), (eI v143.2.lost)])), (1, (id_id10_l, []))]) (fun _ => ⟨⟨_, rfl⟩, ⟨⟨_, rfl⟩, trivial⟩⟩) rfl rfl (.cons wr (.cons wr (.cons wr (.cons wr .nil)))) (lines_Lines_Spoil_ok hv _ (hH.at_ 2 rfl) (hH.at_ 1 rfl) (hH.pw [2, 1] rfl (by decide)) .c)) fun v143 id145 τ hv143 H142 ⟨hH, n146⟩ => ?_
         have hH : Holds σ [(id145, (gK e_lines_parcel c_id10_l v143.2.l)), (id35, (c_L26_Op (v34 : L26_Op))), (id_id10_l, (cL e_lines_parcel ([] : List lines_parcel))), (id10, [(gC id145 2 c_id10_l (v143.2.l).length), (eI v143.2.lost)])] [tk_4] _ := hH
         have hH := hH.dropAt 2 rfl n_id10_l
         have hH : Holds σ [(id145, (gK e_lines_parcel c_id10_l v143.2.l)), (id35, (c_L26_Op (v34 : L26_Op))), (id10, [(gC id145 2 c_id10_l (v143.2.l).length), (eI v143.2.lost)])] [tk_4] _ := hH
         refine wpo_nil (awp_region rfl (mm tk (eI c15) rfl rfl ?_))
         refine l_ H142 eI rfl (o_ar tk rfl rfl rfl) fun v148 H147 => ?_
         refine ma tk (eI v148) rfl rfl (wpo_nil ?_)
         exact ⟨(c12, c13, c14, v148, v143.2.l, v143.2), inj_inl H147, tk_4, id145, c_id10_l, n146, (wc (wc (wc (wc (wc (wc (wkf_nil _))))))), (hH.dropAt 1 rfl n36)⟩
        ·refine awp_skip (awp_region rfl (mm tk (eI c15) rfl rfl ?_))
         refine l_ H141 eI rfl (o_ar tk rfl rfl rfl) fun v150 H149 => ?_
         refine ma tk (eI v150) rfl rfl (wpo_nil ?_)
         exact ⟨(c12, c13, c14, v150, c16, c17), inj_inl H149, tk_4, id_id10_l, c_id10_l, n_id10_l, (wc (wc (wc (wc (wc (wc (wkf_nil _))))))), (hH.drop n36)⟩
   ·refine awp_exit ?_
    have hz := hy25 _ (inj_inr H32)
    exact ⟨⟨_, inj_inr H32⟩, (c13, c14, c16, c17), hz.symm, id_id10_l, c_id10_l, n_id10_l, (wc (wc (wc (wkf_nil _)))), hH.noT⟩
end Go.Proofs.YtedcgeghgbgonaaDoor
namespace Go.Va
open Go
set_option linter.unusedVariables false
set_option linter.unusedSimpArgs false
theorem shr64_nat {n m : Nat} (h : m ≤ 64) : shr64 (n : Int) m = ((n / 2 ^ m : Nat) : Int) := by
  unfold shr64
  rw [Nat.min_eq_left h]
  have : (2 : Int) ^ m = ((2 ^ m : Nat) : Int) := by simp
  rw [this, Int.fdiv_eq_ediv_of_nonneg _ (Int.natCast_nonneg _), ← Int.natCast_ediv]
theorem or_low (a b : Nat) (h : b < 128) : a * 128 ||| b = a * 128 + b := by
  have := Nat.two_pow_add_eq_or_of_lt (i := 7) (b := b) (by omega) a
  rw [show 2 ^ 7 * a + b = a * 128 + b by omega, show 2 ^ 7 * a = a * 128 by omega] at this
  exact this.symm
theorem or64_nat {a b : Nat} (ha : a < 9223372036854775808) (hb : b < 9223372036854775808) : or64 (a : Int) (b : Int) = ((a ||| b : Nat) : Int) := by
  have h : a ||| b < 2 ^ 63 := Nat.or_lt_two_pow (by omega) (by omega)
  show w64 ((BitVec.ofInt 64 (a : Int) ||| BitVec.ofInt 64 (b : Int) : BitVec 64).toNat : Int) = _
  rw [BitVec.toNat_or, BitVec.toNat_ofInt, BitVec.toNat_ofInt]
  have e1 : ((a : Int) % ((2 ^ 64 : Nat) : Int)).toNat = a := by omega
  have e2 : ((b : Int) % ((2 ^ 64 : Nat) : Int)).toNat = b := by omega
  rw [e1, e2, w64_eq (by omega) (by omega)]
theorem shl64_7 {a : Nat} (ha : a < 72057594037927936) : shl64 (a : Int) 7 = ((a * 128 : Nat) : Int) := by
  unfold shl64
  rw [w64_eq] <;> simp <;> omega
theorem or64_7 {a b : Nat} (ha : a < 72057594037927936) (hb : b < 128) : or64 (shl64 (a : Int) 7) (b : Int) = ((a * 128 + b : Nat) : Int) := by
  rw [shl64_7 ha, or64_nat (by omega) (by omega), or_low a b hb]
theorem byte_and (x : BitVec 8) : (x &&& 127#8).toNat = x.toNat % 128 := by
  rw [BitVec.toNat_and, show (127#8).toNat = 2 ^ 7 - 1 from rfl, Nat.and_two_pow_sub_one_eq_mod]
theorem byte_or (x : BitVec 8) : x ||| 128#8 = BitVec.ofNat 8 (x.toNat % 128 + 128) := by
  have : ∀ y : Fin 256, (BitVec.ofFin y : BitVec 8) ||| 128#8 = BitVec.ofNat 8 ((BitVec.ofFin y : BitVec 8).toNat % 128 + 128) := by decide +kernel
  exact this x.toFin
theorem byte_and' (x : BitVec 8) : x &&& 127#8 = BitVec.ofNat 8 (x.toNat % 128) := by
  apply BitVec.eq_of_toNat_eq
  rw [byte_and]; simp
  have := x.isLt
  omega
theorem byte_int (n : Nat) : BitVec.ofInt 8 (n : Int) = BitVec.ofNat 8 n := by
  apply BitVec.eq_of_toNat_eq
  simp [BitVec.toNat_ofInt]
theorem byte_hi (n : Nat) : BitVec.ofInt 8 (n : Int) ||| 128#8 = BitVec.ofNat 8 (n % 128 + 128) := by
  rw [byte_int, byte_or]; congr 1; simp
theorem byte_lo (n : Nat) : BitVec.ofInt 8 (n : Int) &&& 127#8 = BitVec.ofNat 8 (n % 128) := by
  rw [byte_int, byte_and']; congr 1; simp
def pre (m : Nat) : List (BitVec 8) := if m = 0 then [] else pre (m / 128) ++ [BitVec.ofNat 8 (m % 128 + 128)]
termination_by m
decreasing_by omega
def num7 (n : Nat) : List (BitVec 8) := pre (n / 128) ++ [BitVec.ofNat 8 (n % 128)]
theorem pre_zero : pre 0 = [] := by rw [pre]; rfl
theorem pre_pos {m : Nat} (h : 0 < m) : pre m = pre (m / 128) ++ [BitVec.ofNat 8 (m % 128 + 128)] := by
  rw [pre, if_neg (by omega)]
theorem pre_len : ∀ (k m : Nat), m < 128 ^ k → (pre m).length ≤ k
  | 0, m, h => by
    have : m = 0 := by simpa using h
    subst this; rw [pre_zero]; simp
  | k + 1, m, h => by
    by_cases h0 : m = 0
    · subst h0; rw [pre_zero]; simp
    · rw [pre_pos (by omega)]
      have := pre_len k (m / 128) (by rw [Nat.div_lt_iff_lt_mul (by decide)]; rw [Nat.pow_succ] at h; exact h)
      simp; exact this
theorem num7_len {n : Nat} (h : n < 9223372036854775808) : (num7 n).length ≤ 9 := by
  have := pre_len 8 (n / 128) (by omega)
  simp [num7]; omega
def seq7 (n : Nat) : Nat → List (BitVec 8)
  | 0 => []
  | c + 1 => BitVec.ofNat 8 (n / 128 ^ (c + 1) % 128 + 128) :: seq7 n c
theorem seq7_snoc (n : Nat) : ∀ c, seq7 n (c + 1) = seq7 (n / 128) c ++ [BitVec.ofNat 8 (n / 128 % 128 + 128)]
  | 0 => by simp [seq7]
  | c + 1 => by
    rw [seq7, seq7_snoc n c, seq7]
    simp only [List.cons_append]
    rw [Nat.div_div_eq_div_mul, ← Nat.pow_succ']
theorem seq7_pre : ∀ (h n : Nat), n / 128 ^ h < 128 → (∀ j, j < h → 128 ≤ n / 128 ^ j) → seq7 n h = pre (n / 128)
  | 0, n, h1, h2 => by
    rw [show n / 128 = 0 by simp at h1; omega, pre_zero]; rfl
  | h + 1, n, h1, h2 => by
    have h0 := h2 0 (by omega)
    simp at h0
    rw [seq7_snoc, pre_pos (by omega), seq7_pre h (n / 128) (by rw [Nat.div_div_eq_div_mul, ← Nat.pow_succ']; exact h1) (fun j hj => by
      rw [Nat.div_div_eq_div_mul, ← Nat.pow_succ']; exact h2 (j + 1) (by omega))]
def nlen (n : Nat) : Nat := if n < 128 then 1 else nlen (n / 128) + 1
termination_by n
decreasing_by omega
def up7 : Int ⊕ (Nat × Nat) → Int ⊕ (Nat × Nat)
  | .inl e => .inl e
  | .inr (m, k) => .inr (m, k + 1)
def rd7 (most : Nat) : List (BitVec 8) → Bool → Nat → Int ⊕ (Nat × Nat)
  | [], _, _ => .inl 6
  | c :: l, f, n =>
    if c = 128#8 ∧ f = true then .inl 5 else if most / 128 < n then .inl 2 else
    if 128 ≤ c.toNat then up7 (rd7 most l false (n * 128 + c.toNat % 128))
    else if most < n * 128 + c.toNat then .inl 2 else .inr (n * 128 + c.toNat, 1)
theorem rd7_le {most : Nat} : ∀ {l : List (BitVec 8)} {f : Bool} {n m k : Nat}, rd7 most l f n = .inr (m, k) → m ≤ most ∧ 1 ≤ k ∧ k ≤ l.length
  | [], f, n, m, k, h => by simp [rd7] at h
  | c :: l, f, n, m, k, h => by
    simp only [rd7] at h
    split at h
    · cases h
    · split at h
      · cases h
      · split at h
        · cases hr : rd7 most l false (n * 128 + c.toNat % 128) with
          | inl e => rw [hr] at h; cases h
          | inr p =>
            obtain ⟨m', k'⟩ := p
            rw [hr] at h
            simp only [up7, Sum.inr.injEq, Prod.mk.injEq] at h
            obtain ⟨rfl, rfl⟩ := h
            have := rd7_le hr
            simp; omega
        · split at h
          · cases h
          · simp only [Sum.inr.injEq, Prod.mk.injEq] at h
            obtain ⟨rfl, rfl⟩ := h
            simp; omega
end Go.Va
namespace Go.Proofs.YtedcgeghgbgonaaDoor
open Go Go.Va
set_option linter.unusedVariables false
set_option linter.unusedSimpArgs false
theorem same_eq (x y : List (BitVec 8)) (hx : x.length < 9223372036854775807) : R02_Same x y = some (decide (x = y)) := by
  unfold R02_Same
  simp only [lt_eq]
  by_cases hl : x.length = y.length
  · rw [if_neg (by simp [hl])]
    have h := loopO_find (body := fun s => R02_Same_b0 x y s) (fun i : Nat => (i : Int)) x.length (fun i => if x[i]? ≠ y[i]? then some (Sum.inr false) else none) (x := .inl ()) (fun i hi => by
      simp only [R02_Same_b0, lt_eq, ix_nat hi, ix_nat (show i < y.length by omega), Option.bind_some]
      rw [if_pos (by simpa using hi)]
      by_cases he : x[i] = y[i]
      · rw [if_neg (by simp [he]), if_neg (by simp [hi, show i < y.length by omega, he]), w64_nat (by omega)]; rfl
      · rw [if_pos (by simpa using he), if_pos (by simp [hi, show i < y.length by omega, he])]; rfl) (by simp [R02_Same_b0, lt_eq])
    rw [show ((0 : Nat) : Int) = 0 from rfl] at h
    simp only [R02_Same_l0, h, Option.bind_some]
    by_cases he : x = y
    · rw [List.findSome?_eq_none_iff.2 (fun i _ => by rw [if_neg (by simp [he])])]
      simp [he]
    · cases hf : (List.range x.length).findSome? (fun i => if x[i]? ≠ y[i]? then some (Sum.inr (α := Unit) false) else none) with
      | none =>
        refine absurd (List.ext_getElem? fun i => ?_) he
        have h1 := List.findSome?_eq_none_iff.1 hf
        rcases Nat.lt_or_ge i x.length with hi | hi
        · have := h1 i (by simpa using hi)
          by_cases hne : x[i]? = y[i]?
          · exact hne
          · rw [if_pos hne] at this; cases this
        · rw [List.getElem?_eq_none hi, List.getElem?_eq_none (by omega)]
      | some w =>
        obtain ⟨i, _, h2⟩ := List.exists_of_findSome?_eq_some hf
        split at h2
        · cases h2; simp [he]
        · cases h2
  · rw [if_pos (by simpa using fun e => hl (by exact_mod_cast e))]
    rw [decide_eq_false (fun e => hl (by rw [e]))]
def nums (l : List Int) : List (BitVec 8) := l.flatMap fun n => num7 n.toNat
def okN (l : List Int) : Prop := l.length ≤ 1000 ∧ ∀ n ∈ l, 0 ≤ n ∧ n ≤ 9223372036854775807
theorem nums_len : ∀ {l : List Int}, (∀ n ∈ l, 0 ≤ n ∧ n ≤ 9223372036854775807) → (nums l).length ≤ 9 * l.length
  | [], _ => Nat.le_refl _
  | n :: l, h => by
    have h1 := nums_len (l := l) (fun m hm => h m (List.mem_cons_of_mem _ hm))
    have h2 := h n List.mem_cons_self
    have h3 := num7_len (n := n.toNat) (by omega)
    simp only [nums, List.flatMap_cons, List.length_append, List.length_cons] at h1 ⊢
    omega
theorem nums_snoc (l : List Int) (n : Int) : nums (l ++ [n]) = nums l ++ num7 n.toNat := by simp [nums]
theorem oct_l1 (l : List Int) (v6 : Int) (c7 : List (BitVec 8)) (c8 : Int) {n : Nat} (hn : n < 9223372036854775808) : ∃ h : Nat, octets_Put_l1 l v6 c7 c8 (n : Int) 0 = some (h : Int) ∧ h ≤ 9 ∧ n / 128 ^ h < 128 ∧ ∀ j, j < h → 128 ≤ n / 128 ^ j := by
  have key := loopO_inv (body := fun s => octets_Put_b1 l v6 c7 c8 (n : Int) s) (fun s => ∃ h : Nat, s = (h : Int) ∧ h ≤ 9 ∧ ∀ j, j < h → 128 ≤ n / 128 ^ j) (fun s => 10 - s.toNat) (fun x => ∃ h : Nat, x = (h : Int) ∧ h ≤ 9 ∧ n / 128 ^ h < 128 ∧ ∀ j, j < h → 128 ≤ n / 128 ^ j) (fun s => by
    rintro ⟨h, rfl, h9, hj⟩
    have ew : w64 (7 * (h : Int)) = ((7 * h : Nat) : Int) := by rw [w64_eq (by omega) (by omega)]; omega
    have es : shr64 (n : Int) (7 * h) = ((n / 128 ^ h : Nat) : Int) := by
      rw [shr64_nat (by omega), Nat.pow_mul]
    simp only [octets_Put_b1, lt_eq, ew, sc_eq (Int.natCast_nonneg _), Int.toNat_natCast, Option.map_some, Option.bind_some, es]
    by_cases hc : 128 ≤ n / 128 ^ h
    · left
      have h8 : h ≤ 8 := by
        rcases Nat.lt_or_ge 8 h with h8 | h8
        · have : h = 9 := by omega
          subst this
          omega
        · exact h8
      refine ⟨((h + 1 : Nat) : Int), ?_, ⟨h + 1, rfl, by omega, fun j hj' => ?_⟩, by omega⟩
      · rw [if_pos (decide_eq_true (show ((n / 128 ^ h : Nat) : Int) ≥ 128 by omega)), w64_nat (by omega)]
      · by_cases e : j = h
        · subst e; exact hc
        · exact hj j (by omega)
    · right
      exact ⟨_, by rw [if_neg (by rw [decide_eq_false (show ¬ ((n / 128 ^ h : Nat) : Int) ≥ 128 by omega)]; simp)], h, rfl, h9, by omega, hj⟩) (s := 0) ⟨0, rfl, by omega, fun j hj => by omega⟩
  obtain ⟨x, h1, h, rfl, h2⟩ := key
  exact ⟨h, h1, h2⟩
theorem oct_l2 (l : List Int) (v6 : Int) (c8 : Int) {n : Nat} : ∀ (h : Nat) (out : List (BitVec 8)), h ≤ 9 → out.length + h ≤ 100000000 → octets_Put_l2 l v6 c8 (n : Int) (out, (h : Int)) = some (out ++ seq7 n h)
  | 0, out, h9, hl => by
    simp only [seq7, List.append_nil]
    exact loopO_out (by simp [octets_Put_b2, lt_eq])
  | h + 1, out, h9, hl => by
    have ew : w64 (7 * ((h + 1 : Nat) : Int)) = ((7 * (h + 1) : Nat) : Int) := by rw [w64_eq (by omega) (by omega)]; omega
    have es : shr64 (n : Int) (7 * (h + 1)) = ((n / 128 ^ (h + 1) : Nat) : Int) := by
      rw [shr64_nat (by omega), Nat.pow_mul]
    have hb : octets_Put_b2 l v6 c8 (n : Int) out ((h + 1 : Nat) : Int) = some (.inl (out ++ [BitVec.ofNat 8 (n / 128 ^ (h + 1) % 128 + 128)], (h : Int))) := by
      simp only [octets_Put_b2, lt_eq, ew, sc_eq (Int.natCast_nonneg _), Int.toNat_natCast, Option.map_some, Option.bind_some, es]
      rw [if_pos (decide_eq_true (by omega)), app_eq (by simp; omega), byte_hi, w64_eq (by omega) (by omega)]
      simp only [Option.bind_some]
      rw [show (((h + 1 : Nat) : Int) - 1) = (h : Int) by omega]
    have := loopO_in (body := fun s => octets_Put_b2 l v6 c8 (n : Int) s.1 s.2) (s := (out, ((h + 1 : Nat) : Int))) hb
    rw [octets_Put_l2, this]
    have ih := oct_l2 l v6 c8 (n := n) h (out ++ [BitVec.ofNat 8 (n / 128 ^ (h + 1) % 128 + 128)]) (by omega) (by simp; omega)
    rw [octets_Put_l2] at ih
    rw [ih, seq7, List.append_assoc]; rfl
theorem octPut_eq (b : List (BitVec 8)) {l : List Int} (hb : b.length ≤ 1000000) (hl : okN l) : octets_Put b l = some (b ++ nums l) := by
  simp only [octets_Put]
  rw [app_eq (by simp; omega)]
  simp only [List.nil_append, Option.bind_some, lt_eq]
  have h := loopO_up (body := fun s => octets_Put_b0 l (l.length : Int) s.1 s.2) (fun i => (b ++ nums (l.take i), (i : Int))) l.length (x := b ++ nums l) (fun i hi => by
    obtain ⟨hn0, hn1⟩ := hl.2 _ (List.getElem_mem hi)
    obtain ⟨n, hn⟩ : ∃ n : Nat, l[i] = (n : Int) := ⟨l[i].toNat, by omega⟩
    have hlt : n < 9223372036854775808 := by omega
    have h1 := nums_len (l := l.take i) (fun m hm => hl.2 m (List.mem_of_mem_take hm))
    have h3 := hl.1
    simp only [List.length_take] at h1
    obtain ⟨h, k1, k2, k3, k4⟩ := oct_l1 l (l.length : Int) (b ++ nums (l.take i)) (i : Int) hlt
    have h2 := num7_len hlt
    have hs := seq7_pre h n k3 k4
    simp only [octets_Put_b0, lt_eq, ix_nat hi, Option.bind_some, hn, k1]
    rw [oct_l2 l _ _ h _ k2 (by simp only [List.length_append]; omega), hs]
    have h2' : (pre (n / 128)).length ≤ 9 := by simp [num7] at h2; omega
    simp only [Option.bind_some, byte_lo]
    rw [if_pos (by simpa using hi), app_eq (by simp only [List.length_append, List.length_cons, List.length_nil]; omega), w64_nat (by omega)]
    simp only [Option.bind_some]
    rw [List.take_succ_eq_append_getElem hi, nums_snoc, hn, Int.toNat_natCast, num7]
    simp only [List.append_assoc]) (by simp [octets_Put_b0, lt_eq])
  simp only [octets_Put_l0]
  have h0 : b ++ nums (l.take 0) = b := by simp [nums]
  rw [h0] at h
  rw [show ((0 : Nat) : Int) = 0 from rfl] at h
  rw [h]; rfl
theorem okN_one {n : Nat} (h : n < 9223372036854775808) : okN [(n : Int)] := ⟨by simp, fun m hm => by simp at hm; omega⟩
theorem octBytes_eq (b t : List (BitVec 8)) (hb : b.length ≤ 1000000) (ht : t.length ≤ 1000000) : octets_Bytes b t = some (b ++ num7 t.length ++ t) := by
  have h2 := num7_len (n := t.length) (by omega)
  simp only [octets_Bytes, lt_eq, octPut_eq b hb (okN_one (n := t.length) (by omega)), Option.bind_some, nums, List.flatMap_cons, List.flatMap_nil, List.append_nil, Int.toNat_natCast]
  rw [app_eq (by simp only [List.length_append]; omega)]; rfl
def wd (n : BitVec 64) (i : Nat) : List (BitVec 8) := (List.range i).map fun j => (n >>> (56 - 8 * j)).setWidth 8
theorem drop_cons {b l : List (BitVec 8)} {c : BitVec 8} {pos : Nat} (h : b.drop pos = c :: l) : ∃ hp : pos < b.length, b[pos] = c ∧ b.drop (pos + 1) = l := by
  have hp : pos < b.length := by
    rcases Nat.lt_or_ge pos b.length with h1 | h1
    · exact h1
    · rw [List.drop_of_length_le h1] at h; cases h
  rw [List.drop_eq_getElem_cons hp] at h
  simp only [List.cons.injEq] at h
  exact ⟨hp, h.1, h.2⟩
theorem fail_eq (b : List (BitVec 8)) (a e : Int) : octets_Reader_Fail ⟨b, a, 0⟩ e = some ⟨b, a, e⟩ := rfl
def oOut (b : List (BitVec 8)) (a pos : Nat) : Int ⊕ (Nat × Nat) → octets_Reader ⊕ (Int × octets_Reader)
  | .inl e => .inl ⟨b, a, e⟩
  | .inr (m, k) => .inr ((m : Int), ⟨b, ((pos + k : Nat) : Int), 0⟩)
theorem oOut_go (b : List (BitVec 8)) (a pos : Nat) (r : Int ⊕ (Nat × Nat)) : oOut b a pos (up7 r) = oOut b a (pos + 1) r := by
  cases r with
  | inl e => rfl
  | inr p => simp only [up7, oOut]; rw [show pos + (p.2 + 1) = pos + 1 + p.2 by omega]
theorem octNum_stop (most : Int) (b : List (BitVec 8)) (n pos a e : Int) (he : e ≠ 0) : octets_Reader_Number_l0 most (n, pos, ⟨b, a, e⟩) = some (.inl ⟨b, a, e⟩) :=
  loopO_out (by simp [octets_Reader_Number_b0, lt_eq, he])
theorem le_byte (c : BitVec 8) : (128#8 ≤ c) ↔ 128 ≤ c.toNat := by rw [BitVec.le_def]; rfl
theorem octNum_l {b : List (BitVec 8)} {most a : Nat} (hb : b.length ≤ 1000000) (hm : most < 9223372036854775808) : ∀ (l : List (BitVec 8)) (pos n : Nat) (f : Bool), b.drop pos = l → pos ≤ b.length → (f = true → n = 0 ∧ pos = a) → (f = false → a < pos) → n < 9223372036854775808 →
    octets_Reader_Number_l0 (most : Int) ((n : Int), (pos : Int), ⟨b, (a : Int), 0⟩) = some (oOut b a pos (rd7 most l f n))
  | [], pos, n, f, hl, hp, _, _, _ => by
    have hlen : pos = b.length := by
      have := congrArg List.length hl
      simp at this; omega
    refine loopO_out ?_
    simp only [octets_Reader_Number_b0, lt_eq]
    rw [if_pos (by rfl), if_pos (decide_eq_true (by omega)), fail_eq]
    rfl
  | c :: l, pos, n, f, hl, hp, hf, hg, hn => by
    obtain ⟨hlt, hc, hd⟩ := drop_cons hl
    have e0 : w64 ((pos : Int) + 1) = ((pos + 1 : Nat) : Int) := w64_nat (by omega)
    have e1 : w64 ((a : Int) + 1) = ((a + 1 : Nat) : Int) := by
      have : a ≤ pos := by cases f with | true => have := (hf rfl).2; omega | false => have := hg rfl; omega
      exact w64_nat (by omega)
    have e2 : shr64 (most : Int) 7 = ((most / 128 : Nat) : Int) := by rw [shr64_nat (by omega)]
    have hcl := c.isLt
    have hcond : (if (c == 128#8) = true then (if ((n : Int) == 0) = true then some (((pos + 1 : Nat) : Int) == ((a + 1 : Nat) : Int)) else some false) else some false) = some (decide (c = 128#8 ∧ f = true)) := by
      by_cases h1 : c = 128#8
      · rw [if_pos (by simp [h1])]
        cases f with
        | true =>
          obtain ⟨rfl, rfl⟩ := hf rfl
          simp [h1]
        | false =>
          have := hg rfl
          split
          · have : (((pos + 1 : Nat) : Int) == ((a + 1 : Nat) : Int)) = false := by simp; omega
            rw [this]; simp
          · simp
      · rw [if_neg (by simpa using h1)]; simp [h1]
    have hb0 : octets_Reader_Number_b0 (most : Int) (n : Int) (pos : Int) ⟨b, (a : Int), 0⟩ =
        if c = 128#8 ∧ f = true then some (.inl ((n : Int), ((pos + 1 : Nat) : Int), ⟨b, (a : Int), 5⟩)) else if most / 128 < n then some (.inl ((n : Int), ((pos + 1 : Nat) : Int), ⟨b, (a : Int), 2⟩)) else
        if 128 ≤ c.toNat then some (.inl (((n * 128 + c.toNat % 128 : Nat) : Int), ((pos + 1 : Nat) : Int), ⟨b, (a : Int), 0⟩)) else
        if most < n * 128 + c.toNat then some (.inl (((n * 128 + c.toNat : Nat) : Int), ((pos + 1 : Nat) : Int), ⟨b, (a : Int), 2⟩)) else some (.inr (.inr (((n * 128 + c.toNat : Nat) : Int), ⟨b, ((pos + 1 : Nat) : Int), 0⟩))) := by
      simp only [octets_Reader_Number_b0, lt_eq]
      rw [if_pos (by rfl), if_neg (by rw [decide_eq_false (by omega)]; simp), ix_nat hlt, hc]
      simp only [Option.bind_some, e0, e1, e2]
      rw [hcond]
      simp only [Option.bind_some, decide_eq_true_eq]
      by_cases h1 : c = 128#8 ∧ f = true
      · rw [if_pos h1, if_pos h1, fail_eq]; rfl
      · rw [if_neg h1, if_neg h1]
        by_cases h2 : most / 128 < n
        · rw [if_pos (by omega), if_pos h2, fail_eq]; rfl
        · rw [if_neg (by omega), if_neg h2]
          by_cases h3 : 128 ≤ c.toNat
          · rw [if_pos ((le_byte c).2 h3), if_pos h3, byte_and, or64_7 (by omega) (by omega)]
          · rw [if_neg (fun h => h3 ((le_byte c).1 h)), if_neg h3, or64_7 (by omega) (by omega)]
            by_cases h4 : most < n * 128 + c.toNat
            · rw [if_pos (by omega), if_pos h4, fail_eq]; rfl
            · rw [if_neg (by omega), if_neg h4]
    have step : ∀ (s' : Int × Int × octets_Reader), octets_Reader_Number_b0 (most : Int) (n : Int) (pos : Int) ⟨b, (a : Int), 0⟩ = some (.inl s') → octets_Reader_Number_l0 (most : Int) ((n : Int), (pos : Int), ⟨b, (a : Int), 0⟩) = octets_Reader_Number_l0 (most : Int) s' := fun s' h => loopO_in (body := fun s => octets_Reader_Number_b0 (most : Int) s.1 s.2.1 s.2.2) h
    simp only [rd7]
    by_cases h1 : c = 128#8 ∧ f = true
    · rw [if_pos h1] at hb0 ⊢
      rw [step _ hb0, octNum_stop _ _ _ _ _ _ (by decide)]; rfl
    · rw [if_neg h1] at hb0 ⊢
      by_cases h2 : most / 128 < n
      · rw [if_pos h2] at hb0 ⊢
        rw [step _ hb0, octNum_stop _ _ _ _ _ _ (by decide)]; rfl
      · rw [if_neg h2] at hb0 ⊢
        by_cases h3 : 128 ≤ c.toNat
        · rw [if_pos h3] at hb0 ⊢
          rw [step _ hb0, octNum_l hb hm l (pos + 1) (n * 128 + c.toNat % 128) false hd (by omega) (by simp) (fun _ => by cases f with | true => have := (hf rfl).2; omega | false => have := hg rfl; omega) (by omega), oOut_go]
        · rw [if_neg h3] at hb0 ⊢
          by_cases h4 : most < n * 128 + c.toNat
          · rw [if_pos h4] at hb0 ⊢
            rw [step _ hb0, octNum_stop _ _ _ _ _ _ (by decide)]; rfl
          · rw [if_neg h4] at hb0 ⊢
            exact loopO_out (body := fun s => octets_Reader_Number_b0 (most : Int) s.1 s.2.1 s.2.2) hb0
def rdN (b : List (BitVec 8)) (a most : Nat) : Nat × Nat × Int := match rd7 most (b.drop a) true 0 with
  | .inl e => (0, a, e)
  | .inr (m, k) => (m, a + k, 0)
theorem octNum_eq {b : List (BitVec 8)} {a most : Nat} (hb : b.length ≤ 1000000) (ha : a ≤ b.length) (hm : most < 9223372036854775808) : octets_Reader_Number ⟨b, a, 0⟩ most = some (((rdN b a most).1 : Int), ⟨b, ((rdN b a most).2.1 : Int), (rdN b a most).2.2⟩) := by
  simp only [octets_Reader_Number]
  have := octNum_l hb hm (b.drop a) a 0 true rfl ha (fun _ => ⟨rfl, rfl⟩) (fun h => by cases h) (by omega)
  rw [show ((0 : Nat) : Int) = 0 from rfl] at this
  rw [this]
  unfold rdN
  cases rd7 most (b.drop a) true 0 with
  | inl e => rfl
  | inr p => rfl
theorem rdN_le {b : List (BitVec 8)} {a most : Nat} (ha : a ≤ b.length) : (rdN b a most).2.1 ≤ b.length ∧ a ≤ (rdN b a most).2.1 ∧ (rdN b a most).1 ≤ most ∧ ((rdN b a most).2.2 ≠ 0 → (rdN b a most).1 = 0 ∧ (rdN b a most).2.1 = a) := by
  unfold rdN
  cases h : rd7 most (b.drop a) true 0 with
  | inl e => exact ⟨ha, Nat.le_refl _, Nat.zero_le _, fun _ => ⟨rfl, rfl⟩⟩
  | inr p =>
    have := rd7_le h
    simp only [List.length_drop] at this
    exact ⟨by simp only; omega, by simp only; omega, this.1, fun h => absurd rfl h⟩
theorem rdN_off {b : List (BitVec 8)} {a : Int} {most e : Int} (he : e ≠ 0) : octets_Reader_Number ⟨b, a, e⟩ most = some (0, ⟨b, a, e⟩) := by
  simp only [octets_Reader_Number, octNum_stop _ _ _ _ _ _ he]; rfl
theorem left_eq {b : List (BitVec 8)} {a : Nat} {e : Int} (hb : b.length ≤ 1000000) (ha : a ≤ b.length) : octets_Reader_Left ⟨b, a, e⟩ = some ((b.length - a : Nat) : Int) := by
  simp only [octets_Reader_Left, lt_eq]
  rw [w64_eq (by omega) (by omega)]
  congr 1; omega
def stp (a : BitVec 64) (c : BitVec 8) : BitVec 64 := a <<< 8 ||| c.setWidth 64
def word (l : List (BitVec 8)) : BitVec 64 := l.foldl stp 0#64
def cut8 (b : List (BitVec 8)) (a : Nat) : List (BitVec 8) := (b.take (a + 8)).drop a
def rdB (b : List (BitVec 8)) (a most : Nat) : List (BitVec 8) × Nat × Int :=
  if (rdN b a most).2.2 ≠ 0 then ([], (rdN b a most).2.1, (rdN b a most).2.2) else
  if b.length < (rdN b a most).2.1 + (rdN b a most).1 then ([], a, 6) else ((b.take ((rdN b a most).2.1 + (rdN b a most).1)).drop (rdN b a most).2.1, (rdN b a most).2.1 + (rdN b a most).1, 0)
theorem octBytesR_eq {b : List (BitVec 8)} {a most : Nat} (hb : b.length ≤ 1000000) (ha : a ≤ b.length) (hm : most < 9223372036854775808) : octets_Reader_Bytes ⟨b, a, 0⟩ most = some ((rdB b a most).1, ⟨b, ((rdB b a most).2.1 : Int), (rdB b a most).2.2⟩) := by
  simp only [octets_Reader_Bytes, octNum_eq hb ha hm, Option.bind_some, lt_eq]
  obtain ⟨h1, h2, h3, h4⟩ := rdN_le (most := most) ha
  unfold rdB
  generalize rdN b a most = z at *
  obtain ⟨n, p, e⟩ := z
  simp only at *
  by_cases he : e = 0
  · subst he
    rw [if_neg (by simp), if_neg (by simp), left_eq hb h1]
    simp only [Option.bind_some]
    by_cases hc : b.length < p + n
    · rw [if_pos hc, if_pos (decide_eq_true (by omega)), fail_eq]; rfl
    · rw [if_neg hc, if_neg (by rw [decide_eq_false (by omega)]; simp), w64_eq (by omega) (by omega), show (p : Int) + (n : Int) = ((p + n : Nat) : Int) by omega, cutO_eq (by omega) (by omega)]
      simp only [Option.bind_some]
      rw [app_eq (by simp; omega)]; rfl
  · rw [if_pos (by simpa using he), if_pos he]
theorem octBytesR_off {b : List (BitVec 8)} {a e most : Int} (he : e ≠ 0) : octets_Reader_Bytes ⟨b, a, e⟩ most = some ([], ⟨b, a, e⟩) := by
  simp [octets_Reader_Bytes, rdN_off he, lt_eq, he]
theorem rdB_le {b : List (BitVec 8)} {a most : Nat} (ha : a ≤ b.length) : (rdB b a most).2.1 ≤ b.length ∧ a ≤ (rdB b a most).2.1 ∧ (rdB b a most).1.length ≤ b.length := by
  obtain ⟨h1, h2, h3, h4⟩ := rdN_le (most := most) ha
  unfold rdB
  generalize rdN b a most = z at *
  obtain ⟨n, p, e⟩ := z
  simp only at *
  split
  · exact ⟨h1, h2, by simp⟩
  · split
    · exact ⟨ha, Nat.le_refl _, by simp⟩
    · exact ⟨by simp only; omega, by simp only; omega, by simp; omega⟩
theorem end_eq {b : List (BitVec 8)} {a : Nat} {e : Int} (hb : b.length ≤ 1000000) (ha : a ≤ b.length) : octets_Reader_End ⟨b, a, e⟩ = some (if e = 0 ∧ a < b.length then 5 else e, ⟨b, a, if e = 0 ∧ a < b.length then 5 else e⟩) := by
  simp only [octets_Reader_End, left_eq hb ha, Option.bind_some, lt_eq]
  by_cases h : a < b.length
  · rw [if_pos (decide_eq_true (by omega))]
    by_cases he : e = 0
    · subst he; rw [fail_eq]; simp [h]
    · simp [octets_Reader_Fail, lt_eq, he]
  · rw [if_neg (by rw [decide_eq_false (by omega)]; simp)]; simp [h]
theorem read_eq {b : List (BitVec 8)} (hb : b.length ≤ 1000000) : octets_Read b = some ⟨b, 0, 0⟩ := by
  simp only [octets_Read, lt_eq]
  rw [app_eq (by simp; omega)]; rfl
def upN (k : Nat) : Int ⊕ (Nat × Nat) → Int ⊕ (Nat × Nat)
  | .inl e => .inl e
  | .inr (m, j) => .inr (m, k + j)
theorem upN_up (k : Nat) (r : Int ⊕ (Nat × Nat)) : upN k (up7 r) = upN (k + 1) r := by
  cases r with
  | inl e => rfl
  | inr p => simp only [up7, upN]; rw [show k + (p.2 + 1) = k + 1 + p.2 by omega]
theorem rd7_pre {most : Nat} : ∀ (k q : Nat), q < 128 ^ k → q ≤ most / 128 → ∀ l, rd7 most (pre q ++ l) true 0 = upN (pre q).length (rd7 most l (decide (q = 0)) q)
  | 0, q, h, hq, l => by
    have : q = 0 := by simpa using h
    subst this
    rw [pre_zero]
    simp only [List.nil_append, List.length_nil, decide_true]
    cases rd7 most l true 0 with
    | inl e => rfl
    | inr p => simp [upN]
  | k + 1, q, h, hq, l => by
    by_cases h0 : q = 0
    · subst h0
      rw [pre_zero]
      simp only [List.nil_append, List.length_nil, decide_true]
      cases rd7 most l true 0 with
      | inl e => rfl
      | inr p => simp [upN]
    · rw [pre_pos (by omega), List.append_assoc, rd7_pre k (q / 128) (by rw [Nat.div_lt_iff_lt_mul (by decide)]; rw [Nat.pow_succ] at h; exact h) (by omega)]
      have hc : (BitVec.ofNat 8 (q % 128 + 128)).toNat = q % 128 + 128 := by simp; omega
      simp only [List.singleton_append, rd7]
      rw [if_neg (by
        rintro ⟨h1, h2⟩
        have h1 := congrArg BitVec.toNat h1
        rw [hc] at h1
        have h1 : q % 128 + 128 = 128 := h1
        have h2 : q / 128 = 0 := by simpa using h2
        omega), if_neg (by omega), if_pos (by omega), hc, upN_up]
      rw [show q / 128 * 128 + (q % 128 + 128) % 128 = q by omega, decide_eq_false h0]
      simp
theorem rd7_num {most m : Nat} (hm : m ≤ most) (hm2 : m < 9223372036854775808) (l : List (BitVec 8)) : rd7 most (num7 m ++ l) true 0 = .inr (m, (num7 m).length) := by
  rw [num7, List.append_assoc, rd7_pre 9 (m / 128) (by omega) (by omega)]
  have hc : (BitVec.ofNat 8 (m % 128)).toNat = m % 128 := by simp; omega
  simp only [List.singleton_append, rd7]
  rw [if_neg (by
    rintro ⟨h1, h2⟩
    have h1 := congrArg BitVec.toNat h1
    rw [hc] at h1
    have h1 : m % 128 = 128 := h1
    omega), if_neg (by omega), if_neg (by omega), if_neg (by omega), hc, show m / 128 * 128 + m % 128 = m by omega]
  simp [upN]
theorem rdN_num {b l : List (BitVec 8)} {a most m : Nat} (h : b.drop a = num7 m ++ l) (hm : m ≤ most) (hm2 : m < 9223372036854775808) : rdN b a most = (m, a + (num7 m).length, 0) := by
  rw [rdN, h, rd7_num hm hm2]
structure rdr where
  a : Nat
  e : Int
def rdr.o (r : rdr) (b : List (BitVec 8)) : octets_Reader := ⟨b, r.a, r.e⟩
def rN (b : List (BitVec 8)) (r : rdr) (m : Nat) : Nat × rdr := if r.e = 0 then ((rdN b r.a m).1, ⟨(rdN b r.a m).2.1, (rdN b r.a m).2.2⟩) else (0, r)
def rB (b : List (BitVec 8)) (r : rdr) (m : Nat) : List (BitVec 8) × rdr := if r.e = 0 then ((rdB b r.a m).1, ⟨(rdB b r.a m).2.1, (rdB b r.a m).2.2⟩) else ([], r)
theorem octN_r {b : List (BitVec 8)} (hb : b.length ≤ 1000000) {r : rdr} (hr : r.a ≤ b.length) {m : Nat} (hm : m < 9223372036854775808) : octets_Reader_Number (r.o b) (m : Int) = some (((rN b r m).1 : Int), (rN b r m).2.o b) := by
  obtain ⟨a, e⟩ := r
  unfold rN
  by_cases he : e = 0
  · subst he; rw [if_pos rfl]; exact octNum_eq hb hr hm
  · rw [if_neg he]; exact rdN_off he
theorem octB_r {b : List (BitVec 8)} (hb : b.length ≤ 1000000) {r : rdr} (hr : r.a ≤ b.length) {m : Nat} (hm : m < 9223372036854775808) : octets_Reader_Bytes (r.o b) (m : Int) = some ((rB b r m).1, (rB b r m).2.o b) := by
  obtain ⟨a, e⟩ := r
  unfold rB
  by_cases he : e = 0
  · subst he; rw [if_pos rfl]; exact octBytesR_eq hb hr hm
  · rw [if_neg he]; exact octBytesR_off he
theorem rN_le {b : List (BitVec 8)} {r : rdr} (hr : r.a ≤ b.length) (m : Nat) : (rN b r m).2.a ≤ b.length ∧ r.a ≤ (rN b r m).2.a ∧ (rN b r m).1 ≤ m := by
  unfold rN
  split
  · have := rdN_le (most := m) hr; exact ⟨this.1, this.2.1, this.2.2.1⟩
  · exact ⟨hr, Nat.le_refl _, Nat.zero_le _⟩
theorem rB_le {b : List (BitVec 8)} {r : rdr} (hr : r.a ≤ b.length) (m : Nat) : (rB b r m).2.a ≤ b.length ∧ r.a ≤ (rB b r m).2.a ∧ (rB b r m).1.length ≤ b.length := by
  unfold rB
  split
  · exact rdB_le hr
  · exact ⟨hr, Nat.le_refl _, by simp⟩
theorem rN_is {b l : List (BitVec 8)} {r : rdr} {m n : Nat} (he : r.e = 0) (h : b.drop r.a = num7 n ++ l) (hm : n ≤ m) (hn : n < 9223372036854775808) : rN b r m = (n, ⟨r.a + (num7 n).length, 0⟩) := by
  unfold rN
  rw [if_pos he, rdN_num h hm hn]
theorem drop_app {b x l : List (BitVec 8)} {a : Nat} (h : b.drop a = x ++ l) : b.drop (a + x.length) = l := by
  rw [← List.drop_drop, h, List.drop_left' rfl]
theorem rB_is {b t l : List (BitVec 8)} {r : rdr} {m : Nat} (he : r.e = 0) (hr : r.a ≤ b.length) (h : b.drop r.a = num7 t.length ++ (t ++ l)) (hm : t.length ≤ m) (hn : t.length < 9223372036854775808) : rB b r m = (t, ⟨r.a + (num7 t.length).length + t.length, 0⟩) := by
  have h2 := drop_app h
  have h3 := congrArg List.length h2
  have h4 := congrArg List.length h
  simp only [List.length_drop, List.length_append] at h3 h4
  unfold rB rdB
  rw [if_pos he, rdN_num h hm hn]
  simp only
  rw [if_neg (by simp), if_neg (by omega)]
  refine Prod.ext ?_ rfl
  simp only
  rw [List.drop_take, h2, show r.a + (num7 t.length).length + t.length - (r.a + (num7 t.length).length) = t.length by omega, List.take_left' rfl]
def ckK (k : List (BitVec 8)) : Int := if k.length = 0 then 1 else if 40 < k.length then 3 else 0
def ckE (x : api_Entry) : Int :=
  if ckK x.Key ≠ 0 then ckK x.Key else
  if (x.Version < 1 ∨ x.Version > 1099511627776) ∨ (x.AsOf < x.Version ∨ x.AsOf > 1099511627776) ∨ (x.Ends < 0 ∨ x.Ends > 1099511627776) then 2 else
  if 4096 < x.Value.length then 3 else 0
theorem octKey_eq (k : List (BitVec 8)) : octets_Key k = some (ckK k) := by
  unfold octets_Key ckK
  simp only [lt_eq]
  by_cases h0 : k.length = 0
  · rw [if_pos h0, if_pos (by simp [h0])]
  · rw [if_neg h0, if_neg (by simp; intro h; subst h; simp at h0)]
    by_cases h1 : 40 < k.length
    · rw [if_pos h1, if_pos (decide_eq_true (by omega))]
    · rw [if_neg h1, if_neg (by rw [decide_eq_false (by omega)]; simp)]
theorem new_eq (op : List (BitVec 8)) (n c : Int) (hc : c ≠ 0) : trouble_New op n c = some (.fault op n c .nil) := by
  simp [trouble_New, lt_eq, hc]
theorem wrap_eq (op : List (BitVec 8)) (n : Int) (e : Err) (he : e.isNil = false) : trouble_Wrap op n e = some (.fault op n 0 e) := by
  simp [trouble_Wrap, lt_eq, he]
theorem num_ck (op : List (BitVec 8)) (n low : Int) (e : Err) : ∃ e', item_Check_1_c op n low e = some e' ∧ (e.isNil = false → e' = e) ∧ (e = .nil → (n < low ∨ n > 1099511627776) → ∃ o a, e' = .fault o a 2 .nil) ∧ (e = .nil → ¬ (n < low ∨ n > 1099511627776) → e' = .nil) := by
  unfold item_Check_1_c
  simp only [lt_eq]
  cases e with
  | fault o a c u => exact ⟨_, rfl, fun _ => rfl, (fun h => by cases h), (fun h => by cases h)⟩
  | nil =>
    simp only [Err.isNil, if_true]
    by_cases h1 : n < low
    · rw [if_pos (decide_eq_true h1)]
      exact ⟨_, rfl, (fun h => by cases h), fun _ _ => ⟨_, _, rfl⟩, fun _ h => absurd (.inl h1) h⟩
    · rw [if_neg (by rw [decide_eq_false h1]; simp)]
      by_cases h2 : n > 1099511627776
      · rw [decide_eq_true h2]
        exact ⟨_, rfl, (fun h => by cases h), fun _ _ => ⟨_, _, rfl⟩, fun _ h => absurd (.inr h2) h⟩
      · rw [decide_eq_false h2]
        exact ⟨_, rfl, (fun h => by cases h), fun _ h => absurd h (by omega), fun _ _ => rfl⟩
theorem check_eq (x : api_Entry) : ∃ e, item_Check x = some e ∧ codeOf e = ckE x ∧ e.isNil = decide (ckE x = 0) := by
  unfold item_Check ckE
  rw [octKey_eq]
  simp only [Option.bind_some, lt_eq]
  by_cases hk : ckK x.Key = 0
  · rw [if_neg (show ¬ ((ckK x.Key != 0) = true) by simpa using hk), if_neg (show ¬ (ckK x.Key ≠ 0) by simpa using hk)]
    obtain ⟨e1, a1, a2, a3, a4⟩ := num_ck [118#8, 101#8, 114#8, 115#8, 105#8, 111#8, 110#8] x.Version 1 .nil
    obtain ⟨e2, b1, b2, b3, b4⟩ := num_ck [97#8, 115#8, 111#8, 102#8] x.AsOf x.Version e1
    obtain ⟨e3, c1, c2, c3, c4⟩ := num_ck [101#8, 110#8, 100#8, 115#8] x.Ends 0 e2
    simp only [a1, b1, c1, Option.bind_some]
    by_cases h : (x.Version < 1 ∨ x.Version > 1099511627776) ∨ (x.AsOf < x.Version ∨ x.AsOf > 1099511627776) ∨ (x.Ends < 0 ∨ x.Ends > 1099511627776)
    · rw [if_pos h]
      have key : ∃ o a, e3 = .fault o a 2 .nil := by
        by_cases h1 : x.Version < 1 ∨ x.Version > 1099511627776
        · obtain ⟨o, a, rfl⟩ := a3 rfl h1
          have := b2 rfl; subst this
          have := c2 rfl; subst this
          exact ⟨o, a, rfl⟩
        · have := a4 rfl h1; subst this
          by_cases h2 : x.AsOf < x.Version ∨ x.AsOf > 1099511627776
          · obtain ⟨o, a, rfl⟩ := b3 rfl h2
            have := c2 rfl; subst this
            exact ⟨o, a, rfl⟩
          · have := b4 rfl h2; subst this
            have h3 : x.Ends < 0 ∨ x.Ends > 1099511627776 := by
              rcases h with h | h | h
              · exact absurd h h1
              · exact absurd h h2
              · exact h
            exact c3 rfl h3
      obtain ⟨o, a, rfl⟩ := key
      exact ⟨_, rfl, rfl, rfl⟩
    · rw [if_neg h]
      simp only [not_or] at h
      have := a4 rfl (by omega); subst this
      have := b4 rfl (by omega); subst this
      have := c4 rfl (by omega); subst this
      simp only [Err.isNil, if_true, Option.bind_some]
      by_cases hv : 4096 < x.Value.length
      · rw [if_pos (decide_eq_true (by omega)), if_pos hv, new_eq _ _ _ (by decide)]
        exact ⟨_, rfl, rfl, rfl⟩
      · rw [if_neg (by rw [decide_eq_false (by omega)]; simp), if_neg hv]
        exact ⟨_, rfl, rfl, rfl⟩
  · rw [if_pos (by simpa using hk), if_pos hk, new_eq _ _ _ hk]
    exact ⟨_, rfl, by simp [codeOf, hk], by simp [Err.isNil, hk]⟩
theorem ck_ok {x : api_Entry} (h : ckE x = 0) : 1 ≤ x.Key.length ∧ x.Key.length ≤ 40 ∧ 1 ≤ x.Version ∧ x.Version ≤ 1099511627776 ∧ x.Version ≤ x.AsOf ∧ x.AsOf ≤ 1099511627776 ∧ 0 ≤ x.Ends ∧ x.Ends ≤ 1099511627776 ∧ x.Value.length ≤ 4096 := by
  unfold ckE ckK at h
  by_cases h1 : x.Key.length = 0
  · simp [h1] at h
  by_cases h2 : 40 < x.Key.length
  · simp [h1, h2] at h
  simp only [if_neg h1, if_neg h2] at h
  rw [if_neg (by simp)] at h
  by_cases h3 : (x.Version < 1 ∨ x.Version > 1099511627776) ∨ (x.AsOf < x.Version ∨ x.AsOf > 1099511627776) ∨ (x.Ends < 0 ∨ x.Ends > 1099511627776)
  · rw [if_pos h3] at h; cases h
  rw [if_neg h3] at h
  by_cases h4 : 4096 < x.Value.length
  · rw [if_pos h4] at h; cases h
  omega
def encE (x : api_Entry) : List (BitVec 8) := num7 x.Key.length ++ (x.Key ++ (num7 x.Version.toNat ++ (num7 x.AsOf.toNat ++ (num7 x.Ends.toNat ++ (num7 x.Value.length ++ x.Value)))))
def zeroE : api_Entry := ⟨[], 0, 0, 0, []⟩
def frE (b : List (BitVec 8)) (r : rdr) : api_Entry × rdr :=
  let k := rB b r 40
  let v := rN b k.2 1099511627776
  let a := rN b v.2 1099511627776
  let n := rN b a.2 1099511627776
  let w := rB b n.2 4096
  let x : api_Entry := ⟨k.1, v.1, a.1, n.1, w.1⟩
  if w.2.e = 0 then (if ckE x = 0 then (x, w.2) else (zeroE, ⟨w.2.a, ckE x⟩)) else (zeroE, w.2)
def rdE (b : List (BitVec 8)) : Nat → Nat → List api_Entry ⊕ Int
  | 0, _ => .inl []
  | k + 1, a => if a < b.length then (if (frE b ⟨a, 0⟩).2.e = 0 then (match rdE b k (frE b ⟨a, 0⟩).2.a with
      | .inl l => .inl ((frE b ⟨a, 0⟩).1 :: l)
      | .inr c => .inr c) else .inr (frE b ⟨a, 0⟩).2.e) else .inl []
theorem same_eq6 (x y : api_Entry) (hx : x.Value.length < 9223372036854775807) : R06_Same x y = some (decide (x = y)) := by
  obtain ⟨k, v, a, n, w⟩ := x
  obtain ⟨k', v', a', n', w'⟩ := y
  simp only at hx
  simp only [R06_Same, lt_eq, same_eq _ _ hx, Option.bind_some, beq_iff_eq, api_Entry.mk.injEq]
  by_cases h1 : k = k'
  · by_cases h2 : v = v'
    · by_cases h3 : a = a'
      · by_cases h4 : n = n'
        · simp [h1, h2, h3, h4]
        · simp [h1, h2, h3, h4]
      · simp [h1, h2, h3]
    · simp [h1, h2]
  · simp [h1]
theorem isame_eq6 (x y : api_Entry) : item_Same x y = some (decide (x = y)) := by
  obtain ⟨k, v, a, n, w⟩ := x
  obtain ⟨k', v', a', n', w'⟩ := y
  simp only [item_Same, lt_eq, beq_iff_eq, api_Entry.mk.injEq]
  by_cases h1 : k = k'
  · by_cases h2 : v = v'
    · by_cases h3 : a = a'
      · by_cases h4 : n = n'
        · by_cases h5 : w = w'
          · simp [h1, h2, h3, h4, h5]
          · simp [h1, h2, h3, h4, h5]
        · simp [h1, h2, h3, h4]
      · simp [h1, h2, h3]
    · simp [h1, h2]
  · simp [h1]
theorem light_l {l : List api_Entry} (hl : l.length ≤ 40) : ∀ (k i : Nat) (n : Nat), k + i = l.length → n ≤ 12000 → ∃ y, L06_Light_l0 l ((n : Int), (i : Int)) = some y ∧ (y = .inr 1 ∨ (y = .inl () ∧ ∀ j, i ≤ j → (h : j < l.length) → l[j].Key.length ≤ 200 ∧ l[j].Value.length ≤ 5000))
  | 0, i, n, hk, hn => by
    refine ⟨.inl (), loopO_out ?_, .inr ⟨rfl, fun j h1 h2 => by omega⟩⟩
    simp only [L06_Light_b0, lt_eq]
    rw [if_neg (by rw [decide_eq_false (by omega)]; simp)]
  | k + 1, i, n, hk, hn => by
    have hi : i < l.length := by omega
    by_cases h1 : l[i].Key.length > 200
    · refine ⟨.inr 1, loopO_out ?_, .inl rfl⟩
      simp only [L06_Light_b0, lt_eq, ix_nat hi, Option.bind_some]
      rw [if_pos (decide_eq_true (by omega)), if_pos (decide_eq_true (by omega))]
      rfl
    · by_cases h2 : l[i].Value.length > 5000
      · refine ⟨.inr 1, loopO_out ?_, .inl rfl⟩
        simp only [L06_Light_b0, lt_eq, ix_nat hi, Option.bind_some]
        rw [if_pos (decide_eq_true (by omega)), if_neg (by rw [decide_eq_false (by omega)]; simp), decide_eq_true (by omega)]
        rfl
      · have hw : w64 ((n : Int) + (l[i].Value.length : Int)) = ((n + l[i].Value.length : Nat) : Int) := by rw [w64_eq (by omega) (by omega)]; omega
        by_cases h3 : n + l[i].Value.length > 12000
        · refine ⟨.inr 1, loopO_out ?_, .inl rfl⟩
          simp only [L06_Light_b0, lt_eq, ix_nat hi, Option.bind_some]
          rw [if_pos (decide_eq_true (by omega)), if_neg (by rw [decide_eq_false (by omega)]; simp), decide_eq_false (by omega)]
          simp only [Option.bind_some, Bool.false_eq_true, if_false, hw]
          rw [if_pos (decide_eq_true (by omega))]
        · obtain ⟨y, i1, i2⟩ := light_l hl k (i + 1) (n + l[i].Value.length) (by omega) (by omega)
          have e : L06_Light_l0 l ((n : Int), (i : Int)) = L06_Light_l0 l (((n + l[i].Value.length : Nat) : Int), ((i + 1 : Nat) : Int)) := by
            refine loopO_in (body := fun s => L06_Light_b0 l s.1 s.2) ?_
            simp only [L06_Light_b0, lt_eq, ix_nat hi, Option.bind_some]
            rw [if_pos (decide_eq_true (by omega)), if_neg (by rw [decide_eq_false (by omega)]; simp), decide_eq_false (by omega)]
            simp only [Option.bind_some, Bool.false_eq_true, if_false, hw]
            rw [if_neg (by rw [decide_eq_false (by omega)]; simp), w64_nat (by omega)]
          refine ⟨y, by rw [e]; exact i1, ?_⟩
          rcases i2 with rfl | ⟨rfl, i3⟩
          · exact .inl rfl
          · refine .inr ⟨rfl, fun j h4 h5 => ?_⟩
            by_cases hj : j = i
            · subst hj; omega
            · exact i3 j (by omega) h5
theorem light_eq (l : List api_Entry) : L06_Light l = some 1 ∨ (L06_Light l = some 0 ∧ l.length ≤ 40 ∧ ∀ x ∈ l, x.Key.length ≤ 200 ∧ x.Value.length ≤ 5000) := by
  unfold L06_Light
  simp only [lt_eq]
  by_cases h : l.length > 40
  · left; rw [if_pos (decide_eq_true (by omega))]
  · rw [if_neg (by rw [decide_eq_false (by omega)]; simp)]
    obtain ⟨y, h1, h2⟩ := light_l (l := l) (by omega) l.length 0 0 (by omega) (by omega)
    have h1' : L06_Light_l0 l (0, 0) = some y := h1
    rw [h1']
    rcases h2 with rfl | ⟨rfl, h3⟩
    · exact .inl rfl
    · refine .inr ⟨rfl, by omega, fun x hx => ?_⟩
      obtain ⟨j, hj, rfl⟩ := List.mem_iff_getElem.1 hx
      exact h3 j (by omega) hj
end Go.Proofs.YtedcgeghgbgonaaDoor
namespace Go.Va
open Go
set_option linter.unusedVariables false
set_option linter.unusedSimpArgs false
def cstep (n : BitVec 32) : BitVec 32 := if n &&& 1#32 = 1#32 then n >>> 1 ^^^ 3988292384#32 else n >>> 1
def csteps : Nat → BitVec 32 → BitVec 32
  | 0, n => n
  | k + 1, n => cstep (csteps k n)
def ccol (c : BitVec 8) : BitVec 32 := csteps 8 (c.setWidth 32)
def cmore1 (n : BitVec 32) (c : BitVec 8) : BitVec 32 := n >>> 8 ^^^ ccol (n.setWidth 8 ^^^ c)
def cmore (s : BitVec 32) (b : List (BitVec 8)) : BitVec 32 := ~~~ (b.foldl cmore1 (~~~ s))
def csum (b : List (BitVec 8)) : BitVec 32 := cmore 0#32 b
def cfour (n : BitVec 32) : List (BitVec 8) := [n.setWidth 8, (n >>> 8).setWidth 8, (n >>> 16).setWidth 8, (n >>> 24).setWidth 8]
def cseal (b : List (BitVec 8)) : List (BitVec 8) := b ++ cfour (csum b)
def cfits (b : List (BitVec 8)) : Bool := decide (4 ≤ b.length) && decide (cfour (csum (b.take (b.length - 4))) = b.drop (b.length - 4))
def rbit (c : BitVec 8) (k : Nat) (n : BitVec 32) : BitVec 32 := if (c >>> k).setWidth 32 % 2#32 = n % 2#32 then n / 2#32 else n / 2#32 ^^^ 3988292384#32
def rbits (c : BitVec 8) (n : BitVec 32) : Nat → BitVec 32
  | 0 => n
  | k + 1 => rbit c k (rbits c n k)
def rbyte (n : BitVec 32) (c : BitVec 8) : BitVec 32 := rbits c n 8
def rsum (b : List (BitVec 8)) : BitVec 32 := 4294967295#32 - b.foldl rbyte 4294967295#32
def rdiv (n : BitVec 32) : Nat → BitVec 32
  | 0 => n
  | k + 1 => rdiv n k / 256#32
def rfour (n : BitVec 32) : Nat → List (BitVec 8)
  | 0 => []
  | k + 1 => rfour n k ++ [(rdiv n k % 256#32).setWidth 8]
def rseal (b : List (BitVec 8)) : List (BitVec 8) := b ++ rfour (rsum b) 4
def rfits (b : List (BitVec 8)) : Bool := decide (4 ≤ b.length) && decide (rseal (b.take (b.length - 4)) = b)

theorem shr_shr (n : BitVec 32) (k : Nat) : n >>> k >>> 1 = n >>> (k + 1) := by rw [BitVec.shiftRight_add]
theorem crc_and_one (n : BitVec 32) : (n &&& 1#32 = 1#32) ↔ n.getLsbD 0 = true := by
  constructor
  · intro h
    have := congrArg (fun x => x.getLsbD 0) h
    simpa using this
  · intro h
    apply BitVec.eq_of_getLsbD_eq
    intro i hi
    by_cases h0 : i = 0
    · subst h0; simpa using h
    · rw [BitVec.getLsbD_and, BitVec.getLsbD_one]
      simp [h0]
theorem crc_step_eq (n : BitVec 32) : cstep n = n >>> 1 ^^^ (if n.getLsbD 0 = true then 3988292384#32 else 0#32) := by
  unfold cstep
  by_cases h : n.getLsbD 0 = true
  · rw [if_pos ((crc_and_one n).2 h), if_pos h]
  · rw [if_neg (fun hh => h ((crc_and_one n).1 hh)), if_neg h, BitVec.xor_zero]
theorem crc_step_xor (a b : BitVec 32) : cstep (a ^^^ b) = cstep a ^^^ cstep b := by
  rw [crc_step_eq, crc_step_eq, crc_step_eq, BitVec.getLsbD_xor, BitVec.ushiftRight_xor_distrib]
  generalize a >>> 1 = x
  generalize b >>> 1 = y
  cases a.getLsbD 0 <;> cases b.getLsbD 0
  · simp
  · simp [BitVec.xor_assoc]
  · simp only [Bool.xor_false, if_true, Bool.false_eq_true, if_false, BitVec.xor_zero]
    rw [BitVec.xor_assoc, BitVec.xor_comm y, BitVec.xor_assoc]
  · simp only [Bool.xor_self, if_true, Bool.false_eq_true, if_false, BitVec.xor_zero]
    rw [BitVec.xor_assoc, ← BitVec.xor_assoc (3988292384#32), BitVec.xor_comm (3988292384#32) y, BitVec.xor_assoc y, BitVec.xor_self, BitVec.xor_zero]
theorem crc_steps_xor (a b : BitVec 32) : ∀ k, csteps k (a ^^^ b) = csteps k a ^^^ csteps k b
  | 0 => rfl
  | k + 1 => by rw [csteps, crc_steps_xor a b k, crc_step_xor]; rfl
theorem crc_step_even (n : BitVec 32) (h : n.getLsbD 0 = false) : cstep n = n >>> 1 := by
  rw [crc_step_eq, h]; simp
theorem crc_steps_even (z : BitVec 32) : ∀ k, (∀ i, i < k → z.getLsbD i = false) → csteps k z = z >>> k
  | 0, _ => by simp [csteps]
  | k + 1, h => by
    rw [csteps, crc_steps_even z k (fun i hi => h i (by omega)), crc_step_even _ (by rw [BitVec.getLsbD_ushiftRight]; exact h _ (by omega)), shr_shr]
theorem crc_steps_byte (n : BitVec 32) (c : BitVec 8) : csteps 8 (n ^^^ c.setWidth 32) = cmore1 n c := by
  have h : n ^^^ c.setWidth 32 = (n >>> 8) <<< 8 ^^^ (n.setWidth 8 ^^^ c).setWidth 32 := by
    apply BitVec.eq_of_getLsbD_eq
    intro i hi
    simp only [BitVec.getLsbD_xor, BitVec.getLsbD_shiftLeft, BitVec.getLsbD_ushiftRight, BitVec.getLsbD_setWidth]
    by_cases h8 : i < 8
    · simp [h8, hi]
    · have e : 8 + (i - 8) = i := by omega
      simp [h8, hi, e, BitVec.getLsbD_of_ge c i (by omega)]
  rw [h, crc_steps_xor, crc_steps_even]
  · unfold cmore1 ccol
    congr 1
    apply BitVec.eq_of_getLsbD_eq
    intro i hi
    simp only [BitVec.getLsbD_shiftLeft, BitVec.getLsbD_ushiftRight]
    by_cases h32 : 8 + i < 32
    · simp [h32]
    · simp [h32, BitVec.getLsbD_of_ge n (8 + i) (by omega)]
  · intro i hi
    simp [BitVec.getLsbD_shiftLeft, hi]
def xor3 (a b c : List (BitVec 8)) : List (BitVec 8) := (List.zip a (List.zip b c)).map fun p => p.1 ^^^ p.2.1 ^^^ p.2.2
def bstep (n : BitVec 32) (b : Bool) : BitVec 32 := cstep (n ^^^ (if b = true then 1#32 else 0#32))
theorem shift_split (z : BitVec 32) (k : Nat) : z >>> k = (if z.getLsbD k = true then 1#32 else 0#32) ^^^ (z >>> (k + 1)) <<< 1 := by
  apply BitVec.eq_of_getLsbD_eq
  intro i hi
  simp only [BitVec.getLsbD_xor, BitVec.getLsbD_ushiftRight, BitVec.getLsbD_shiftLeft]
  by_cases h0 : i = 0
  · subst h0
    cases z.getLsbD k <;> simp
  · have e : k + 1 + (i - 1) = k + i := by omega
    have h1 : ¬ i < 1 := by omega
    rw [e]
    have : ((if z.getLsbD k = true then 1#32 else 0#32) : BitVec 32).getLsbD i = false := by
      split <;> simp [BitVec.getLsbD_one, h0]
    rw [this]
    simp [h1, hi]
theorem csteps_bits (n z : BitVec 32) : ∀ k, csteps k (n ^^^ z) = ((List.range k).map z.getLsbD).foldl bstep n ^^^ z >>> k
  | 0 => by simp [csteps]
  | k + 1 => by
    rw [csteps, csteps_bits n z k, List.range_succ, List.map_append, List.foldl_append]
    simp only [List.map_cons, List.map_nil, List.foldl_cons, List.foldl_nil]
    generalize ((List.range k).map z.getLsbD).foldl bstep n = f
    rw [shift_split z k, ← BitVec.xor_assoc, crc_step_xor]
    unfold bstep
    congr 1
    rw [crc_step_even _ (by simp [BitVec.getLsbD_shiftLeft])]
    apply BitVec.eq_of_getLsbD_eq
    intro i hi
    simp only [BitVec.getLsbD_ushiftRight, BitVec.getLsbD_shiftLeft]
    by_cases h : 1 + i < 32
    · have e : 1 + i - 1 = i := by omega
      have h1 : ¬ (1 + i < 1) := by omega
      simp [h, e, h1]
    · have : i = 31 := by omega
      subst this
      simp [BitVec.getLsbD_of_ge z (k + 1 + 31) (by omega)]
def bits8 (c : BitVec 8) : List Bool := (List.range 8).map c.getLsbD
def bits32 (w : BitVec 32) : List Bool := (List.range 32).map w.getLsbD
theorem more1_bits (n : BitVec 32) (c : BitVec 8) : cmore1 n c = (bits8 c).foldl bstep n := by
  rw [← crc_steps_byte, csteps_bits]
  have : (c.setWidth 32) >>> 8 = 0#32 := by
    apply BitVec.eq_of_getLsbD_eq
    intro i hi
    simp [BitVec.getLsbD_of_ge c (8 + i) (by omega)]
  rw [this, BitVec.xor_zero]
  have e : (List.range 8).map (c.setWidth 32 : BitVec 32).getLsbD = bits8 c := by
    unfold bits8
    apply List.map_congr_left
    intro i hi
    have : i < 8 := by simpa using hi
    simp [show i < 32 by omega]
  rw [e]
theorem word_bits (n w : BitVec 32) : csteps 32 (n ^^^ w) = (bits32 w).foldl bstep n := by
  rw [csteps_bits]
  have : w >>> 32 = 0#32 := by
    apply BitVec.eq_of_getLsbD_eq
    intro i hi
    simp [BitVec.getLsbD_of_ge w (32 + i) (by omega)]
  rw [this, BitVec.xor_zero]; rfl
theorem fold_bits : ∀ (b : List (BitVec 8)) (n : BitVec 32), b.foldl cmore1 n = (b.flatMap bits8).foldl bstep n
  | [], n => rfl
  | c :: b, n => by
    rw [List.foldl_cons, fold_bits b, List.flatMap_cons, List.foldl_append, more1_bits]
theorem four_bits (n : BitVec 32) : (cfour n).flatMap bits8 = bits32 n := by
  unfold cfour bits32 bits8
  simp only [List.flatMap_cons, List.flatMap_nil, List.append_nil]
  rw [show List.range 32 = List.range 8 ++ ((List.range 8).map (8 + ·) ++ ((List.range 8).map (16 + ·) ++ (List.range 8).map (24 + ·))) from by decide]
  simp only [List.map_append, List.map_map]
  have key : ∀ k : Nat, ((List.range 8).map ((n >>> k).setWidth 8 : BitVec 8).getLsbD) = (List.range 8).map (n.getLsbD ∘ (k + ·)) := by
    intro k
    apply List.map_congr_left
    intro i hi
    have : i < 8 := by simpa using hi
    simp [this]
  have k0 : ((List.range 8).map (n.setWidth 8 : BitVec 8).getLsbD) = (List.range 8).map n.getLsbD := by
    apply List.map_congr_left
    intro i hi
    have : i < 8 := by simpa using hi
    simp [this]
  rw [k0, key 8, key 16, key 24]
theorem bstep_xor (n m : BitVec 32) (a b : Bool) : bstep (n ^^^ m) (a ^^ b) = bstep n a ^^^ bstep m b := by
  unfold bstep
  rw [← crc_step_xor]
  congr 1
  cases a <;> cases b <;> simp only [Bool.xor_false, Bool.false_xor, Bool.xor_self, Bool.xor_true, Bool.not_false, if_true, Bool.false_eq_true, if_false, BitVec.xor_zero]
  all_goals first
    | ac_rfl
    | rw [BitVec.xor_assoc n 1#32, ← BitVec.xor_assoc 1#32 m, BitVec.xor_comm 1#32 m, BitVec.xor_assoc m, BitVec.xor_self, BitVec.xor_zero]
theorem bfold_xor : ∀ (a b : List Bool) (n m : BitVec 32), a.length = b.length → (List.zipWith (· ^^ ·) a b).foldl bstep (n ^^^ m) = a.foldl bstep n ^^^ b.foldl bstep m
  | [], [], _, _, _ => rfl
  | x :: a, y :: b, n, m, h => by
    simp only [List.zipWith_cons_cons, List.foldl_cons, bstep_xor]
    exact bfold_xor a b _ _ (by simpa using h)
  | [], _ :: _, _, _, h => by simp at h
  | _ :: _, [], _, _, h => by simp at h
theorem cstep_inj {n : BitVec 32} (h : cstep n = 0#32) : n = 0#32 := by
  rw [crc_step_eq] at h
  by_cases h0 : n.getLsbD 0 = true
  · rw [if_pos h0] at h
    have := congrArg (fun x => x.getLsbD 31) h
    simp [BitVec.getLsbD_of_ge n 32 (by omega)] at this
  · rw [if_neg h0, BitVec.xor_zero] at h
    apply BitVec.eq_of_getLsbD_eq
    intro i hi
    rcases Nat.eq_zero_or_pos i with hz | hz
    · subst hz; simpa using h0
    · have := congrArg (fun x => x.getLsbD (i - 1)) h
      simp only [BitVec.getLsbD_ushiftRight] at this
      rw [show 1 + (i - 1) = i by omega] at this
      simpa using this
theorem csteps_inj : ∀ {k : Nat} {n : BitVec 32}, csteps k n = 0#32 → n = 0#32
  | 0, n, h => h
  | k + 1, n, h => csteps_inj (k := k) (cstep_inj h)
theorem bfold_zeros (n : BitVec 32) : ∀ k, (List.replicate k false).foldl bstep n = csteps k n := by
  have key : ∀ k (n : BitVec 32), csteps k (cstep n) = cstep (csteps k n) := by
    intro k
    induction k with
    | zero => intro n; rfl
    | succ k ih => intro n; rw [csteps, ih, csteps]
  intro k
  induction k generalizing n with
  | zero => rfl
  | succ k ih =>
    rw [List.replicate_succ, List.foldl_cons, ih, csteps, ← key]
    simp [bstep]
theorem csteps_zero : ∀ k, csteps k 0#32 = 0#32
  | 0 => rfl
  | k + 1 => by rw [csteps, csteps_zero k]; rfl
theorem burst {k m : Nat} {w : BitVec 32} (h : (List.replicate k false ++ (bits32 w ++ List.replicate m false)).foldl bstep 0#32 = 0#32) : w = 0#32 := by
  rw [List.foldl_append, List.foldl_append, bfold_zeros 0#32 k, csteps_zero, ← word_bits, bfold_zeros, BitVec.zero_xor] at h
  exact csteps_inj (csteps_inj h)
theorem sealed_fold (b : List (BitVec 8)) : (b ++ cfour (csum b)).foldl cmore1 (~~~ 0#32) = csteps 32 (~~~ 0#32) := by
  rw [List.foldl_append, fold_bits (cfour _), four_bits, ← word_bits]
  congr 1
  unfold csum cmore
  generalize b.foldl cmore1 (~~~ 0#32) = x
  apply BitVec.eq_of_getLsbD_eq
  intro i hi
  simp only [BitVec.getLsbD_xor, BitVec.getLsbD_not, hi, decide_true, Bool.true_and, BitVec.getLsbD_zero]
  cases x.getLsbD i <;> rfl
theorem fits_fold {s : List (BitVec 8)} (h : cfits s = true) : s.foldl cmore1 (~~~ 0#32) = csteps 32 (~~~ 0#32) := by
  unfold cfits at h
  simp only [Bool.and_eq_true, decide_eq_true_eq] at h
  have : s = s.take (s.length - 4) ++ cfour (csum (s.take (s.length - 4))) := by rw [h.2, List.take_append_drop]
  rw [this]
  exact sealed_fold _
def bitAt (s : List (BitVec 8)) (p : Nat) : Bool := (s.getD (p / 8) 0#8).getLsbD (p % 8)
theorem bits_at : ∀ (s : List (BitVec 8)), s.flatMap bits8 = (List.range (8 * s.length)).map (bitAt s)
  | [] => rfl
  | c :: s => by
    rw [List.flatMap_cons, bits_at s, List.length_cons, show 8 * (s.length + 1) = 8 + 8 * s.length by omega, List.range_add, List.map_append, List.map_map]
    have e1 : bits8 c = (List.range 8).map (bitAt (c :: s)) := by
      unfold bits8
      apply List.map_congr_left
      intro i hi
      have : i < 8 := by simpa using hi
      simp [bitAt, Nat.div_eq_of_lt this, Nat.mod_eq_of_lt this]
    have e2 : (List.range (8 * s.length)).map (bitAt s) = (List.range (8 * s.length)).map (bitAt (c :: s) ∘ fun x => 8 + x) := by
      apply List.map_congr_left
      intro i hi
      simp only [bitAt, Function.comp]
      rw [show (8 + i) / 8 = i / 8 + 1 by omega, show (8 + i) % 8 = i % 8 by omega]
      rfl
    rw [e1, e2]
def turned (k : Nat) (w : BitVec 32) (p : Nat) : Bool := decide (k ≤ p ∧ p < k + 32) && w.getLsbD (p - k)
theorem turned_list {k n : Nat} (w : BitVec 32) (h : k + 32 ≤ n) : (List.range n).map (turned k w) = List.replicate k false ++ (bits32 w ++ List.replicate (n - k - 32) false) := by
  apply List.ext_getElem?
  intro i
  simp only [List.getElem?_map, List.getElem?_append, List.getElem?_replicate, List.length_replicate, bits32, List.length_map, List.length_range]
  by_cases h1 : i < k
  · rw [if_pos h1, List.getElem?_range (by omega)]
    simp [turned, h1, show ¬ k ≤ i by omega]
  · rw [if_neg h1]
    by_cases h2 : i - k < 32
    · rw [if_pos h2, List.getElem?_range (by omega), List.getElem?_range h2]
      simp [turned, show k ≤ i by omega, show i < k + 32 by omega]
    · rw [if_neg h2]
      by_cases h3 : i < n
      · rw [List.getElem?_range h3, if_pos (by omega)]
        simp [turned, show ¬ i < k + 32 by omega]
      · rw [if_neg (by omega), List.getElem?_eq_none (by simp; omega)]; rfl
theorem tells {s t : List (BitVec 8)} {k : Nat} {w : BitVec 32} (hw : w ≠ 0#32) (hl : t.length = s.length) (hk : k + 32 ≤ 8 * s.length) (hs : cfits s = true) (ht : ∀ p, p < 8 * s.length → bitAt t p = (bitAt s p ^^ turned k w p)) : cfits t = false := by
  cases hf : cfits t with
  | false => rfl
  | true =>
    exfalso
    apply hw
    have e1 := fits_fold hs
    have e2 := fits_fold hf
    rw [fold_bits, bits_at] at e1 e2
    rw [hl] at e2
    have e3 : (List.range (8 * s.length)).map (bitAt t) = List.zipWith (· ^^ ·) ((List.range (8 * s.length)).map (bitAt s)) ((List.range (8 * s.length)).map (turned k w)) := by
      rw [List.zipWith_map, List.zipWith_self]
      exact List.map_congr_left (fun p hp => ht p (by simpa using hp))
    have e4 := bfold_xor ((List.range (8 * s.length)).map (bitAt s)) ((List.range (8 * s.length)).map (turned k w)) (~~~ 0#32) 0#32 (by simp)
    rw [← e3, BitVec.xor_zero, e1, e2] at e4
    have e5 : ((List.range (8 * s.length)).map (turned k w)).foldl bstep 0#32 = 0#32 := by
      generalize ((List.range (8 * s.length)).map (turned k w)).foldl bstep 0#32 = x at e4
      generalize csteps 32 (~~~ 0#32) = r at e4
      have := congrArg (r ^^^ ·) e4
      simp only [BitVec.xor_self, ← BitVec.xor_assoc, BitVec.zero_xor] at this
      exact this.symm
    rw [turned_list w hk] at e5
    exact burst e5
end Go.Va
namespace Go.Proofs.YtedcgeghgbgonaaDoor
open Go Go.Va
set_option linter.unusedVariables false
set_option linter.unusedSimpArgs false
theorem column_eq (c : BitVec 8) : checksum_column c = some (ccol c) := by
  have k := loopO_up (body := fun s => checksum_column_b0 s.1 s.2) (fun i : Nat => (csteps i (c.setWidth 32), (i : Int))) 8 (x := ccol c) (fun i hi => by
    simp only [checksum_column_b0, lt_eq]
    rw [if_pos (decide_eq_true (by omega)), w64_nat (by omega)]
    rw [show csteps (i + 1) (c.setWidth 32) = cstep (csteps i (c.setWidth 32)) from rfl]
    unfold cstep
    by_cases h : csteps i (c.setWidth 32) &&& 1#32 = 1#32
    · rw [if_pos (by simpa using h), if_pos h]
    · rw [if_neg (by simpa using h), if_neg h]) (by
    simp only [checksum_column_b0, lt_eq]
    rw [if_neg (by simp)]
    rfl)
  have k' : checksum_column_l0 (c.setWidth 32, 0) = some (ccol c) := k
  unfold checksum_column
  simp only [lt_eq, k', Option.bind_some]
theorem more_eq (n : BitVec 32) {b : List (BitVec 8)} (hb : b.length ≤ 1000000000) : checksum_More n b = some (cmore n b) := by
  have k := loopO_up (body := fun s => checksum_More_b0 b (b.length : Int) s.1 s.2) (fun i : Nat => ((b.take i).foldl cmore1 (~~~ n), (i : Int))) b.length (x := b.foldl cmore1 (~~~ n)) (fun i hi => by
    simp only [checksum_More_b0, lt_eq]
    rw [if_pos (decide_eq_true (by omega)), ix_nat hi]
    simp only [Option.bind_some, column_eq]
    rw [w64_nat (by omega), List.take_add_one, List.getElem?_eq_getElem hi, List.foldl_append]
    rfl) (by
    simp only [checksum_More_b0, lt_eq, List.take_length]
    rw [if_neg (by rw [decide_eq_false (by omega)]; simp)])
  have k' : checksum_More_l0 b (b.length : Int) (~~~ n, 0) = some (b.foldl cmore1 (~~~ n)) := k
  unfold checksum_More
  simp only [lt_eq, k', Option.bind_some]
  rfl
theorem sum_eq {b : List (BitVec 8)} (hb : b.length ≤ 1000000000) : checksum_Sum b = some (csum b) := by
  unfold checksum_Sum
  simp only [more_eq _ hb, Option.bind_some]
  rfl
theorem four_eq (n : BitVec 32) : checksum_Four n = some (cfour n) := by
  unfold checksum_Four
  simp only [lt_eq]
  rw [stW_eq (by simp) (by simp)]
  rfl
theorem cfour_len (n : BitVec 32) : (cfour n).length = 4 := rfl
theorem cseal_len (b : List (BitVec 8)) : (cseal b).length = b.length + 4 := by simp [cseal, cfour_len]
theorem seal_eq {b : List (BitVec 8)} (hb : b.length ≤ 1000000000) : checksum_Seal b = some (cseal b) := by
  unfold checksum_Seal
  simp only [sum_eq hb, four_eq, Option.bind_some]
  rw [stW_eq (by simp) (cfour_len _)]
  simp only [Option.bind_some]
  rw [app_eq (by simp; omega), whole_eq (cfour_len _)]
  simp only [Option.bind_some, List.nil_append]
  rw [app_eq (by simp [cfour_len]; omega)]
  rfl
theorem fits_eq {b : List (BitVec 8)} (hb : b.length ≤ 1000000000) : checksum_Fits b = some (cfits b) := by
  unfold checksum_Fits cfits
  simp only [lt_eq]
  rw [w64_eq (by omega) (by omega)]
  by_cases h : 4 ≤ b.length
  · rw [if_neg (by rw [decide_eq_false (by omega)]; simp), show (b.length : Int) - 4 = ((b.length - 4 : Nat) : Int) by omega, cutTo_eq (by omega), cutFrom_eq (by omega)]
    simp only [Option.bind_some]
    rw [sum_eq (by rw [List.length_take]; omega)]
    simp only [Option.bind_some, four_eq]
    rw [show (4 : Int) = ((4 : Nat) : Int) from rfl, cutTo_eq (by rw [List.length_drop]; omega)]
    have hl : ((b.drop (b.length - 4)).take 4).length = 4 := by rw [List.length_take, List.length_drop]; omega
    simp only [Option.bind_some]
    rw [whole_eq hl]
    simp only [Option.bind_some]
    rw [eqA_eq (cfour_len _) hl]
    have ht : (b.drop (b.length - 4)).take 4 = b.drop (b.length - 4) := List.take_of_length_le (by rw [List.length_drop]; omega)
    rw [ht]
    simp only [Option.bind_some, decide_eq_true h, Bool.true_and]
    congr 1
    exact Bool.eq_iff_iff.2 (by simp)
  · rw [if_pos (decide_eq_true (by omega)), decide_eq_false h]
    rfl
theorem cseal_fits (b : List (BitVec 8)) : cfits (cseal b) = true := by
  unfold cfits
  rw [cseal_len, decide_eq_true (by omega), show b.length + 4 - 4 = b.length by omega]
  unfold cseal
  rw [List.take_left, List.drop_left]
  simp
end Go.Proofs.YtedcgeghgbgonaaDoor
