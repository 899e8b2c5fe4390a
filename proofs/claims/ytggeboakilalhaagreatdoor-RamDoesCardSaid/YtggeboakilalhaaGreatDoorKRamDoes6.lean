/- Whatever is set, got, dropped and swept, each call answers what the chapter says, and what is in the tier is what it says. (part 6 of 8) -/
import Derived.Test.YtggeboakilalhaaGreatDoorKRamDoes5
namespace Go.Proofs.YtggeboakilalhaaGreatDoor
open Go Go.Va
set_option linter.unusedVariables false
set_option linter.unusedSimpArgs false
set_option maxRecDepth 20000
theorem L11_do_ok {x0 : ram_Ram} {x1 : R11_Ram} {x2 : L11_Op} {r : R11_Ram × Bool × ram_Ram} (H : L11_do x0 x1 x2 = some r) (σ : St) {p0 p0B p0I p0N p0F p0L p0C p0H p0X p0G : Nat} (h0 : σ.objs[p0]? = some [(.ref p0B 0), (.ref p0I 0), (.vec p0H 1 (x0.heads).length), (.vec p0X 1 (x0.next_).length), (.vec p0G 5 (x0.things).length), (eI x0.count)]) (h0_budget : σ.objs[p0B]? = some (c_slab_Budget x0.budget)) (h0_lists : σ.objs[p0I]? = some [(.vec p0N 4 (x0.lists.nodes).length), (.vec p0F 1 (x0.lists.first_).length), (.vec p0L 1 (x0.lists.last_).length), (.vec p0C 1 (x0.lists.count).length), (eI x0.lists.free), (eI x0.lists.clock)]) (h0_lists_nodes : σ.objs[p0N]? = some (cL e_lists_link x0.lists.nodes)) (h0_lists_first_ : σ.objs[p0F]? = some (cL eI x0.lists.first_)) (h0_lists_last_ : σ.objs[p0L]? = some (cL eI x0.lists.last_)) (h0_lists_count : σ.objs[p0C]? = some (cL eI x0.lists.count)) (h0_heads : σ.objs[p0H]? = some (cL eI x0.heads)) (h0_next_ : σ.objs[p0X]? = some (cL eI x0.next_)) (h0_things : σ.objs[p0G]? = some (cL e_aEn x0.things)) (hd : [p0, p0B, p0I, p0N, p0F, p0L, p0C, p0H, p0X, p0G].Pairwise fun a b => a ≠ b) (hg : σ.gl = gls) : ACall Tryz.prog 10 [(.ref p0 0), (e_R11_Ram x1), (e_L11_Op x2)] σ (fun a τ => a = .tup [e_R11_Ram r.1, eB r.2.1] ∧ τ = σ.puts [(p0, [(.ref p0B 0), (.ref p0I 0), (.vec p0H 1 (r.2.2.heads).length), (.vec p0X 1 (r.2.2.next_).length), (.vec p0G 5 (r.2.2.things).length), (eI r.2.2.count)]), (p0B, (c_slab_Budget r.2.2.budget)), (p0I, [(.vec p0N 4 (r.2.2.lists.nodes).length), (.vec p0F 1 (r.2.2.lists.first_).length), (.vec p0L 1 (r.2.2.lists.last_).length), (.vec p0C 1 (r.2.2.lists.count).length), (eI r.2.2.lists.free), (eI r.2.2.lists.clock)]), (p0N, (cL e_lists_link r.2.2.lists.nodes)), (p0F, (cL eI r.2.2.lists.first_)), (p0L, (cL eI r.2.2.lists.last_)), (p0C, (cL eI r.2.2.lists.count)), (p0H, (cL eI r.2.2.heads)), (p0X, (cL eI r.2.2.next_)), (p0G, (cL e_aEn r.2.2.things))]) := by
 unfold L11_do at H
 refine ACall.outB [(p0, [(.ref p0B 0), (.ref p0I 0), (.vec p0H 1 (r.2.2.heads).length), (.vec p0X 1 (r.2.2.next_).length), (.vec p0G 5 (r.2.2.things).length), (eI r.2.2.count)]), (p0B, (c_slab_Budget r.2.2.budget)), (p0I, [(.vec p0N 4 (r.2.2.lists.nodes).length), (.vec p0F 1 (r.2.2.lists.first_).length), (.vec p0L 1 (r.2.2.lists.last_).length), (.vec p0C 1 (r.2.2.lists.count).length), (eI r.2.2.lists.free), (eI r.2.2.lists.clock)]), (p0N, (cL e_lists_link r.2.2.lists.nodes)), (p0F, (cL eI r.2.2.lists.first_)), (p0L, (cL eI r.2.2.lists.last_)), (p0C, (cL eI r.2.2.lists.count)), (p0H, (cL eI r.2.2.heads)), (p0X, (cL eI r.2.2.next_)), (p0G, (cL e_aEn r.2.2.things))] (by simp only [List.mem_cons, List.not_mem_nil, or_false]; rintro _ (rfl | rfl | rfl | rfl | rfl | rfl | rfl | rfl | rfl | rfl) <;> first | exact c_slab_Budget_cut _ _ _ | exact cut_cL enc108.cut _ _ _ | exact cut_cL (enc_i64 td3 sz3).cut _ _ _ | exact cut_cL enc25.cut _ _ _ | (simp only [cutL, cut_ref_id (idl_get h0_budget), cut_ref_id (idl_get h0_lists), cut_vec_id (idl_get h0_heads), cut_vec_id (idl_get h0_next_), cut_vec_id (idl_get h0_things), (enc_i64 td3 sz3).cut _ _]; done) | (simp only [cutL, cut_vec_id (idl_get h0_lists_nodes), cut_vec_id (idl_get h0_lists_first_), cut_vec_id (idl_get h0_lists_last_), cut_vec_id (idl_get h0_lists_count), (enc_i64 td3 sz3).cut _ _]; done)) (acall_start tk Tryz.func10 (by decide) rfl (nb rfl) ?_)
 have hH := Holds.brings (σ := σ) [(p0, [(.ref p0B 0), (.ref p0I 0), (.vec p0H 1 (x0.heads).length), (.vec p0X 1 (x0.next_).length), (.vec p0G 5 (x0.things).length), (eI x0.count)]), (p0B, (c_slab_Budget x0.budget)), (p0I, [(.vec p0N 4 (x0.lists.nodes).length), (.vec p0F 1 (x0.lists.first_).length), (.vec p0L 1 (x0.lists.last_).length), (.vec p0C 1 (x0.lists.count).length), (eI x0.lists.free), (eI x0.lists.clock)]), (p0N, (cL e_lists_link x0.lists.nodes)), (p0F, (cL eI x0.lists.first_)), (p0L, (cL eI x0.lists.last_)), (p0C, (cL eI x0.lists.count)), (p0H, (cL eI x0.heads)), (p0X, (cL eI x0.next_)), (p0G, (cL e_aEn x0.things))] (by simp only [List.mem_cons, List.not_mem_nil, or_false]; rintro _ (rfl | rfl | rfl | rfl | rfl | rfl | rfl | rfl | rfl | rfl) <;> assumption) hd
 refine sr rfl (m_ (.fptr (c_R11_Ram x1) 0) rfl (o_boxf tk rfl wr (b := (e_R11_Ram x1)) (enc37.flat _)) (m_ (.fptr (c_L11_Op x2) 0) rfl (o_boxf tk rfl wr (b := (e_L11_Op x2)) (enc44.flat _)) ?_))
 refine wpo_a (av := fun id => .ref id 0) rfl rfl rfl (h_alloc tk hH ty37 [(eI z_R11_Ram.Limit), AV.nils] rfl) fun id1 τ ⟨hH, n2⟩ => ?_
 refine ma tk (eB false) rfl rfl (wpo_nil (awp_seq (sr rfl (mc tk (.fptr (c_L11_Op x2) 0) rfl rfl (fun _ => rfl) (m_ (eI x2.Kind) rfl (o_ld tk rfl rfl) (wpo_nil (awp_block (sr rfl ?_))))))))
 refine l_ H eB rfl (o_ar tk rfl rfl rfl) fun v4 H3 => ?_
 refine ma tk (eB v4) rfl rfl (wpo_nil ?_)
 refine awp_if H3 rfl (fun H5 => ?_) (fun H5 => ?_)
 ·refine sr rfl (m_ (e_R11_Ram x1) rfl (o_ld tk rfl rfl) (mc tk (.fptr (c_L11_Op x2) 1) rfl rfl (fun _ => rfl) (m_ (e_aEn x2.X) rfl (o_ld tk rfl rfl) (mc tk (.fptr (c_L11_Op x2) 6) rfl rfl (fun _ => rfl) (m_ (eI x2.Now) rfl (o_ld tk rfl rfl) ?_)))))
  refine b_ H5 (fun r => .tup [e_R11_Ram r.1, (eL 5 e_aEn) r.2.1, eI r.2.2]) rfl (fun v7 hv => OpP.of_call rfl rfl (.cons wr (.cons wr (.cons wr .nil))) (R11_Set_ok hv)) fun v7 hv7 H6 => ?_
  refine mm tk (.tup [(e_R11_Ram v7.1), ((eL 5 e_aEn) v7.2.1), (eI v7.2.2)]) rfl rfl (m_ (e_R11_Ram v7.1) rfl (o_ext tk rfl rfl) (m_ ((eL 5 e_aEn) v7.2.1) rfl (o_ext tk rfl rfl) (m_ (eI v7.2.2) rfl (o_ext tk rfl rfl) ?_)))
  refine wpo_a (av := fun id => .ref id 0) rfl rfl rfl (h_alloc tk hH ty37 [(eI z_R11_Ram.Limit), AV.nils] rfl) fun id8 τ ⟨hH, n9⟩ => ?_
  refine wpo_z rfl rfl (h_st tk hH 0 rfl ty37 (by simp) rfl rfl wr (b := (e_R11_Ram v7.1)) (enc37.flat _) rfl (nb rfl) (c_R11_Ram (v7.1 : R11_Ram)) rfl) fun τ hH => ?_
  refine ma tk ((eL 5 e_aEn) v7.2.1) rfl rfl (ma tk (eI v7.2.2) rfl rfl (wpo_nil (sr rfl (mm tk (.ref p0 0) rfl rfl (mc tk (.fptr (c_L11_Op x2) 1) rfl rfl (fun _ => rfl) (m_ (e_aEn x2.X) rfl (o_ld tk rfl rfl) (mc tk (.fptr (c_L11_Op x2) 6) rfl rfl (fun _ => rfl) (m_ (eI x2.Now) rfl (o_ld tk rfl rfl) ?_))))))))
  refine wpo_cb H6 (fun x _ => .tup [(eL 5 e_aEn) x.1, eErr x.2.1]) rfl rfl rfl (fun v12 hv => h_call1 hH [(2, (p0, [(.ref p0B 0), (.ref p0I 0), (.vec p0H 1 (v12.2.2.heads).length), (.vec p0X 1 (v12.2.2.next_).length), (.vec p0G 5 (v12.2.2.things).length), (eI v12.2.2.count)])), (3, (p0B, (c_slab_Budget v12.2.2.budget))), (4, (p0I, [(.vec p0N 4 (v12.2.2.lists.nodes).length), (.vec p0F 1 (v12.2.2.lists.first_).length), (.vec p0L 1 (v12.2.2.lists.last_).length), (.vec p0C 1 (v12.2.2.lists.count).length), (eI v12.2.2.lists.free), (eI v12.2.2.lists.clock)])), (5, (p0N, (cL e_lists_link v12.2.2.lists.nodes))), (6, (p0F, (cL eI v12.2.2.lists.first_))), (7, (p0L, (cL eI v12.2.2.lists.last_))), (8, (p0C, (cL eI v12.2.2.lists.count))), (9, (p0H, (cL eI v12.2.2.heads))), (10, (p0X, (cL eI v12.2.2.next_))), (11, (p0G, (cL e_aEn v12.2.2.things)))] ⟨⟨_, rfl⟩, ⟨⟨_, rfl⟩, ⟨⟨_, rfl⟩, ⟨⟨_, rfl⟩, ⟨⟨_, rfl⟩, ⟨⟨_, rfl⟩, ⟨⟨_, rfl⟩, ⟨⟨_, rfl⟩, ⟨⟨_, rfl⟩, ⟨⟨_, rfl⟩, trivial⟩⟩⟩⟩⟩⟩⟩⟩⟩⟩ rfl rfl (.cons wr (.cons wr (.cons wr .nil))) (ram_Ram_Set_ok hv _ (hH.at_ 2 rfl) (hH.at_ 3 rfl) (hH.at_ 4 rfl) (hH.at_ 5 rfl) (hH.at_ 6 rfl) (hH.at_ 7 rfl) (hH.at_ 8 rfl) (hH.at_ 9 rfl) (hH.at_ 10 rfl) (hH.at_ 11 rfl) (hH.pw [2, 3, 4, 5, 6, 7, 8, 9, 10, 11] rfl (by decide)))) fun v12 _ τ hv12 H11 (hH : Holds σ [(id8, (c_R11_Ram (v7.1 : R11_Ram))), (id1, [(eI z_R11_Ram.Limit), AV.nils]), (p0, [(.ref p0B 0), (.ref p0I 0), (.vec p0H 1 (v12.2.2.heads).length), (.vec p0X 1 (v12.2.2.next_).length), (.vec p0G 5 (v12.2.2.things).length), (eI v12.2.2.count)]), (p0B, (c_slab_Budget v12.2.2.budget)), (p0I, [(.vec p0N 4 (v12.2.2.lists.nodes).length), (.vec p0F 1 (v12.2.2.lists.first_).length), (.vec p0L 1 (v12.2.2.lists.last_).length), (.vec p0C 1 (v12.2.2.lists.count).length), (eI v12.2.2.lists.free), (eI v12.2.2.lists.clock)]), (p0N, (cL e_lists_link v12.2.2.lists.nodes)), (p0F, (cL eI v12.2.2.lists.first_)), (p0L, (cL eI v12.2.2.lists.last_)), (p0C, (cL eI v12.2.2.lists.count)), (p0H, (cL eI v12.2.2.heads)), (p0X, (cL eI v12.2.2.next_)), (p0G, (cL e_aEn v12.2.2.things))] [] τ) => ?_
  refine mm tk (.tup [((eL 5 e_aEn) v12.1), (eErr v12.2.1)]) rfl rfl (m_ ((eL 5 e_aEn) v12.1) rfl (o_ext tk rfl rfl) (m_ (eErr v12.2.1) rfl (o_ext tk rfl rfl) (ma tk ((eL 5 e_aEn) v12.1) rfl rfl (ma tk (eErr v12.2.1) rfl rfl (wpo_nil (awp_seq ?_))))))
  refine awp_drawS mixed [10] rfl (by decide +kernel) rfl rfl ?_
  refine wpdS_rd (a := (e_R11_Ram (v7.1 : R11_Ram))) rfl (by decide +kernel) rfl rfl (h_ld tk hH 0 rfl rfl rfl) (wpdS_mv (a := ((eL 5 e_aEn) v12.1)) rfl rfl rfl (o_mv tk rfl (Wk.refl _)) (wpdS_mv (a := ((eL 5 e_aEn) v7.2.1)) rfl rfl rfl (o_mv tk rfl (Wk.refl _)) ?_))
  refine wpdS_bd H11 eB rfl rfl rfl (fun v14 hv => OpP.of_call rfl rfl (.cons wr (.cons wr .nil)) (R06_SameAll_ok hv)) fun v14 hv14 H13 => ?_
  refine wpdS_mv (a := (eB v14)) rfl rfl rfl (o_mv tk rfl (Wk.refl _)) ?_
  refine if_split H13 (fun hb H15 => ?_) (fun hb H15 => ?_)
  ·subst hb
   refine wpdS_mv (a := (eErr v12.2.1)) rfl rfl rfl (o_mv tk rfl (Wk.refl _)) ?_
   refine wpdS_bdr H15 eI rfl (by decide +kernel) rfl rfl (fun v17 hv => h_callr rfl rfl (.cons wr .nil) (trouble_Of_ok hv _ (hH.gl.trans hg))) fun v17 hv17 H16 => ?_
   refine wpdS_mv (a := (eI v7.2.2)) rfl rfl rfl (o_mv tk rfl (Wk.refl _)) ?_
   refine wpdS_lt H16 eB rfl rfl rfl (o_ar tk rfl rfl rfl) fun v19 H18 => ?_
   refine wpdS_mv (a := (eB v19)) rfl rfl rfl (o_pick_t tk rfl rfl (Wk.refl _)) ?_
   refine wpdS_z rfl rfl rfl (h_st tk hH 1 rfl ty37 (by simp) rfl rfl wr (b := (e_R11_Ram (v7.1 : R11_Ram))) (enc37.flat _) rfl (nb rfl) (c_R11_Ram ((v7.1 : R11_Ram) : R11_Ram)) rfl) fun τ hH => ?_
   refine wpdS_mv (a := (eB v19)) rfl rfl rfl (o_as tk rfl (Wk.refl _)) (wpdS_nil (awp_ret ?_))
   obtain rfl := oi H18
   exact ⟨_, (.tup [(e_R11_Ram ((v7.1 : R11_Ram) : R11_Ram)), (eB v19)]), (ares_2 (ares_cell hH 1 rfl rfl rfl) rfl), (wk_tup (.cons wr (.cons wr .nil))), .of_eq (by simp only [cutAV, cutL, enc37.cut _ _ _, (enc_b td4 sz4).cut _ _ _]), ((hH.noT.drop n9).drop n2)⟩
  ·subst hb
   refine wpdS_skip rfl rfl rfl (wpdS_skip rfl rfl rfl (wpdS_skip rfl rfl rfl (wpdS_skip rfl rfl rfl (wpdS_mv (a := (eB false)) rfl rfl rfl (o_pick_f tk rfl rfl (Wk.refl _)) ?_))))
   refine wpdS_z rfl rfl rfl (h_st tk hH 1 rfl ty37 (by simp) rfl rfl wr (b := (e_R11_Ram (v7.1 : R11_Ram))) (enc37.flat _) rfl (nb rfl) (c_R11_Ram ((v7.1 : R11_Ram) : R11_Ram)) rfl) fun τ hH => ?_
   refine wpdS_mv (a := (eB false)) rfl rfl rfl (o_as tk rfl (Wk.refl _)) (wpdS_nil (awp_ret ?_))
   obtain rfl := oi H15
   exact ⟨_, (.tup [(e_R11_Ram ((v7.1 : R11_Ram) : R11_Ram)), (eB false)]), (ares_2 (ares_cell hH 1 rfl rfl rfl) rfl), (wk_tup (.cons wr (.cons wr .nil))), .of_eq (by simp only [cutAV, cutL, enc37.cut _ _ _, (enc_b td4 sz4).cut _ _ _]), ((hH.noT.drop n9).drop n2)⟩
 ·refine sr rfl ?_
  refine l_ H5 eB rfl (o_ar tk rfl rfl rfl) fun v23 H22 => ?_
  refine ma tk (eB v23) rfl rfl (wpo_nil ?_)
  refine awp_if H22 rfl (fun H24 => ?_) (fun H24 => ?_)
  ·refine sr rfl (m_ (e_R11_Ram x1) rfl (o_ld tk rfl rfl) (mc tk (.fptr (c_L11_Op x2) 1) rfl rfl (fun _ => rfl) (mc tk (.fptr (c_L11_Op x2) 1) rfl rfl (fun _ => rfl) (m_ (eS x2.X.Key) rfl (o_ld tk rfl rfl) (mc tk (.fptr (c_L11_Op x2) 6) rfl rfl (fun _ => rfl) (m_ (eI x2.Now) rfl (o_ld tk rfl rfl) ?_))))))
   refine b_ H24 (fun r => .tup [e_R11_Ram r.1, e_aEn r.2.1, eB r.2.2]) rfl (fun v26 hv => OpP.of_call rfl rfl (.cons wr (.cons wr (.cons wr .nil))) (R11_Get_ok hv)) fun v26 hv26 H25 => ?_
   refine mm tk (.tup [(e_R11_Ram v26.1), (e_aEn v26.2.1), (eB v26.2.2)]) rfl rfl (m_ (e_R11_Ram v26.1) rfl (o_ext tk rfl rfl) (m_ (e_aEn v26.2.1) rfl (o_ext tk rfl rfl) (m_ (eB v26.2.2) rfl (o_ext tk rfl rfl) ?_)))
   refine wpo_a (av := fun id => .ref id 0) rfl rfl rfl (h_alloc tk hH ty37 [(eI z_R11_Ram.Limit), AV.nils] rfl) fun id27 τ ⟨hH, n28⟩ => ?_
   refine wpo_a (av := fun id => .ref id 0) rfl rfl rfl (h_alloc tk hH ty25 [(eS z_aEn.Key), (eI z_aEn.Version), (eI z_aEn.AsOf), (eI z_aEn.Ends), AV.nils] rfl) fun id29 τ ⟨hH, n30⟩ => ?_
   refine wpo_z rfl rfl (h_st tk hH 1 rfl ty37 (by simp) rfl rfl wr (b := (e_R11_Ram v26.1)) (enc37.flat _) rfl (nb rfl) (c_R11_Ram (v26.1 : R11_Ram)) rfl) fun τ hH => ?_
   refine wpo_z rfl rfl (h_st tk hH 0 rfl ty25 (by simp) rfl rfl wr (b := (e_aEn v26.2.1)) (enc25.flat _) rfl (nb rfl) (c_aEn (v26.2.1 : aEn)) rfl) fun τ hH => ?_
   refine ma tk (eB v26.2.2) rfl rfl (wpo_nil (sr rfl (mm tk (.ref p0 0) rfl rfl (mc tk (.fptr (c_L11_Op x2) 1) rfl rfl (fun _ => rfl) (mc tk (.fptr (c_L11_Op x2) 1) rfl rfl (fun _ => rfl) (m_ (eS x2.X.Key) rfl (o_ld tk rfl rfl) (mc tk (.fptr (c_L11_Op x2) 6) rfl rfl (fun _ => rfl) (m_ (eI x2.Now) rfl (o_ld tk rfl rfl) ?_))))))))
   refine wpo_cb H25 (fun x _ => .tup [e_aEn x.1, eB x.2.1]) rfl rfl rfl (fun v34 hv => h_call1 hH [(3, (p0, [(.ref p0B 0), (.ref p0I 0), (.vec p0H 1 (v34.2.2.heads).length), (.vec p0X 1 (v34.2.2.next_).length), (.vec p0G 5 (v34.2.2.things).length), (eI v34.2.2.count)])), (4, (p0B, (c_slab_Budget v34.2.2.budget))), (5, (p0I, [(.vec p0N 4 (v34.2.2.lists.nodes).length), (.vec p0F 1 (v34.2.2.lists.first_).length), (.vec p0L 1 (v34.2.2.lists.last_).length), (.vec p0C 1 (v34.2.2.lists.count).length), (eI v34.2.2.lists.free), (eI v34.2.2.lists.clock)])), (6, (p0N, (cL e_lists_link v34.2.2.lists.nodes))), (7, (p0F, (cL eI v34.2.2.lists.first_))), (8, (p0L, (cL eI v34.2.2.lists.last_))), (9, (p0C, (cL eI v34.2.2.lists.count))), (10, (p0H, (cL eI v34.2.2.heads))), (11, (p0X, (cL eI v34.2.2.next_))), (12, (p0G, (cL e_aEn v34.2.2.things)))] ⟨⟨_, rfl⟩, ⟨⟨_, rfl⟩, ⟨⟨_, rfl⟩, ⟨⟨_, rfl⟩, ⟨⟨_, rfl⟩, ⟨⟨_, rfl⟩, ⟨⟨_, rfl⟩, ⟨⟨_, rfl⟩, ⟨⟨_, rfl⟩, ⟨⟨_, rfl⟩, trivial⟩⟩⟩⟩⟩⟩⟩⟩⟩⟩ rfl rfl (.cons wr (.cons wr (.cons wr .nil))) (ram_Ram_Get_ok hv _ (hH.at_ 3 rfl) (hH.at_ 4 rfl) (hH.at_ 5 rfl) (hH.at_ 6 rfl) (hH.at_ 7 rfl) (hH.at_ 8 rfl) (hH.at_ 9 rfl) (hH.at_ 10 rfl) (hH.at_ 11 rfl) (hH.at_ 12 rfl) (hH.pw [3, 4, 5, 6, 7, 8, 9, 10, 11, 12] rfl (by decide)))) fun v34 _ τ hv34 H33 (hH : Holds σ [(id29, (c_aEn (v26.2.1 : aEn))), (id27, (c_R11_Ram (v26.1 : R11_Ram))), (id1, [(eI z_R11_Ram.Limit), AV.nils]), (p0, [(.ref p0B 0), (.ref p0I 0), (.vec p0H 1 (v34.2.2.heads).length), (.vec p0X 1 (v34.2.2.next_).length), (.vec p0G 5 (v34.2.2.things).length), (eI v34.2.2.count)]), (p0B, (c_slab_Budget v34.2.2.budget)), (p0I, [(.vec p0N 4 (v34.2.2.lists.nodes).length), (.vec p0F 1 (v34.2.2.lists.first_).length), (.vec p0L 1 (v34.2.2.lists.last_).length), (.vec p0C 1 (v34.2.2.lists.count).length), (eI v34.2.2.lists.free), (eI v34.2.2.lists.clock)]), (p0N, (cL e_lists_link v34.2.2.lists.nodes)), (p0F, (cL eI v34.2.2.lists.first_)), (p0L, (cL eI v34.2.2.lists.last_)), (p0C, (cL eI v34.2.2.lists.count)), (p0H, (cL eI v34.2.2.heads)), (p0X, (cL eI v34.2.2.next_)), (p0G, (cL e_aEn v34.2.2.things))] [] τ) => ?_
   refine mm tk (.tup [(e_aEn v34.1), (eB v34.2.1)]) rfl rfl (m_ (e_aEn v34.1) rfl (o_ext tk rfl rfl) (m_ (eB v34.2.1) rfl (o_ext tk rfl rfl) ?_))
   refine wpo_a (av := fun id => .ref id 0) rfl rfl rfl (h_alloc tk hH ty25 [(eS z_aEn.Key), (eI z_aEn.Version), (eI z_aEn.AsOf), (eI z_aEn.Ends), AV.nils] rfl) fun id35 τ ⟨hH, n36⟩ => ?_
   refine wpo_z rfl rfl (h_st tk hH 0 rfl ty25 (by simp) rfl rfl wr (b := (e_aEn v34.1)) (enc25.flat _) rfl (nb rfl) (c_aEn (v34.1 : aEn)) rfl) fun τ hH => ?_
   refine ma tk (eB v34.2.1) rfl rfl (wpo_nil (awp_seq ?_))
   refine awp_drawS mixed [9] rfl (by decide +kernel) rfl rfl ?_
   refine wpdS_rd (a := (e_R11_Ram (v26.1 : R11_Ram))) rfl (by decide +kernel) rfl rfl (h_ld tk hH 2 rfl rfl rfl) (wpdS_rd (a := (e_aEn (v26.2.1 : aEn))) rfl (by decide +kernel) rfl rfl (h_ld tk hH 1 rfl rfl rfl) (wpdS_rd (a := (e_aEn (v34.1 : aEn))) rfl (by decide +kernel) rfl rfl (h_ld tk hH 0 rfl rfl rfl) ?_))
   refine wpdS_bd H33 eB rfl rfl rfl (fun v39 hv => OpP.of_call rfl rfl (.cons wr (.cons wr .nil)) (R06_Same_ok hv)) fun v39 hv39 H38 => ?_
   refine wpdS_mv (a := (eB v39)) rfl rfl rfl (o_mv tk rfl (Wk.refl _)) ?_
   refine if_split H38 (fun hb H40 => ?_) (fun hb H40 => ?_)
   ·subst hb
    refine wpdS_mv (a := (eB v26.2.2)) rfl rfl rfl (o_mv tk rfl (Wk.refl _)) (wpdS_mv (a := (eB v34.2.1)) rfl rfl rfl (o_mv tk rfl (Wk.refl _)) ?_)
    refine wpdS_lt H40 eB rfl rfl rfl (o_bool_eql tk td4 rfl rfl) fun v42 H41 => ?_
    refine wpdS_mv (a := (eB v42)) rfl rfl rfl (o_pick_t tk rfl rfl (Wk.refl _)) ?_
    refine wpdS_z rfl rfl rfl (h_st tk hH 3 rfl ty37 (by simp) rfl rfl wr (b := (e_R11_Ram (v26.1 : R11_Ram))) (enc37.flat _) rfl (nb rfl) (c_R11_Ram ((v26.1 : R11_Ram) : R11_Ram)) rfl) fun τ hH => ?_
    refine wpdS_mv (a := (eB v42)) rfl rfl rfl (o_as tk rfl (Wk.refl _)) (wpdS_nil (awp_ret ?_))
    obtain rfl := oi H41
    exact ⟨_, (.tup [(e_R11_Ram ((v26.1 : R11_Ram) : R11_Ram)), (eB v42)]), (ares_2 (ares_cell hH 3 rfl rfl rfl) rfl), (wk_tup (.cons wr (.cons wr .nil))), .of_eq (by simp only [cutAV, cutL, enc37.cut _ _ _, (enc_b td4 sz4).cut _ _ _]), ((((hH.noT.drop n36).drop n30).drop n28).drop n2)⟩
   ·subst hb
    refine wpdS_skip rfl rfl rfl (wpdS_skip rfl rfl rfl (wpdS_skip rfl rfl rfl (wpdS_mv (a := (eB false)) rfl rfl rfl (o_pick_f tk rfl rfl (Wk.refl _)) ?_)))
    refine wpdS_z rfl rfl rfl (h_st tk hH 3 rfl ty37 (by simp) rfl rfl wr (b := (e_R11_Ram (v26.1 : R11_Ram))) (enc37.flat _) rfl (nb rfl) (c_R11_Ram ((v26.1 : R11_Ram) : R11_Ram)) rfl) fun τ hH => ?_
    refine wpdS_mv (a := (eB false)) rfl rfl rfl (o_as tk rfl (Wk.refl _)) (wpdS_nil (awp_ret ?_))
    obtain rfl := oi H40
    exact ⟨_, (.tup [(e_R11_Ram ((v26.1 : R11_Ram) : R11_Ram)), (eB false)]), (ares_2 (ares_cell hH 3 rfl rfl rfl) rfl), (wk_tup (.cons wr (.cons wr .nil))), .of_eq (by simp only [cutAV, cutL, enc37.cut _ _ _, (enc_b td4 sz4).cut _ _ _]), ((((hH.noT.drop n36).drop n30).drop n28).drop n2)⟩
  ·refine sr rfl ?_
   refine l_ H24 eB rfl (o_ar tk rfl rfl rfl) fun v46 H45 => ?_
   refine ma tk (eB v46) rfl rfl (wpo_nil ?_)
   refine awp_if H45 rfl (fun H47 => ?_) (fun H47 => ?_)
   ·refine sr rfl (mc tk (.fptr (c_R11_Ram x1) 1) rfl rfl (fun _ => rfl) (m_ ((eL 5 e_aEn) x1.L) rfl (o_ld tk rfl rfl) (mc tk (.fptr (c_L11_Op x2) 1) rfl rfl (fun _ => rfl) (mc tk (.fptr (c_L11_Op x2) 1) rfl rfl (fun _ => rfl) (m_ (eS x2.X.Key) rfl (o_ld tk rfl rfl) ?_)))))
    refine b_ H47 eI rfl (fun v49 hv => OpP.of_call rfl rfl (.cons wr (.cons wr .nil)) (R06_Find_ok hv)) fun v49 hv49 H48 => ?_
    refine ma tk (eI v49) rfl rfl (wpo_nil (sr rfl (mm tk (.ref p0 0) rfl rfl (mc tk (.fptr (c_L11_Op x2) 1) rfl rfl (fun _ => rfl) (mc tk (.fptr (c_L11_Op x2) 1) rfl rfl (fun _ => rfl) (m_ (eS x2.X.Key) rfl (o_ld tk rfl rfl) ?_))))))
    refine wpo_cb H48 (fun x _ => .tup [e_aEn x.1, eB x.2.1]) rfl rfl rfl (fun v51 hv => h_call1 hH [(1, (p0, [(.ref p0B 0), (.ref p0I 0), (.vec p0H 1 (v51.2.2.heads).length), (.vec p0X 1 (v51.2.2.next_).length), (.vec p0G 5 (v51.2.2.things).length), (eI v51.2.2.count)])), (2, (p0B, (c_slab_Budget v51.2.2.budget))), (3, (p0I, [(.vec p0N 4 (v51.2.2.lists.nodes).length), (.vec p0F 1 (v51.2.2.lists.first_).length), (.vec p0L 1 (v51.2.2.lists.last_).length), (.vec p0C 1 (v51.2.2.lists.count).length), (eI v51.2.2.lists.free), (eI v51.2.2.lists.clock)])), (4, (p0N, (cL e_lists_link v51.2.2.lists.nodes))), (5, (p0F, (cL eI v51.2.2.lists.first_))), (6, (p0L, (cL eI v51.2.2.lists.last_))), (7, (p0C, (cL eI v51.2.2.lists.count))), (8, (p0H, (cL eI v51.2.2.heads))), (9, (p0X, (cL eI v51.2.2.next_))), (10, (p0G, (cL e_aEn v51.2.2.things)))] ⟨⟨_, rfl⟩, ⟨⟨_, rfl⟩, ⟨⟨_, rfl⟩, ⟨⟨_, rfl⟩, ⟨⟨_, rfl⟩, ⟨⟨_, rfl⟩, ⟨⟨_, rfl⟩, ⟨⟨_, rfl⟩, ⟨⟨_, rfl⟩, ⟨⟨_, rfl⟩, trivial⟩⟩⟩⟩⟩⟩⟩⟩⟩⟩ rfl rfl (.cons wr (.cons wr .nil)) (ram_Ram_Drop_ok hv _ (hH.at_ 1 rfl) (hH.at_ 2 rfl) (hH.at_ 3 rfl) (hH.at_ 4 rfl) (hH.at_ 5 rfl) (hH.at_ 6 rfl) (hH.at_ 7 rfl) (hH.at_ 8 rfl) (hH.at_ 9 rfl) (hH.at_ 10 rfl) (hH.pw [1, 2, 3, 4, 5, 6, 7, 8, 9, 10] rfl (by decide)))) fun v51 _ τ hv51 H50 (hH : Holds σ [(id1, [(eI z_R11_Ram.Limit), AV.nils]), (p0, [(.ref p0B 0), (.ref p0I 0), (.vec p0H 1 (v51.2.2.heads).length), (.vec p0X 1 (v51.2.2.next_).length), (.vec p0G 5 (v51.2.2.things).length), (eI v51.2.2.count)]), (p0B, (c_slab_Budget v51.2.2.budget)), (p0I, [(.vec p0N 4 (v51.2.2.lists.nodes).length), (.vec p0F 1 (v51.2.2.lists.first_).length), (.vec p0L 1 (v51.2.2.lists.last_).length), (.vec p0C 1 (v51.2.2.lists.count).length), (eI v51.2.2.lists.free), (eI v51.2.2.lists.clock)]), (p0N, (cL e_lists_link v51.2.2.lists.nodes)), (p0F, (cL eI v51.2.2.lists.first_)), (p0L, (cL eI v51.2.2.lists.last_)), (p0C, (cL eI v51.2.2.lists.count)), (p0H, (cL eI v51.2.2.heads)), (p0X, (cL eI v51.2.2.next_)), (p0G, (cL e_aEn v51.2.2.things))] [] τ) => ?_
    refine mm tk (.tup [(e_aEn v51.1), (eB v51.2.1)]) rfl rfl (m_ (e_aEn v51.1) rfl (o_ext tk rfl rfl) (m_ (eB v51.2.1) rfl (o_ext tk rfl rfl) ?_))
    refine wpo_a (av := fun id => .ref id 0) rfl rfl rfl (h_alloc tk hH ty25 [(eS z_aEn.Key), (eI z_aEn.Version), (eI z_aEn.AsOf), (eI z_aEn.Ends), AV.nils] rfl) fun id52 τ ⟨hH, n53⟩ => ?_
    refine wpo_z rfl rfl (h_st tk hH 0 rfl ty25 (by simp) rfl rfl wr (b := (e_aEn v51.1)) (enc25.flat _) rfl (nb rfl) (c_aEn (v51.1 : aEn)) rfl) fun τ hH => ?_
    refine ma tk (eB v51.2.1) rfl rfl (wpo_nil (awp_seq (sr rfl (mm tk (eI v49) rfl rfl ?_))))
    refine l_ H50 eB rfl (o_ar tk rfl rfl rfl) fun v56 H55 => ?_
    refine wpo_nil ?_
    refine awp_if H55 rfl (fun H57 => ?_) (fun H57 => ?_)
    ·refine awp_seq ?_
     refine awp_drawS mixed [8] rfl (by decide +kernel) rfl rfl ?_
     refine wpdS_mv (a := (e_R11_Ram x1)) rfl rfl rfl (o_ld tk rfl rfl) (wpdS_mv (a := (eB v51.2.1)) rfl rfl rfl (o_mv tk rfl (Wk.refl _)) ?_)
     refine wpdS_lt H57 eB rfl rfl rfl (o_un tk rfl rfl) fun v59 H58 => ?_
     refine wpdS_mv (a := (eB v59)) rfl rfl rfl (o_mv tk rfl (Wk.refl _)) ?_
     refine if_split H58 (fun hb H60 => ?_) (fun hb H60 => ?_)
     ·subst hb
      refine wpdS_rd (a := (e_aEn (v51.1 : aEn))) rfl (by decide +kernel) rfl rfl (h_ld tk hH 0 rfl rfl rfl) (wpdS_mv (a := (.agg [(eS (⟨[], 0, 0, 0, []⟩ : aEn).Key), (eI (⟨[], 0, 0, 0, []⟩ : aEn).Version), (eI (⟨[], 0, 0, 0, []⟩ : aEn).AsOf), (eI (⟨[], 0, 0, 0, []⟩ : aEn).Ends), AV.nils])) rfl rfl rfl (o_c tk false rfl (fun _ => rfl)) ?_)
      refine wpdS_bd H60 eB rfl rfl rfl (fun v62 hv => OpP.of_call rfl rfl (.cons wr (.cons (wk_agg (.cons wr (.cons wr (.cons wr (.cons wr (.cons (wk_nils _) .nil)))))) .nil)) (R06_Same_ok hv)) fun v62 hv62 H61 => ?_
      refine wpdS_mv (a := (eB v62)) rfl rfl rfl (o_pick_t tk rfl rfl (Wk.refl _)) ?_
      refine wpdS_z rfl rfl rfl (h_st tk hH 1 rfl ty37 (by simp) rfl rfl wr (b := (e_R11_Ram x1)) (enc37.flat _) rfl (nb rfl) (c_R11_Ram (x1 : R11_Ram)) rfl) fun τ hH => ?_
      refine wpdS_mv (a := (eB v62)) rfl rfl rfl (o_as tk rfl (Wk.refl _)) (wpdS_nil (awp_ret ?_))
      obtain rfl := oi H61
      exact ⟨_, (.tup [(e_R11_Ram (x1 : R11_Ram)), (eB v62)]), (ares_2 (ares_cell hH 1 rfl rfl rfl) rfl), (wk_tup (.cons wr (.cons wr .nil))), .of_eq (by simp only [cutAV, cutL, enc37.cut _ _ _, (enc_b td4 sz4).cut _ _ _]), ((hH.noT.drop n53).drop n2)⟩
     ·subst hb
      refine wpdS_skip rfl rfl rfl (wpdS_skip rfl rfl rfl (wpdS_skip rfl rfl rfl (wpdS_mv (a := (eB false)) rfl rfl rfl (o_pick_f tk rfl rfl (Wk.refl _)) ?_)))
      refine wpdS_z rfl rfl rfl (h_st tk hH 1 rfl ty37 (by simp) rfl rfl wr (b := (e_R11_Ram x1)) (enc37.flat _) rfl (nb rfl) (c_R11_Ram (x1 : R11_Ram)) rfl) fun τ hH => ?_
      refine wpdS_mv (a := (eB false)) rfl rfl rfl (o_as tk rfl (Wk.refl _)) (wpdS_nil (awp_ret ?_))
      obtain rfl := oi H60
      exact ⟨_, (.tup [(e_R11_Ram (x1 : R11_Ram)), (eB false)]), (ares_2 (ares_cell hH 1 rfl rfl rfl) rfl), (wk_tup (.cons wr (.cons wr .nil))), .of_eq (by simp only [cutAV, cutL, enc37.cut _ _ _, (enc_b td4 sz4).cut _ _ _]), ((hH.noT.drop n53).drop n2)⟩
    ·refine awp_skip (awp_seq ?_)
     refine awp_drawS mixed [13] rfl (by decide +kernel) rfl rfl ?_
     refine wpdS_mv (a := (e_R11_Ram x1)) rfl rfl rfl (o_ld tk rfl rfl) (wpdS_mv (a := (eI v49)) rfl rfl rfl (o_mv tk rfl (Wk.refl _)) ?_)
     refine wpdS_bd H57 e_R11_Ram rfl rfl rfl (fun v66 hv => OpP.of_call rfl rfl (.cons wr (.cons wr .nil)) (R11_But_ok hv)) fun v66 hv66 H65 => ?_
     refine wpdS_mv (a := (eB v51.2.1)) rfl rfl rfl (o_mv tk rfl (Wk.refl _)) (wpdS_mv (a := (eB v51.2.1)) rfl rfl rfl (o_mv tk rfl (Wk.refl _)) ?_)
     refine if_split H65 (fun hb H67 => ?_) (fun hb H67 => ?_)
     ·rw [hb]
      refine wpdS_rd (a := (e_aEn (v51.1 : aEn))) rfl (by decide +kernel) rfl rfl (h_ld tk hH 0 rfl rfl rfl) (wpdS_mv (a := (.fptr (c_R11_Ram x1) 1)) rfl rfl rfl (o_c tk false rfl (fun _ => rfl)) (wpdS_mv (a := ((eL 5 e_aEn) x1.L)) rfl rfl rfl (o_ld tk rfl rfl) (wpdS_mv (a := (eI v49)) rfl rfl rfl (o_mv tk rfl (Wk.refl _)) ?_)))
      refine wpdS_bd H67 (fun y => .fptr (e_aEn y).cells 0) rfl rfl rfl (fun v69 hv => o_ixa tk hv td35 enc25 rfl rfl) fun v69 hv69 H68 => ?_
      refine wpdS_mv (a := (e_aEn v69)) rfl rfl rfl (o_ld_e tk enc25 rfl rfl) ?_
      refine wpdS_bd H68 eB rfl rfl rfl (fun v71 hv => OpP.of_call rfl rfl (.cons wr (.cons wr .nil)) (R06_Same_ok hv)) fun v71 hv71 H70 => ?_
      refine wpdS_mv (a := (eB v71)) rfl rfl rfl (o_pick_t tk rfl rfl (Wk.refl _)) ?_
      refine wpdS_z rfl rfl rfl (h_st tk hH 1 rfl ty37 (by simp) rfl rfl wr (b := (e_R11_Ram v66)) (enc37.flat _) rfl (nb rfl) (c_R11_Ram (v66 : R11_Ram)) rfl) fun τ hH => ?_
      refine wpdS_mv (a := (eB v71)) rfl rfl rfl (o_as tk rfl (Wk.refl _)) (wpdS_nil (awp_ret ?_))
      obtain rfl := oi H70
      exact ⟨_, (.tup [(e_R11_Ram (v66 : R11_Ram)), (eB v71)]), (ares_2 (ares_cell hH 1 rfl rfl rfl) rfl), (wk_tup (.cons wr (.cons wr .nil))), .of_eq (by simp only [cutAV, cutL, enc37.cut _ _ _, (enc_b td4 sz4).cut _ _ _]), ((hH.noT.drop n53).drop n2)⟩
     ·rw [hb]
      refine wpdS_skip rfl rfl rfl (wpdS_skip rfl rfl rfl (wpdS_skip rfl rfl rfl (wpdS_skip rfl rfl rfl (wpdS_skip rfl rfl rfl (wpdS_skip rfl rfl rfl (wpdS_skip rfl rfl rfl (wpdS_mv (a := (eB false)) rfl rfl rfl (o_pick_f tk rfl rfl (Wk.refl _)) ?_)))))))
      refine wpdS_z rfl rfl rfl (h_st tk hH 1 rfl ty37 (by simp) rfl rfl wr (b := (e_R11_Ram v66)) (enc37.flat _) rfl (nb rfl) (c_R11_Ram (v66 : R11_Ram)) rfl) fun τ hH => ?_
      refine wpdS_mv (a := (eB false)) rfl rfl rfl (o_as tk rfl (Wk.refl _)) (wpdS_nil (awp_ret ?_))
      obtain rfl := oi H67
      exact ⟨_, (.tup [(e_R11_Ram (v66 : R11_Ram)), (eB false)]), (ares_2 (ares_cell hH 1 rfl rfl rfl) rfl), (wk_tup (.cons wr (.cons wr .nil))), .of_eq (by simp only [cutAV, cutL, enc37.cut _ _ _, (enc_b td4 sz4).cut _ _ _]), ((hH.noT.drop n53).drop n2)⟩
   ·refine sr rfl ?_
    refine l_ H47 eB rfl (o_ar tk rfl rfl rfl) fun v75 H74 => ?_
    refine ma tk (eB v75) rfl rfl (wpo_nil ?_)
    refine awp_if H74 rfl (fun H76 => ?_) (fun H76 => ?_)
    ·refine sr rfl (mc tk (.fptr (c_R11_Ram x1) 1) rfl rfl (fun _ => rfl) (m_ ((eL 5 e_aEn) x1.L) rfl (o_ld tk rfl rfl) (mc tk (.fptr (c_L11_Op x2) 1) rfl rfl (fun _ => rfl) (mc tk (.fptr (c_L11_Op x2) 1) rfl rfl (fun _ => rfl) (m_ (eS x2.X.Key) rfl (o_ld tk rfl rfl) ?_)))))
     refine b_ H76 eI rfl (fun v78 hv => OpP.of_call rfl rfl (.cons wr (.cons wr .nil)) (R06_Find_ok hv)) fun v78 hv78 H77 => ?_
     refine ma tk (eI v78) rfl rfl (wpo_nil (sr rfl (mm tk (.ref p0 0) rfl rfl (mc tk (.fptr (c_L11_Op x2) 1) rfl rfl (fun _ => rfl) (mc tk (.fptr (c_L11_Op x2) 1) rfl rfl (fun _ => rfl) (m_ (eS x2.X.Key) rfl (o_ld tk rfl rfl) ?_))))))
     refine wpo_bdr H77 (fun r => .tup [e_aEn r.1, eB r.2]) rfl rfl rfl (fun v80 hv => h_callr rfl rfl (.cons wr (.cons wr .nil)) (ram_Ram_Peek_ok hv _ (hH.at_ 1 rfl) (hH.at_ 2 rfl) (hH.at_ 3 rfl) (hH.at_ 4 rfl) (hH.at_ 5 rfl) (hH.at_ 6 rfl) (hH.at_ 7 rfl) (hH.at_ 8 rfl) (hH.at_ 9 rfl) (hH.at_ 10 rfl) (hH.pw [1, 2, 3, 4, 5, 6, 7, 8, 9, 10] rfl (by decide)))) fun v80 hv80 H79 => ?_
     refine mm tk (.tup [(e_aEn v80.1), (eB v80.2)]) rfl rfl (m_ (e_aEn v80.1) rfl (o_ext tk rfl rfl) (m_ (eB v80.2) rfl (o_ext tk rfl rfl) ?_))
     refine wpo_a (av := fun id => .ref id 0) rfl rfl rfl (h_alloc tk hH ty25 [(eS z_aEn.Key), (eI z_aEn.Version), (eI z_aEn.AsOf), (eI z_aEn.Ends), AV.nils] rfl) fun id81 τ ⟨hH, n82⟩ => ?_
     refine wpo_z rfl rfl (h_st tk hH 0 rfl ty25 (by simp) rfl rfl wr (b := (e_aEn v80.1)) (enc25.flat _) rfl (nb rfl) (c_aEn (v80.1 : aEn)) rfl) fun τ hH => ?_
     refine ma tk (eB v80.2) rfl rfl (wpo_nil (awp_seq ?_))
     refine awp_drawS mixed [18] rfl (by decide +kernel) rfl rfl ?_
     refine wpdS_mv (a := (e_R11_Ram x1)) rfl rfl rfl (o_ld tk rfl rfl) (wpdS_mv (a := (eB v80.2)) rfl rfl rfl (o_mv tk rfl (Wk.refl _)) (wpdS_mv (a := (eI v78)) rfl rfl rfl (o_mv tk rfl (Wk.refl _)) ?_))
     refine wpdS_lt H79 eB rfl rfl rfl (o_ar tk rfl rfl rfl) fun v85 H84 => ?_
     refine wpdS_lt H84 eB rfl rfl rfl (o_bool_eql tk td4 rfl rfl) fun v87 H86 => ?_
     refine wpdS_mv (a := (eB v87)) rfl rfl rfl (o_mv tk rfl (Wk.refl _)) ?_
     refine if_split H86 (fun hb H88 => ?_) (fun hb H88 => ?_)
     ·subst hb
      refine wpdS_mv (a := (eB v80.2)) rfl rfl rfl (o_mv tk rfl (Wk.refl _)) ?_
      refine wpdS_lt H88 eB rfl rfl rfl (o_un tk rfl rfl) fun v90 H89 => ?_
      refine wpdS_mv (a := (eB v90)) rfl rfl rfl (o_mv tk rfl (Wk.refl _)) ?_
      refine if_split H89 (fun hb H91 => ?_) (fun hb H91 => ?_)
      ·subst hb
       refine wpdS_skip rfl rfl rfl (wpdS_skip rfl rfl rfl (wpdS_skip rfl rfl rfl (wpdS_skip rfl rfl rfl (wpdS_skip rfl rfl rfl (wpdS_skip rfl rfl rfl (wpdS_skip rfl rfl rfl (wpdS_mv (a := (eB true)) rfl rfl rfl (o_pick_t tk rfl rfl (Wk.refl _)) (wpdS_mv (a := (eB true)) rfl rfl rfl (o_pick_t tk rfl rfl (Wk.refl _)) ?_))))))))
       refine wpdS_z rfl rfl rfl (h_st tk hH 1 rfl ty37 (by simp) rfl rfl wr (b := (e_R11_Ram x1)) (enc37.flat _) rfl (nb rfl) (c_R11_Ram (x1 : R11_Ram)) rfl) fun τ hH => ?_
       refine wpdS_mv (a := (eB true)) rfl rfl rfl (o_as tk rfl (Wk.refl _)) (wpdS_nil (awp_ret ?_))
       obtain rfl := oi H91
       exact ⟨_, (.tup [(e_R11_Ram (x1 : R11_Ram)), (eB true)]), (ares_2 (ares_cell hH 1 rfl rfl rfl) rfl), (wk_tup (.cons wr (.cons wr .nil))), .of_eq (by simp only [cutAV, cutL, enc37.cut _ _ _, (enc_b td4 sz4).cut _ _ _]), ((hH.noT.drop n82).drop n2)⟩
      ·subst hb
       refine wpdS_rd (a := (e_aEn (v80.1 : aEn))) rfl (by decide +kernel) rfl rfl (h_ld tk hH 0 rfl rfl rfl) (wpdS_mv (a := (.fptr (c_R11_Ram x1) 1)) rfl rfl rfl (o_c tk false rfl (fun _ => rfl)) (wpdS_mv (a := ((eL 5 e_aEn) x1.L)) rfl rfl rfl (o_ld tk rfl rfl) (wpdS_mv (a := (eI v78)) rfl rfl rfl (o_mv tk rfl (Wk.refl _)) ?_)))
       refine wpdS_bd H91 (fun y => .fptr (e_aEn y).cells 0) rfl rfl rfl (fun v94 hv => o_ixa tk hv td35 enc25 rfl rfl) fun v94 hv94 H93 => ?_
       refine wpdS_mv (a := (e_aEn v94)) rfl rfl rfl (o_ld_e tk enc25 rfl rfl) ?_
       refine wpdS_bd H93 eB rfl rfl rfl (fun v96 hv => OpP.of_call rfl rfl (.cons wr (.cons wr .nil)) (R06_Same_ok hv)) fun v96 hv96 H95 => ?_
       refine wpdS_mv (a := (eB v96)) rfl rfl rfl (o_pick_f tk rfl rfl (Wk.refl _)) (wpdS_mv (a := (eB v96)) rfl rfl rfl (o_pick_t tk rfl rfl (Wk.refl _)) ?_)
       refine wpdS_z rfl rfl rfl (h_st tk hH 1 rfl ty37 (by simp) rfl rfl wr (b := (e_R11_Ram x1)) (enc37.flat _) rfl (nb rfl) (c_R11_Ram (x1 : R11_Ram)) rfl) fun τ hH => ?_
       refine wpdS_mv (a := (eB v96)) rfl rfl rfl (o_as tk rfl (Wk.refl _)) (wpdS_nil (awp_ret ?_))
       obtain rfl := oi H95
       exact ⟨_, (.tup [(e_R11_Ram (x1 : R11_Ram)), (eB v96)]), (ares_2 (ares_cell hH 1 rfl rfl rfl) rfl), (wk_tup (.cons wr (.cons wr .nil))), .of_eq (by simp only [cutAV, cutL, enc37.cut _ _ _, (enc_b td4 sz4).cut _ _ _]), ((hH.noT.drop n82).drop n2)⟩
     ·subst hb
      refine wpdS_skip rfl rfl rfl (wpdS_skip rfl rfl rfl (wpdS_skip rfl rfl rfl (wpdS_skip rfl rfl rfl (wpdS_skip rfl rfl rfl (wpdS_skip rfl rfl rfl (wpdS_skip rfl rfl rfl (wpdS_skip rfl rfl rfl (wpdS_skip rfl rfl rfl ?_))))))))
      refine wpdS_skip rfl rfl rfl (wpdS_skip rfl rfl rfl (wpdS_mv (a := (eB false)) rfl rfl rfl (o_pick_f tk rfl rfl (Wk.refl _)) ?_))
      refine wpdS_z rfl rfl rfl (h_st tk hH 1 rfl ty37 (by simp) rfl rfl wr (b := (e_R11_Ram x1)) (enc37.flat _) rfl (nb rfl) (c_R11_Ram (x1 : R11_Ram)) rfl) fun τ hH => ?_
      refine wpdS_mv (a := (eB false)) rfl rfl rfl (o_as tk rfl (Wk.refl _)) (wpdS_nil (awp_ret ?_))
      obtain rfl := oi H88
      exact ⟨_, (.tup [(e_R11_Ram (x1 : R11_Ram)), (eB false)]), (ares_2 (ares_cell hH 1 rfl rfl rfl) rfl), (wk_tup (.cons wr (.cons wr .nil))), .of_eq (by simp only [cutAV, cutL, enc37.cut _ _ _, (enc_b td4 sz4).cut _ _ _]), ((hH.noT.drop n82).drop n2)⟩
    ·refine sr rfl ?_
     refine l_ H76 eB rfl (o_ar tk rfl rfl rfl) fun v100 H99 => ?_
     refine ma tk (eB v100) rfl rfl (wpo_nil ?_)
     refine awp_if H99 rfl (fun H101 => ?_) (fun H101 => ?_)
     ·refine sr rfl (m_ (e_R11_Ram x1) rfl (o_ld tk rfl rfl) (mc tk (.fptr (c_L11_Op x2) 6) rfl rfl (fun _ => rfl) (m_ (eI x2.Now) rfl (o_ld tk rfl rfl) ?_)))
      refine b_ H101 (fun r => .tup [e_R11_Ram r.1, eI r.2]) rfl (fun v103 hv => OpP.of_call rfl rfl (.cons wr (.cons wr .nil)) (R11_Sweep_ok hv)) fun v103 hv103 H102 => ?_
      refine mm tk (.tup [(e_R11_Ram v103.1), (eI v103.2)]) rfl rfl (m_ (e_R11_Ram v103.1) rfl (o_ext tk rfl rfl) (m_ (eI v103.2) rfl (o_ext tk rfl rfl) ?_))
      refine wpo_a (av := fun id => .ref id 0) rfl rfl rfl (h_alloc tk hH ty37 [(eI z_R11_Ram.Limit), AV.nils] rfl) fun id104 τ ⟨hH, n105⟩ => ?_
      refine wpo_z rfl rfl (h_st tk hH 0 rfl ty37 (by simp) rfl rfl wr (b := (e_R11_Ram v103.1)) (enc37.flat _) rfl (nb rfl) (c_R11_Ram (v103.1 : R11_Ram)) rfl) fun τ hH => ?_
      refine ma tk (eI v103.2) rfl rfl (wpo_nil (awp_seq ?_))
      refine awp_drawR mixed [4, 7] rfl (by decide +kernel) rfl rfl (fun σ => σ.objs[id104]? = some (c_R11_Ram (v103.1 : R11_Ram))) 1 (hH.at_ 0 rfl) ?_
      refine wpdR_rdp (a := (e_R11_Ram (v103.1 : R11_Ram))) rfl (by decide +kernel) rfl rfl (fun σ hF => (h_ld tk (Holds.one hF) 0 rfl rfl rfl)) ?_
      refine wpdR_mv (a := (.ref p0 0)) rfl rfl rfl (o_mv tk rfl (Wk.refl _)) ?_
      refine wpdR_mv (a := (.fptr (c_L11_Op x2) 6)) rfl rfl rfl (o_c tk false rfl (fun _ => rfl)) ?_
      refine wpdR_mv (a := (eI x2.Now)) rfl rfl rfl (o_ld tk rfl rfl) ?_
      refine wpdR_cb H102 (fun x _ => eI x.1) rfl rfl rfl (fun v108 hv => h_call1 hH [(2, (p0, [(.ref p0B 0), (.ref p0I 0), (.vec p0H 1 (v108.2.heads).length), (.vec p0X 1 (v108.2.next_).length), (.vec p0G 5 (v108.2.things).length), (eI v108.2.count)])), (3, (p0B, (c_slab_Budget v108.2.budget))), (4, (p0I, [(.vec p0N 4 (v108.2.lists.nodes).length), (.vec p0F 1 (v108.2.lists.first_).length), (.vec p0L 1 (v108.2.lists.last_).length), (.vec p0C 1 (v108.2.lists.count).length), (eI v108.2.lists.free), (eI v108.2.lists.clock)])), (5, (p0N, (cL e_lists_link v108.2.lists.nodes))), (6, (p0F, (cL eI v108.2.lists.first_))), (7, (p0L, (cL eI v108.2.lists.last_))), (8, (p0C, (cL eI v108.2.lists.count))), (9, (p0H, (cL eI v108.2.heads))), (10, (p0X, (cL eI v108.2.next_))), (11, (p0G, (cL e_aEn v108.2.things)))] ⟨⟨_, rfl⟩, ⟨⟨_, rfl⟩, ⟨⟨_, rfl⟩, ⟨⟨_, rfl⟩, ⟨⟨_, rfl⟩, ⟨⟨_, rfl⟩, ⟨⟨_, rfl⟩, ⟨⟨_, rfl⟩, ⟨⟨_, rfl⟩, ⟨⟨_, rfl⟩, trivial⟩⟩⟩⟩⟩⟩⟩⟩⟩⟩ rfl rfl (.cons wr (.cons wr .nil)) (ram_Ram_Sweep_ok hv _ (hH.at_ 2 rfl) (hH.at_ 3 rfl) (hH.at_ 4 rfl) (hH.at_ 5 rfl) (hH.at_ 6 rfl) (hH.at_ 7 rfl) (hH.at_ 8 rfl) (hH.at_ 9 rfl) (hH.at_ 10 rfl) (hH.at_ 11 rfl) (hH.pw [2, 3, 4, 5, 6, 7, 8, 9, 10, 11] rfl (by decide)))) fun v108 _ τ hv108 H107 (hH : Holds σ [(id104, (c_R11_Ram (v103.1 : R11_Ram))), (id1, [(eI z_R11_Ram.Limit), AV.nils]), (p0, [(.ref p0B 0), (.ref p0I 0), (.vec p0H 1 (v108.2.heads).length), (.vec p0X 1 (v108.2.next_).length), (.vec p0G 5 (v108.2.things).length), (eI v108.2.count)]), (p0B, (c_slab_Budget v108.2.budget)), (p0I, [(.vec p0N 4 (v108.2.lists.nodes).length), (.vec p0F 1 (v108.2.lists.first_).length), (.vec p0L 1 (v108.2.lists.last_).length), (.vec p0C 1 (v108.2.lists.count).length), (eI v108.2.lists.free), (eI v108.2.lists.clock)]), (p0N, (cL e_lists_link v108.2.lists.nodes)), (p0F, (cL eI v108.2.lists.first_)), (p0L, (cL eI v108.2.lists.last_)), (p0C, (cL eI v108.2.lists.count)), (p0H, (cL eI v108.2.heads)), (p0X, (cL eI v108.2.next_)), (p0G, (cL e_aEn v108.2.things))] [] τ) => ⟨fun _ => (hH.at_ 0 rfl), ?_⟩
      refine wpdR_mv (a := (eI v103.2)) rfl rfl rfl (o_mv tk rfl (Wk.refl _)) ?_
      refine wpdR_lt H107 eB rfl rfl rfl (o_ar tk rfl rfl rfl) fun v110 H109 => ?_
      refine wpdR_z rfl rfl rfl (h_st tk hH 1 rfl ty37 (by simp) rfl rfl wr (b := (e_R11_Ram (v103.1 : R11_Ram))) (enc37.flat _) rfl (nb rfl) (c_R11_Ram ((v103.1 : R11_Ram) : R11_Ram)) rfl) fun τ hH => ⟨fun h => absurd h (by decide +kernel), ?_⟩
      refine wpdR_mv (a := (eB v110)) rfl rfl rfl (o_as tk rfl (Wk.refl _)) ?_
      refine wpdR_nil ?_
      refine awp_ret ?_
      obtain rfl := oi H109
      exact ⟨_, (.tup [(e_R11_Ram ((v103.1 : R11_Ram) : R11_Ram)), (eB v110)]), (ares_2 (ares_cell hH 1 rfl rfl rfl) rfl), (wk_tup (.cons wr (.cons wr .nil))), .of_eq (by simp only [cutAV, cutL, enc37.cut _ _ _, (enc_b td4 sz4).cut _ _ _]), ((hH.noT.drop n105).drop n2)⟩
     ·refine awp_skip (sr rfl (m_ (e_R11_Ram x1) rfl (o_ld tk rfl rfl) ?_))
      refine wpo_z rfl rfl (h_st tk hH 0 rfl ty37 (by simp) rfl rfl wr (b := (e_R11_Ram x1)) (enc37.flat _) rfl (nb rfl) (c_R11_Ram (x1 : R11_Ram)) rfl) fun τ hH => ?_
      refine ma tk (eB true) rfl rfl (wpo_nil (awp_ret ?_))
      obtain rfl := oi H101
      exact ⟨_, (.tup [(e_R11_Ram (x1 : R11_Ram)), (eB true)]), (ares_2 (ares_cell hH 0 rfl rfl rfl) rfl), (wk_tup (.cons wr (.cons wr .nil))), .of_eq (by simp only [cutAV, cutL, enc37.cut _ _ _, (enc_b td4 sz4).cut _ _ _]), (hH.noT.drop n2)⟩
theorem ram_Ram_Len_ok {x0 : ram_Ram} {r : Int} (H : ram_Ram_Len x0 = some r) (σ : St) {p0 p0B p0I p0N p0F p0L p0C p0H p0X p0G : Nat} (h0 : σ.objs[p0]? = some [(.ref p0B 0), (.ref p0I 0), (.vec p0H 1 (x0.heads).length), (.vec p0X 1 (x0.next_).length), (.vec p0G 5 (x0.things).length), (eI x0.count)]) (h0_budget : σ.objs[p0B]? = some (c_slab_Budget x0.budget)) (h0_lists : σ.objs[p0I]? = some [(.vec p0N 4 (x0.lists.nodes).length), (.vec p0F 1 (x0.lists.first_).length), (.vec p0L 1 (x0.lists.last_).length), (.vec p0C 1 (x0.lists.count).length), (eI x0.lists.free), (eI x0.lists.clock)]) (h0_lists_nodes : σ.objs[p0N]? = some (cL e_lists_link x0.lists.nodes)) (h0_lists_first_ : σ.objs[p0F]? = some (cL eI x0.lists.first_)) (h0_lists_last_ : σ.objs[p0L]? = some (cL eI x0.lists.last_)) (h0_lists_count : σ.objs[p0C]? = some (cL eI x0.lists.count)) (h0_heads : σ.objs[p0H]? = some (cL eI x0.heads)) (h0_next_ : σ.objs[p0X]? = some (cL eI x0.next_)) (h0_things : σ.objs[p0G]? = some (cL e_aEn x0.things)) (hd : [p0, p0B, p0I, p0N, p0F, p0L, p0C, p0H, p0X, p0G].Pairwise fun a b => a ≠ b) : ACall Tryz.prog 11 [(.ref p0 0)] σ (fun a τ => a = eI r ∧ τ = σ) := by
 unfold ram_Ram_Len at H
 refine ACall.pure (acall_start tk Tryz.func11 (by decide) rfl (nb rfl) ?_)
 have hH := Holds.brings (σ := σ) [(p0, [(.ref p0B 0), (.ref p0I 0), (.vec p0H 1 (x0.heads).length), (.vec p0X 1 (x0.next_).length), (.vec p0G 5 (x0.things).length), (eI x0.count)]), (p0B, (c_slab_Budget x0.budget)), (p0I, [(.vec p0N 4 (x0.lists.nodes).length), (.vec p0F 1 (x0.lists.first_).length), (.vec p0L 1 (x0.lists.last_).length), (.vec p0C 1 (x0.lists.count).length), (eI x0.lists.free), (eI x0.lists.clock)]), (p0N, (cL e_lists_link x0.lists.nodes)), (p0F, (cL eI x0.lists.first_)), (p0L, (cL eI x0.lists.last_)), (p0C, (cL eI x0.lists.count)), (p0H, (cL eI x0.heads)), (p0X, (cL eI x0.next_)), (p0G, (cL e_aEn x0.things))] (by simp only [List.mem_cons, List.not_mem_nil, or_false]; rintro _ (rfl | rfl | rfl | rfl | rfl | rfl | rfl | rfl | rfl | rfl) <;> assumption) hd
 refine sr rfl (ma tk (eI (0 : Int)) rfl rfl (wpo_nil (sr rfl (mm tk (.ref p0 0) rfl rfl (mc tk (.ref p0 0) rfl rfl (fun _ => rfl) (mc tk (.ref p0 5) rfl rfl (fun _ => rfl) (wpo_rd (a := (eI x0.count)) rfl rfl rfl (h_ld tk hH 0 rfl rfl rfl) (ma tk (eI x0.count) rfl rfl ?_))))))))
 refine wpo_nil (awp_ret ?_)
 obtain rfl := oi H
 exact ⟨_, (eI x0.count), rfl, wr, .of_eq ((enc_i64 td3 sz3).cut _ _ _), ((((((((((hH.noT.unbring h0).unbring h0_budget).unbring h0_lists).unbring h0_lists_nodes).unbring h0_lists_first_).unbring h0_lists_last_).unbring h0_lists_count).unbring h0_heads).unbring h0_next_).unbring h0_things)⟩
theorem slab_Budget_Used_ok {x0 : slab_Budget} {r : Int} (H : slab_Budget_Used x0 = some r) (σ : St) {p0 : Nat} (h0 : σ.objs[p0]? = some (c_slab_Budget x0)) : ACall Tryz.prog 38 [(.ref p0 0)] σ (fun a τ => a = eI r ∧ τ = σ) := by
 unfold slab_Budget_Used at H
 refine ACall.pure (acall_start tk Tryz.func38 (by decide) rfl (nb rfl) ?_)
 have hH := Holds.init σ
 have hH := hH.bring h0 (fun _ h => by cases h)
 refine sr rfl (ma tk (eI (0 : Int)) rfl rfl (wpo_nil (sr rfl (mm tk (.ref p0 0) rfl rfl (mc tk (.ref p0 0) rfl rfl (fun _ => rfl) (mc tk (.ref p0 1) rfl rfl (fun _ => rfl) (wpo_rd (a := (eI x0.used)) rfl rfl rfl (h_ld tk hH 0 rfl (g_slab_Budget_used _) rfl) (ma tk (eI x0.used) rfl rfl ?_))))))))
 refine wpo_nil (awp_ret ?_)
 obtain rfl := oi H
 exact ⟨_, (eI x0.used), rfl, wr, .of_eq ((enc_i64 td3 sz3).cut _ _ _), (hH.noT.unbring h0)⟩
theorem ram_Ram_Used_ok {x0 : ram_Ram} {r : Int} (H : ram_Ram_Used x0 = some r) (σ : St) {p0 p0B p0I p0N p0F p0L p0C p0H p0X p0G : Nat} (h0 : σ.objs[p0]? = some [(.ref p0B 0), (.ref p0I 0), (.vec p0H 1 (x0.heads).length), (.vec p0X 1 (x0.next_).length), (.vec p0G 5 (x0.things).length), (eI x0.count)]) (h0_budget : σ.objs[p0B]? = some (c_slab_Budget x0.budget)) (h0_lists : σ.objs[p0I]? = some [(.vec p0N 4 (x0.lists.nodes).length), (.vec p0F 1 (x0.lists.first_).length), (.vec p0L 1 (x0.lists.last_).length), (.vec p0C 1 (x0.lists.count).length), (eI x0.lists.free), (eI x0.lists.clock)]) (h0_lists_nodes : σ.objs[p0N]? = some (cL e_lists_link x0.lists.nodes)) (h0_lists_first_ : σ.objs[p0F]? = some (cL eI x0.lists.first_)) (h0_lists_last_ : σ.objs[p0L]? = some (cL eI x0.lists.last_)) (h0_lists_count : σ.objs[p0C]? = some (cL eI x0.lists.count)) (h0_heads : σ.objs[p0H]? = some (cL eI x0.heads)) (h0_next_ : σ.objs[p0X]? = some (cL eI x0.next_)) (h0_things : σ.objs[p0G]? = some (cL e_aEn x0.things)) (hd : [p0, p0B, p0I, p0N, p0F, p0L, p0C, p0H, p0X, p0G].Pairwise fun a b => a ≠ b) : ACall Tryz.prog 12 [(.ref p0 0)] σ (fun a τ => a = eI r ∧ τ = σ) := by
 unfold ram_Ram_Used at H
 refine ACall.pure (acall_start tk Tryz.func12 (by decide) rfl (nb rfl) ?_)
 have hH := Holds.brings (σ := σ) [(p0, [(.ref p0B 0), (.ref p0I 0), (.vec p0H 1 (x0.heads).length), (.vec p0X 1 (x0.next_).length), (.vec p0G 5 (x0.things).length), (eI x0.count)]), (p0B, (c_slab_Budget x0.budget)), (p0I, [(.vec p0N 4 (x0.lists.nodes).length), (.vec p0F 1 (x0.lists.first_).length), (.vec p0L 1 (x0.lists.last_).length), (.vec p0C 1 (x0.lists.count).length), (eI x0.lists.free), (eI x0.lists.clock)]), (p0N, (cL e_lists_link x0.lists.nodes)), (p0F, (cL eI x0.lists.first_)), (p0L, (cL eI x0.lists.last_)), (p0C, (cL eI x0.lists.count)), (p0H, (cL eI x0.heads)), (p0X, (cL eI x0.next_)), (p0G, (cL e_aEn x0.things))] (by simp only [List.mem_cons, List.not_mem_nil, or_false]; rintro _ (rfl | rfl | rfl | rfl | rfl | rfl | rfl | rfl | rfl | rfl) <;> assumption) hd
 refine sr rfl (ma tk (eI (0 : Int)) rfl rfl (wpo_nil (sr rfl (mm tk (.ref p0 0) rfl rfl (mc tk (.ref p0 0) rfl rfl (fun _ => rfl) (mc tk (.ref p0 0) rfl rfl (fun _ => rfl) (wpo_rd (a := (.ref p0B 0)) rfl rfl rfl (h_ld tk hH 0 rfl rfl rfl) ?_)))))))
 refine wpo_bdr H eI rfl rfl rfl (fun v2 hv => h_callr rfl rfl (.cons wr .nil) (slab_Budget_Used_ok hv _ (hH.at_ 1 rfl))) fun v2 hv2 H1 => ?_
 refine ma tk (eI v2) rfl rfl (wpo_nil (awp_ret ?_))
 obtain rfl := oi H1
 exact ⟨_, (eI v2), rfl, wr, .of_eq ((enc_i64 td3 sz3).cut _ _ _), ((((((((((hH.noT.unbring h0).unbring h0_budget).unbring h0_lists).unbring h0_lists_nodes).unbring h0_lists_first_).unbring h0_lists_last_).unbring h0_lists_count).unbring h0_heads).unbring h0_next_).unbring h0_things)⟩
theorem slab_Budget_Limit_ok {x0 : slab_Budget} {r : Int} (H : slab_Budget_Limit x0 = some r) (σ : St) {p0 : Nat} (h0 : σ.objs[p0]? = some (c_slab_Budget x0)) : ACall Tryz.prog 40 [(.ref p0 0)] σ (fun a τ => a = eI r ∧ τ = σ) := by
 unfold slab_Budget_Limit at H
 refine ACall.pure (acall_start tk Tryz.func40 (by decide) rfl (nb rfl) ?_)
 have hH := Holds.init σ
 have hH := hH.bring h0 (fun _ h => by cases h)
 refine sr rfl (ma tk (eI (0 : Int)) rfl rfl (wpo_nil (sr rfl (mm tk (.ref p0 0) rfl rfl (mc tk (.ref p0 0) rfl rfl (fun _ => rfl) (mc tk (.ref p0 0) rfl rfl (fun _ => rfl) (wpo_rd (a := (eI x0.limit)) rfl rfl rfl (h_ld tk hH 0 rfl (g_slab_Budget_limit _) rfl) (ma tk (eI x0.limit) rfl rfl ?_))))))))
 refine wpo_nil (awp_ret ?_)
 obtain rfl := oi H
 exact ⟨_, (eI x0.limit), rfl, wr, .of_eq ((enc_i64 td3 sz3).cut _ _ _), (hH.noT.unbring h0)⟩
theorem ram_Ram_Limit_ok {x0 : ram_Ram} {r : Int} (H : ram_Ram_Limit x0 = some r) (σ : St) {p0 p0B p0I p0N p0F p0L p0C p0H p0X p0G : Nat} (h0 : σ.objs[p0]? = some [(.ref p0B 0), (.ref p0I 0), (.vec p0H 1 (x0.heads).length), (.vec p0X 1 (x0.next_).length), (.vec p0G 5 (x0.things).length), (eI x0.count)]) (h0_budget : σ.objs[p0B]? = some (c_slab_Budget x0.budget)) (h0_lists : σ.objs[p0I]? = some [(.vec p0N 4 (x0.lists.nodes).length), (.vec p0F 1 (x0.lists.first_).length), (.vec p0L 1 (x0.lists.last_).length), (.vec p0C 1 (x0.lists.count).length), (eI x0.lists.free), (eI x0.lists.clock)]) (h0_lists_nodes : σ.objs[p0N]? = some (cL e_lists_link x0.lists.nodes)) (h0_lists_first_ : σ.objs[p0F]? = some (cL eI x0.lists.first_)) (h0_lists_last_ : σ.objs[p0L]? = some (cL eI x0.lists.last_)) (h0_lists_count : σ.objs[p0C]? = some (cL eI x0.lists.count)) (h0_heads : σ.objs[p0H]? = some (cL eI x0.heads)) (h0_next_ : σ.objs[p0X]? = some (cL eI x0.next_)) (h0_things : σ.objs[p0G]? = some (cL e_aEn x0.things)) (hd : [p0, p0B, p0I, p0N, p0F, p0L, p0C, p0H, p0X, p0G].Pairwise fun a b => a ≠ b) : ACall Tryz.prog 14 [(.ref p0 0)] σ (fun a τ => a = eI r ∧ τ = σ) := by
 unfold ram_Ram_Limit at H
 refine ACall.pure (acall_start tk Tryz.func14 (by decide) rfl (nb rfl) ?_)
 have hH := Holds.brings (σ := σ) [(p0, [(.ref p0B 0), (.ref p0I 0), (.vec p0H 1 (x0.heads).length), (.vec p0X 1 (x0.next_).length), (.vec p0G 5 (x0.things).length), (eI x0.count)]), (p0B, (c_slab_Budget x0.budget)), (p0I, [(.vec p0N 4 (x0.lists.nodes).length), (.vec p0F 1 (x0.lists.first_).length), (.vec p0L 1 (x0.lists.last_).length), (.vec p0C 1 (x0.lists.count).length), (eI x0.lists.free), (eI x0.lists.clock)]), (p0N, (cL e_lists_link x0.lists.nodes)), (p0F, (cL eI x0.lists.first_)), (p0L, (cL eI x0.lists.last_)), (p0C, (cL eI x0.lists.count)), (p0H, (cL eI x0.heads)), (p0X, (cL eI x0.next_)), (p0G, (cL e_aEn x0.things))] (by simp only [List.mem_cons, List.not_mem_nil, or_false]; rintro _ (rfl | rfl | rfl | rfl | rfl | rfl | rfl | rfl | rfl | rfl) <;> assumption) hd
 refine sr rfl (ma tk (eI (0 : Int)) rfl rfl (wpo_nil (sr rfl (mm tk (.ref p0 0) rfl rfl (mc tk (.ref p0 0) rfl rfl (fun _ => rfl) (mc tk (.ref p0 0) rfl rfl (fun _ => rfl) (wpo_rd (a := (.ref p0B 0)) rfl rfl rfl (h_ld tk hH 0 rfl rfl rfl) ?_)))))))
 refine wpo_bdr H eI rfl rfl rfl (fun v2 hv => h_callr rfl rfl (.cons wr .nil) (slab_Budget_Limit_ok hv _ (hH.at_ 1 rfl))) fun v2 hv2 H1 => ?_
 refine ma tk (eI v2) rfl rfl (wpo_nil (awp_ret ?_))
 obtain rfl := oi H1
 exact ⟨_, (eI v2), rfl, wr, .of_eq ((enc_i64 td3 sz3).cut _ _ _), ((((((((((hH.noT.unbring h0).unbring h0_budget).unbring h0_lists).unbring h0_lists_nodes).unbring h0_lists_first_).unbring h0_lists_last_).unbring h0_lists_count).unbring h0_heads).unbring h0_next_).unbring h0_things)⟩
theorem ram_Ram_Fits_ok {x0 : ram_Ram} {x1 : aEn} {r : Bool} (H : ram_Ram_Fits x0 x1 = some r) (σ : St) {p0 p0B p0I p0N p0F p0L p0C p0H p0X p0G : Nat} (h0 : σ.objs[p0]? = some [(.ref p0B 0), (.ref p0I 0), (.vec p0H 1 (x0.heads).length), (.vec p0X 1 (x0.next_).length), (.vec p0G 5 (x0.things).length), (eI x0.count)]) (h0_budget : σ.objs[p0B]? = some (c_slab_Budget x0.budget)) (h0_lists : σ.objs[p0I]? = some [(.vec p0N 4 (x0.lists.nodes).length), (.vec p0F 1 (x0.lists.first_).length), (.vec p0L 1 (x0.lists.last_).length), (.vec p0C 1 (x0.lists.count).length), (eI x0.lists.free), (eI x0.lists.clock)]) (h0_lists_nodes : σ.objs[p0N]? = some (cL e_lists_link x0.lists.nodes)) (h0_lists_first_ : σ.objs[p0F]? = some (cL eI x0.lists.first_)) (h0_lists_last_ : σ.objs[p0L]? = some (cL eI x0.lists.last_)) (h0_lists_count : σ.objs[p0C]? = some (cL eI x0.lists.count)) (h0_heads : σ.objs[p0H]? = some (cL eI x0.heads)) (h0_next_ : σ.objs[p0X]? = some (cL eI x0.next_)) (h0_things : σ.objs[p0G]? = some (cL e_aEn x0.things)) (hd : [p0, p0B, p0I, p0N, p0F, p0L, p0C, p0H, p0X, p0G].Pairwise fun a b => a ≠ b) : ACall Tryz.prog 15 [(.ref p0 0), (e_aEn x1)] σ (fun a τ => a = eB r ∧ τ = σ) := by
 unfold ram_Ram_Fits at H
 refine ACall.pure (acall_start tk Tryz.func15 (by decide) rfl (nb rfl) ?_)
 have hH := Holds.brings (σ := σ) [(p0, [(.ref p0B 0), (.ref p0I 0), (.vec p0H 1 (x0.heads).length), (.vec p0X 1 (x0.next_).length), (.vec p0G 5 (x0.things).length), (eI x0.count)]), (p0B, (c_slab_Budget x0.budget)), (p0I, [(.vec p0N 4 (x0.lists.nodes).length), (.vec p0F 1 (x0.lists.first_).length), (.vec p0L 1 (x0.lists.last_).length), (.vec p0C 1 (x0.lists.count).length), (eI x0.lists.free), (eI x0.lists.clock)]), (p0N, (cL e_lists_link x0.lists.nodes)), (p0F, (cL eI x0.lists.first_)), (p0L, (cL eI x0.lists.last_)), (p0C, (cL eI x0.lists.count)), (p0H, (cL eI x0.heads)), (p0X, (cL eI x0.next_)), (p0G, (cL e_aEn x0.things))] (by simp only [List.mem_cons, List.not_mem_nil, or_false]; rintro _ (rfl | rfl | rfl | rfl | rfl | rfl | rfl | rfl | rfl | rfl) <;> assumption) hd
 refine sr rfl (m_ (.fptr (c_aEn x1) 0) rfl (o_boxf tk rfl wr (b := (e_aEn x1)) (enc25.flat _)) (ma tk (eB false) rfl rfl (wpo_nil (awp_seq ?_))))
 refine awp_drawS mixed [] rfl (by decide +kernel) rfl rfl ?_
 refine wpdS_mv (a := (.ref p0 0)) rfl rfl rfl (o_mv tk rfl (Wk.refl _)) (wpdS_mv (a := (.ref p0 0)) rfl rfl rfl (o_c tk false rfl (fun _ => rfl)) (wpdS_mv (a := (.ref p0 0)) rfl rfl rfl (o_c tk false rfl (fun _ => rfl)) (wpdS_rd (a := (.ref p0B 0)) rfl (by decide +kernel) rfl rfl (h_ld tk hH 0 rfl rfl rfl) (wpdS_mv (a := (e_aEn x1)) rfl rfl rfl (o_ld tk rfl rfl) ?_))))
 refine wpdS_bd H eI rfl rfl rfl (fun v2 hv => OpP.of_call rfl rfl (.cons wr .nil) (item_Size_ok hv)) fun v2 hv2 H1 => ?_
 refine wpdS_bdr H1 eB rfl (by decide +kernel) rfl rfl (fun v4 hv => h_callr rfl rfl (.cons wr (.cons wr .nil)) (slab_Budget_Fits_ok hv _ (hH.at_ 1 rfl))) fun v4 hv4 H3 => ?_
 refine wpdS_mv (a := (eB v4)) rfl rfl rfl (o_as tk rfl (Wk.refl _)) (wpdS_nil (awp_ret ?_))
 obtain rfl := oi H3
 exact ⟨_, (eB v4), rfl, wr, .of_eq ((enc_b td4 sz4).cut _ _ _), ((((((((((hH.noT.unbring h0).unbring h0_budget).unbring h0_lists).unbring h0_lists_nodes).unbring h0_lists_first_).unbring h0_lists_last_).unbring h0_lists_count).unbring h0_heads).unbring h0_next_).unbring h0_things)⟩
theorem R11_All_app {x0 : R11_Ram} {r : (List aEn)} (H : R11_All x0 = some r) (σ : St)  : ACall Tryz.prog 19 [(e_R11_Ram x0)] σ (fun a τ => a = .sl (.own σ.opn.length) 5 (r.map e_aEn) ∧ τ = σ.more) := by
 unfold R11_All at H
 refine ACall.app (fun ρ κ => cutL_enc enc25.cut ρ κ r) (acall_start tk Tryz.func19 (by decide) rfl (nb rfl) ?_)
 have hH := Holds.init σ
 refine sr rfl (m_ (.fptr (c_R11_Ram x0) 0) rfl (o_boxf tk rfl wr (b := (e_R11_Ram x0)) (enc37.flat _)) (ma tk AV.nils rfl rfl (wpo_nil (sr rfl (ma tk AV.nils rfl rfl (wpo_nil (awp_seq (sr rfl ?_))))))))
 refine ma tk (eI (0 : Int)) rfl rfl (wpo_nil (awp_block ?_))
 refine AWP.tokN hH 3 5 rfl fun tk3 τ hH => ?_
 obtain ⟨s11, hs5, hj6⟩ := ob H
 refine awp_cutx 0 (fun fr τ => ∃ tk_3, WkF fr (fm [(3, (eT tk_3 5 e_aEn s11))]) ∧ Holds σ [] [tk_3] τ) ?_ ?_
 ·rintro fr τ ⟨tk_3, hfr, hH⟩
  have H56 := hj6
  refine AWP.fm [(3, (eT tk_3 5 e_aEn s11))] hfr ?_
  refine sr rfl (mm tk (eT tk_3 5 e_aEn s11) rfl rfl (ma tk (eT tk_3 5 e_aEn s11) rfl rfl (wpo_nil (awp_ret ?_))))
  obtain rfl := oi H56
  exact ⟨_, (eT tk_3 5 e_aEn s11), rfl, .of_eq rfl, tk_3, rfl, hH⟩
 ·refine awp_loopO (body := fun s => R11_All_b0 x0 s.1 s.2) hs5 (fun (s : (List aEn) × Int) fr τ => ∃ tk_3, WkF fr (fm [(1, (.fptr (c_R11_Ram x0) 0)), (3, (eT tk_3 5 e_aEn s.1)), (4, (eI s.2))]) ∧ Holds σ [] [tk_3] τ) ⟨tk3, (wc (wc (wc (wkf_nil _)))), hH⟩ ?_
  rintro ⟨c1, c2⟩ fr τ y7 ⟨tk_3, hfr, hH⟩ hb9 hy10
  have H12 : R11_All_b0 x0 c1 c2 = some y7 := hb9
  unfold R11_All_b0 at H12
  refine AWP.fm [(1, (.fptr (c_R11_Ram x0) 0)), (3, (eT tk_3 5 e_aEn c1)), (4, (eI c2))] hfr ?_
  have hH : Holds σ [] [tk_3] τ := hH
  refine awp_seq (sr rfl (mm tk (eI c2) rfl rfl ?_))
  refine l_ H12 eB rfl (o_ar tk rfl rfl rfl) fun v14 H13 => ?_
  refine wpo_nil ?_
  refine awp_if H13 rfl (fun H15 => ?_) (fun H15 => ?_)
  ·refine awp_skip (awp_seq (awp_block (sr rfl (ma tk (eI (0 : Int)) rfl rfl (wpo_nil (awp_block ?_))))))
   obtain ⟨s25, hs19, hj20⟩ := ob H15
   refine awp_cutx 2 (fun fr τ => ∃ tk_3, WkF fr (fm [(1, (.fptr (c_R11_Ram x0) 0)), (3, (eT tk_3 5 e_aEn s25)), (4, (eI c2))]) ∧ Holds σ [] [tk_3] τ) ?_ ?_
   ·rintro fr τ ⟨tk_3, hfr, hH⟩
    have H53 := hj20
    refine AWP.fm [(1, (.fptr (c_R11_Ram x0) 0)), (3, (eT tk_3 5 e_aEn s25)), (4, (eI c2))] hfr ?_
    refine awp_region rfl (mm tk (eI c2) rfl rfl ?_)
    refine l_ H53 eI rfl (o_ar tk rfl rfl rfl) fun v55 H54 => ?_
    refine ma tk (eI v55) rfl rfl (wpo_nil ?_)
    exact ⟨(s25, v55), inj_inl H54, tk_3, (wc (wc (wc (wkf_nil _)))), hH⟩
   ·refine awp_loopO (body := fun s => R11_All_b1 x0 c2 s.1 s.2) hs19 (fun (s : (List aEn) × Int) fr τ => ∃ tk_3, WkF fr (fm [(1, (.fptr (c_R11_Ram x0) 0)), (3, (eT tk_3 5 e_aEn s.1)), (4, (eI c2)), (5, (eI s.2))]) ∧ Holds σ [] [tk_3] τ) ⟨tk_3, (wc (wc (wc (wc (wkf_nil _))))), hH⟩ ?_
    rintro ⟨c16, c17⟩ fr τ y21 ⟨tk_3, hfr, hH⟩ hb23 hy24
    have H26 : R11_All_b1 x0 c2 c16 c17 = some y21 := hb23
    unfold R11_All_b1 at H26
    refine AWP.fm [(1, (.fptr (c_R11_Ram x0) 0)), (3, (eT tk_3 5 e_aEn c16)), (4, (eI c2)), (5, (eI c17))] hfr ?_
    have hH : Holds σ [] [tk_3] τ := hH
    refine awp_seq (sr rfl (mm tk (eI c17) rfl rfl (mc tk (.fptr (c_R11_Ram x0) 1) rfl rfl (fun _ => rfl) (m_ ((eL 5 e_aEn) x0.L) rfl (o_ld tk rfl rfl) ?_))))
    refine l_ H26 eI rfl (o_len tk td35 rfl) fun v28 H27 => ?_
    refine l_ H27 eB rfl (o_ar tk rfl rfl rfl) fun v30 H29 => ?_
    refine wpo_nil ?_
    refine awp_if H29 rfl (fun H31 => ?_) (fun H31 => ?_)
    ·refine awp_skip (awp_seq (awp_block (sr rfl (mc tk (.fptr (c_R11_Ram x0) 1) rfl rfl (fun _ => rfl) (m_ ((eL 5 e_aEn) x0.L) rfl (o_ld tk rfl rfl) (mm tk (eI c17) rfl rfl ?_))))))
     refine b_ H31 (fun y => .fptr (e_aEn y).cells 0) rfl (fun v33 hv => o_ixa tk hv td35 enc25 rfl rfl) fun v33 hv33 H32 => ?_
     refine m_ (e_aEn v33) rfl (o_ld_e tk enc25 rfl rfl) ?_
     refine b_ H32 eI rfl (fun v35 hv => OpP.of_call rfl rfl (.cons wr .nil) (R11_Takes_ok hv)) fun v35 hv35 H34 => ?_
     refine mm tk (eI c2) rfl rfl ?_
     refine b_ H34 eI rfl (fun v37 hv => OpP.of_call rfl rfl (.cons wr .nil) (R08_Size_ok hv)) fun v37 hv37 H36 => ?_
     refine l_ H36 eB rfl (o_ar tk rfl rfl rfl) fun v39 H38 => ?_
     refine wpo_nil ?_
     refine awp_if H38 rfl (fun H40 => ?_) (fun H40 => ?_)
     ·refine awp_region rfl (mm tk (eT tk_3 5 e_aEn c16) rfl rfl (mc tk (.fptr (c_R11_Ram x0) 1) rfl rfl (fun _ => rfl) (m_ ((eL 5 e_aEn) x0.L) rfl (o_ld tk rfl rfl) (mm tk (eI c17) rfl rfl ?_))))
      refine b_ H40 (fun y => .fptr (e_aEn y).cells 0) rfl (fun v42 hv => o_ixa tk hv td35 enc25 rfl rfl) fun v42 hv42 H41 => ?_
      refine m_ (e_aEn v42) rfl (o_ld_e tk enc25 rfl rfl) ?_
      refine l_ H41 (eF 5 e_aEn) rfl (o_c tk false rfl (fun _ => rfl)) fun v44 H43 => ?_
      obtain ⟨v46, hv47, H45⟩ := ob H43
      refine wpo_a (av := fun t => eT t 5 e_aEn v46) rfl rfl rfl (h_app tk hH 0 hv47 rfl td35 ty25 rfl (by decide) rfl (src_l td35 rfl)) fun tk48 τ hH => ?_
      refine ma tk (eT tk48 5 e_aEn v46) rfl rfl (wpo_nil (awp_region rfl (mm tk (eI c17) rfl rfl ?_)))
      refine l_ H45 eI rfl (o_ar tk rfl rfl rfl) fun v50 H49 => ?_
      refine ma tk (eI v50) rfl rfl (wpo_nil ?_)
      exact ⟨(v46, v50), inj_inl H49, tk48, (wc (wc (wc (wc (wkf_nil _))))), hH⟩
     ·refine awp_skip (awp_region rfl (mm tk (eI c17) rfl rfl ?_))
      refine l_ H40 eI rfl (o_ar tk rfl rfl rfl) fun v52 H51 => ?_
      refine ma tk (eI v52) rfl rfl (wpo_nil ?_)
      exact ⟨(c16, v52), inj_inl H51, tk_3, (wc (wc (wc (wc (wkf_nil _))))), hH⟩
    ·refine awp_exit ?_
     have hz := hy24 _ (inj_inr H31)
     subst hz
     exact ⟨⟨_, inj_inr H31⟩, tk_3, (wc (wc (wc (wkf_nil _)))), hH⟩
  ·refine awp_exit ?_
   have hz := hy10 _ (inj_inr H15)
   subst hz
   exact ⟨⟨_, inj_inr H15⟩, tk_3, (wc (wkf_nil _)), hH⟩
theorem R11_All_ok {x0 : R11_Ram} {r : (List aEn)} (H : R11_All x0 = some r) (σ : St) : ACall Tryz.prog 19 [(e_R11_Ram x0)] σ (fun a τ => a = (eL 5 e_aEn) r ∧ τ = σ) := (R11_All_app H σ).unapp (fun ρ κ => cutL_enc enc25.cut ρ κ r)
theorem L06_Light_ok {x0 : List aEn} {r : Int} (H : L06_Light x0 = some r) (σ : St)  : ACall Tryz.prog 20 [((eL 5 e_aEn) x0)] σ (fun a τ => a = eI r ∧ τ = σ) := by
 unfold L06_Light at H
 refine ACall.pure (acall_start tk Tryz.func20 (by decide) rfl (nb rfl) ?_)
 have hH := Holds.init σ
 refine sr rfl (ma tk (eI (0 : Int)) rfl rfl (wpo_nil (awp_seq (sr rfl (mm tk ((eL 5 e_aEn) x0) rfl rfl ?_)))))
 refine l_ H eI rfl (o_len tk td35 rfl) fun v2 H1 => ?_
 refine l_ H1 eB rfl (o_ar tk rfl rfl rfl) fun v4 H3 => ?_
 refine wpo_nil ?_
 refine awp_if H3 rfl (fun H5 => ?_) (fun H5 => ?_)
 ·refine sr rfl (ma tk (eI (1 : Int)) rfl rfl (wpo_nil (awp_ret ?_)))
  obtain rfl := oi H5
  exact ⟨_, (eI (1 : Int)), rfl, wr, .of_eq ((enc_i64 td3 sz3).cut _ _ _), hH.noT⟩
 ·refine awp_skip (sr rfl (ma tk (eI (0 : Int)) rfl rfl (wpo_nil (awp_seq (sr rfl (ma tk (eI (0 : Int)) rfl rfl (wpo_nil (awp_block ?_))))))))
  obtain ⟨o8, hs9, hj10⟩ := ob H5
  refine awp_cutx 0 (fun fr τ => ∃ s15 : Unit, o8 = .inl s15 ∧ WkF fr (fm []) ∧ Holds σ [] [] τ) ?_ ?_
  ·rintro fr τ ⟨s15, rfl, hfr, hH⟩
   have H54 := hj10
   simp only [Sum.elim_inl] at H54
   refine AWP.fm [] hfr ?_
   refine sr rfl (ma tk (eI (0 : Int)) rfl rfl (wpo_nil (awp_ret ?_)))
   obtain rfl := oi H54
   exact ⟨_, (eI (0 : Int)), rfl, wr, .of_eq ((enc_i64 td3 sz3).cut _ _ _), hH.noT⟩
  ·refine awp_loopO (body := fun s => L06_Light_b0 x0 s.1 s.2) hs9 (fun (s : Int × Int) fr τ => WkF fr (fm [(0, ((eL 5 e_aEn) x0)), (3, (eI s.1)), (4, (eI s.2))]) ∧ Holds σ [] [] τ) ⟨(wc (wc (wc (wkf_nil _)))), hH⟩ ?_
   rintro ⟨c6, c7⟩ fr τ y11 ⟨hfr, hH⟩ hb13 hy14
   have H16 : L06_Light_b0 x0 c6 c7 = some y11 := hb13
   unfold L06_Light_b0 at H16
   refine AWP.fm [(0, ((eL 5 e_aEn) x0)), (3, (eI c6)), (4, (eI c7))] hfr ?_
   have hH : Holds σ [] [] τ := hH
   refine awp_seq (sr rfl (mm tk (eI c7) rfl rfl (mm tk ((eL 5 e_aEn) x0) rfl rfl ?_)))
   refine l_ H16 eI rfl (o_len tk td35 rfl) fun v18 H17 => ?_
   refine l_ H17 eB rfl (o_ar tk rfl rfl rfl) fun v20 H19 => ?_
   refine wpo_nil ?_
   refine awp_if H19 rfl (fun H21 => ?_) (fun H21 => ?_)
   ·refine awp_skip (awp_seq (awp_block (awp_seq (awp_seq ?_))))
    obtain ⟨s22, hs24, hj25⟩ := ob H21
    refine awp_cutn (fun fr τ => WkF fr (fm [(0, ((eL 5 e_aEn) x0)), (3, (eI c6)), (4, (eI c7)), (29, (eB s22))]) ∧ Holds σ [] [] τ) ?_ ?_
    ·rintro fr τ ⟨hfr, hH⟩
     have H39 := hj25
     refine AWP.fm [(0, ((eL 5 e_aEn) x0)), (3, (eI c6)), (4, (eI c7)), (29, (eB s22))] hfr ?_
     refine awp_if H39 rfl (fun H40 => ?_) (fun H40 => ?_)
     ·refine sr rfl (ma tk (eI (1 : Int)) rfl rfl (wpo_nil (awp_ret ?_)))
      have hz := hy14 _ (inj_inr H40)
      refine ⟨⟨_, inj_inr H40⟩, ?_⟩
      rw [← hz] at hj10
      have H41 := (show some _ = some _ from hj10)
      obtain rfl := oi H41
      exact ⟨_, (eI (1 : Int)), rfl, wr, .of_eq ((enc_i64 td3 sz3).cut _ _ _), hH.noT⟩
     ·refine awp_skip (sr rfl (mm tk (eI c6) rfl rfl (mm tk ((eL 5 e_aEn) x0) rfl rfl (mm tk (eI c7) rfl rfl ?_))))
      refine b_ H40 (fun y => .fptr (e_aEn y).cells 0) rfl (fun v43 hv => o_ixa tk hv td35 enc25 rfl rfl) fun v43 hv43 H42 => ?_
      refine mc tk (.fptr (c_aEn v43) 4) rfl rfl (fun _ => rfl) (m_ ((eL 1 (@eU .u8 8)) v43.Value) rfl (o_ld tk rfl rfl) ?_)
      refine l_ H42 eI rfl (o_len tk td23 rfl) fun v45 H44 => ?_
      refine l_ H44 eI rfl (o_ar tk rfl rfl rfl) fun v47 H46 => ?_
      refine ma tk (eI v47) rfl rfl (wpo_nil (sr rfl (mm tk (eI v47) rfl rfl ?_)))
      refine l_ H46 eB rfl (o_ar tk rfl rfl rfl) fun v49 H48 => ?_
      refine wpo_nil ?_
      refine awp_if H48 rfl (fun H50 => ?_) (fun H50 => ?_)
      ·refine sr rfl (ma tk (eI (1 : Int)) rfl rfl (wpo_nil (awp_ret ?_)))
       have hz := hy14 _ (inj_inr H50)
       refine ⟨⟨_, inj_inr H50⟩, ?_⟩
       rw [← hz] at hj10
       have H51 := (show some _ = some _ from hj10)
       obtain rfl := oi H51
       exact ⟨_, (eI (1 : Int)), rfl, wr, .of_eq ((enc_i64 td3 sz3).cut _ _ _), hH.noT⟩
      ·refine awp_skip (awp_region rfl (mm tk (eI c7) rfl rfl ?_))
       refine l_ H50 eI rfl (o_ar tk rfl rfl rfl) fun v53 H52 => ?_
       refine ma tk (eI v53) rfl rfl (wpo_nil ?_)
       exact ⟨(v47, v53), inj_inl H52, (wc (wc (wc (wkf_nil _)))), hH⟩
    ·refine awp_region rfl (mm tk ((eL 5 e_aEn) x0) rfl rfl (mm tk (eI c7) rfl rfl ?_))
     refine b_ hs24 (fun y => .fptr (e_aEn y).cells 0) rfl (fun v27 hv => o_ixa tk hv td35 enc25 rfl rfl) fun v27 hv27 H26 => ?_
     refine mc tk (.fptr (c_aEn v27) 0) rfl rfl (fun _ => rfl) (m_ (eS v27.Key) rfl (o_ld tk rfl rfl) ?_)
     refine l_ H26 eI rfl (o_len_s tk td9 rfl) fun v29 H28 => ?_
     refine l_ H28 eB rfl (o_ar tk rfl rfl rfl) fun v31 H30 => ?_
     refine mm tk (eB v31) rfl rfl ?_
     refine if_split H30 (fun hb H32 => ?_) (fun hb H32 => ?_)
     ·subst hb
      refine k_ rfl (k_ rfl (k_ rfl (k_ rfl (k_ rfl (k_ rfl (k_ rfl (pt tk (eB true) rfl rfl rfl (wpo_nil ?_))))))))
      have e := oi H32
      subst e
      exact ⟨(wc (wc (wc (wc (wkf_nil _))))), hH⟩
     ·subst hb
      refine mm tk ((eL 5 e_aEn) x0) rfl rfl (mm tk (eI c7) rfl rfl ?_)
      refine b_ H32 (fun y => .fptr (e_aEn y).cells 0) rfl (fun v34 hv => o_ixa tk hv td35 enc25 rfl rfl) fun v34 hv34 H33 => ?_
      refine mc tk (.fptr (c_aEn v34) 4) rfl rfl (fun _ => rfl) (m_ ((eL 1 (@eU .u8 8)) v34.Value) rfl (o_ld tk rfl rfl) ?_)
      refine l_ H33 eI rfl (o_len tk td23 rfl) fun v36 H35 => ?_
      refine l_ H35 eB rfl (o_ar tk rfl rfl rfl) fun v38 H37 => ?_
      refine pf tk (eB v38) rfl rfl rfl (wpo_nil ?_)
      have e := oi H37
      subst e
      exact ⟨(wc (wc (wc (wc (wkf_nil _))))), hH⟩
   ·refine awp_exit ?_
    have hz := hy14 _ (inj_inr H21)
    exact ⟨⟨_, inj_inr H21⟩, (), hz.symm, (wkf_nil _), hH⟩
theorem L11_light_ok {x0 : List L11_Op} {r : Bool} (H : L11_light x0 = some r) (σ : St)  : ACall Tryz.prog 4 [((eL 7 e_L11_Op) x0)] σ (fun a τ => a = eB r ∧ τ = σ) := by
 unfold L11_light at H
 refine ACall.pure (acall_start tk Tryz.func4 (by decide) rfl (nb rfl) ?_)
 have hH := Holds.init σ
 refine sr rfl (ma tk (eB false) rfl rfl (wpo_nil (awp_seq (sr rfl (mm tk ((eL 7 e_L11_Op) x0) rfl rfl ?_)))))
 refine l_ H eI rfl (o_len tk td22 rfl) fun v2 H1 => ?_
 refine l_ H1 eB rfl (o_ar tk rfl rfl rfl) fun v4 H3 => ?_
 refine wpo_nil ?_
 refine awp_if H3 rfl (fun H5 => ?_) (fun H5 => ?_)
 ·refine sr rfl (ma tk (eB false) rfl rfl (wpo_nil (awp_ret ?_)))
  obtain rfl := oi H5
  exact ⟨_, (eB false), rfl, wr, .of_eq ((enc_b td4 sz4).cut _ _ _), hH.noT⟩
 ·refine awp_skip (sr rfl (ma tk AV.nils rfl rfl (wpo_nil (awp_seq (sr rfl (ma tk (eI (0 : Int)) rfl rfl (wpo_nil (awp_block ?_))))))))
  refine AWP.tokN hH 3 5 rfl fun tk8 τ hH => ?_
  obtain ⟨s16, hs10, hj11⟩ := ob H5
  refine awp_cutx 0 (fun fr τ => ∃ tk_3, WkF fr (fm [(3, (eT tk_3 5 e_aEn s16))]) ∧ Holds σ [] [tk_3] τ) ?_ ?_
  ·rintro fr τ ⟨tk_3, hfr, hH⟩
   have H33 := hj11
   refine AWP.fm [(3, (eT tk_3 5 e_aEn s16))] hfr ?_
   refine sr rfl (mm tk (eT tk_3 5 e_aEn s16) rfl rfl ?_)
   refine b_ H33 eI rfl (fun v35 hv => OpP.of_call rfl rfl (.cons wk_no .nil) (L06_Light_ok hv)) fun v35 hv35 H34 => ?_
   refine l_ H34 eB rfl (o_ar tk rfl rfl rfl) fun v37 H36 => ?_
   refine ma tk (eB v37) rfl rfl (wpo_nil (awp_ret ?_))
   obtain rfl := oi H36
   exact ⟨_, (eB v37), rfl, wr, .of_eq ((enc_b td4 sz4).cut _ _ _), hH.noT⟩
  ·refine awp_loopO (body := fun s => L11_light_b0 x0 s.1 s.2) hs10 (fun (s : (List aEn) × Int) fr τ => ∃ tk_3, WkF fr (fm [(0, ((eL 7 e_L11_Op) x0)), (3, (eT tk_3 5 e_aEn s.1)), (4, (eI s.2))]) ∧ Holds σ [] [tk_3] τ) ⟨tk8, (wc (wc (wc (wkf_nil _)))), hH⟩ ?_
   rintro ⟨c6, c7⟩ fr τ y12 ⟨tk_3, hfr, hH⟩ hb14 hy15
   have H17 : L11_light_b0 x0 c6 c7 = some y12 := hb14
   unfold L11_light_b0 at H17
   refine AWP.fm [(0, ((eL 7 e_L11_Op) x0)), (3, (eT tk_3 5 e_aEn c6)), (4, (eI c7))] hfr ?_
   have hH : Holds σ [] [tk_3] τ := hH
   refine awp_seq (sr rfl (mm tk (eI c7) rfl rfl (mm tk ((eL 7 e_L11_Op) x0) rfl rfl ?_)))
   refine l_ H17 eI rfl (o_len tk td22 rfl) fun v19 H18 => ?_
   refine l_ H18 eB rfl (o_ar tk rfl rfl rfl) fun v21 H20 => ?_
   refine wpo_nil ?_
   refine awp_if H20 rfl (fun H22 => ?_) (fun H22 => ?_)
   ·refine awp_skip (awp_seq (awp_block (awp_region rfl (mm tk (eT tk_3 5 e_aEn c6) rfl rfl (mm tk ((eL 7 e_L11_Op) x0) rfl rfl (mm tk (eI c7) rfl rfl ?_))))))
    refine b_ H22 (fun y => .fptr (e_L11_Op y).cells 0) rfl (fun v24 hv => o_ixa tk hv td22 enc44 rfl rfl) fun v24 hv24 H23 => ?_
    refine mc tk (.fptr (c_L11_Op v24) 1) rfl rfl (fun _ => rfl) (m_ (e_aEn v24.X) rfl (o_ld tk rfl rfl) ?_)
    refine l_ H23 (eF 5 e_aEn) rfl (o_c tk false rfl (fun _ => rfl)) fun v26 H25 => ?_
    obtain ⟨v28, hv29, H27⟩ := ob H25
    refine wpo_a (av := fun t => eT t 5 e_aEn v28) rfl rfl rfl (h_app tk hH 0 hv29 rfl td35 ty25 rfl (by decide) rfl (src_l td35 rfl)) fun tk30 τ hH => ?_
    refine ma tk (eT tk30 5 e_aEn v28) rfl rfl (wpo_nil (awp_region rfl (mm tk (eI c7) rfl rfl ?_)))
    refine l_ H27 eI rfl (o_ar tk rfl rfl rfl) fun v32 H31 => ?_
    refine ma tk (eI v32) rfl rfl (wpo_nil ?_)
    exact ⟨(v28, v32), inj_inl H31, tk30, (wc (wc (wc (wkf_nil _)))), hH⟩
   ·refine awp_exit ?_
    have hz := hy15 _ (inj_inr H22)
    subst hz
    exact ⟨⟨_, inj_inr H22⟩, tk_3, (wc (wkf_nil _)), hH⟩
end Go.Proofs.YtggeboakilalhaaGreatDoor
namespace Go.Va
open Go Go.RowKit
set_option linter.unusedVariables false
set_option linter.unusedSimpArgs false
section
variable {P : Program} {σ0 σ : St} {O : List (Nat × List AV)} {A' : List Nat} {fr : Nat → AV}
theorem wk_tupj (a : AV) (l : List AV) : Wk (.tup (a :: l)) (.tup (.junk :: l)) := by
  intro G v h
  cases h with
  | tup vs _ hl hh =>
    refine .tup vs _ (by simpa using hl) fun i v b h1 h2 => ?_
    cases i with
    | zero => cases (Option.some.inj h2 : AV.junk = b); exact .junk _
    | succ i => exact hh (i + 1) v b h1 h2
theorem OpS.toK {o : Oper} {a b : AV} {τ : St} (h : OpS P o fr σ fun a' τ' => a' = a ∧ τ' = τ) (hw : Wk a b) : OpS P o fr σ fun a' τ' => a' = b ∧ τ' = τ :=
  fun w0 G act w Q K' hI hr hK => h w0 G act w Q K' hI hr fun v a σ' w' G' k hle hI' hrel => hK v b σ' w' G' ⟨rfl, k.2⟩ hle hI' (hw _ _ (k.1 ▸ hrel))
theorem h_callnbj (hH : Holds σ0 O A' σ) {α : Type} {B : (Nat → Nat) → α → List (List AV)} {rest : List AV} {z : Option α} {o : Oper} {f : Operand} {xs : List Operand} {gg : FuncId} {first cap args : List AV} (hc : callOf o = some (f, xs)) (hf : aeval fr f = .fn (.func gg) first cap) (hargs : WkL (first ++ xs.map (aeval fr) ++ cap) args)
    (hcall : ACall P gg args σ (fun a τ => NewB B rest σ z a τ)) : ∃ (_ : Nat) (τ : St), OpS P o fr σ (fun a' τ' => a' = .tup (.junk :: rest) ∧ τ' = τ) ∧ Holds σ0 O A' τ := by
  cases z with
  | none => exact ⟨0, σ, OpS.toK (OpS.of_call hc hf hargs hcall) (wk_tupj _ _), hH⟩
  | some c =>
    refine ⟨0, _, OpS.toK (OpS.of_call hc hf hargs hcall) (wk_tupj _ _), ?_⟩
    have k := hH.addL (B (fun i => σ.objs.length + i) c)
    have hd : ∀ (l : List (List AV)) (i : Nat) (τ : St), Holds σ0 (zipB (fun i => σ.objs.length + i) i l ++ O) A' τ → Holds σ0 O A' τ := by
      intro l
      induction l with
      | nil => exact fun _ _ h => h
      | cons x l ih => exact fun i τ h => ih (i + 1) τ (h.drop (Nat.le_trans hH.olen (Nat.le_add_right _ _)))
    exact hd _ _ _ k
end
end Go.Va
namespace Go.Proofs.YtggeboakilalhaaGreatDoor
open Go Go.Va
set_option linter.unusedVariables false
set_option linter.unusedSimpArgs false
set_option maxRecDepth 20000
theorem slab_New_ok {x0 : Int} {r : (Option slab_Budget) × Err} (H : slab_New x0 = some r) (σ : St)  : ACall Tryz.prog 25 [(eI x0)] σ (fun a τ => NewO c_slab_Budget [eErr r.2] σ r.1 a τ) := by
 unfold slab_New at H
 refine ACall.newo (fun ρ κ => by simp only [cutL, encErr.cut ρ κ]) (fun c ρ κ => c_slab_Budget_cut ρ κ c) (acall_start tk Tryz.func25 (by decide) rfl (nb rfl) ?_)
 have hH := Holds.init σ
 refine sr rfl (ma tk .nilp rfl rfl (ma tk (eErr Err.nil) rfl rfl (wpo_nil (awp_seq (awp_seq ?_)))))
 obtain ⟨s1, hs3, hj4⟩ := ob H
 refine awp_cutn (fun fr τ => WkF fr (fm [(0, (eI x0)), (9, (eB s1))]) ∧ Holds σ [] [] τ) ?_ ?_
 ·rintro fr τ ⟨hfr, hH⟩
  have H10 := hj4
  refine AWP.fm [(0, (eI x0)), (9, (eB s1))] hfr ?_
  refine awp_if H10 rfl (fun H11 => ?_) (fun H11 => ?_)
  ·refine sr rfl (mm tk (eI x0) rfl rfl ?_)
   refine b_ H11 eErr rfl (fun v13 hv => OpP.of_call rfl rfl (.cons wr (.cons wr (.cons wr .nil))) (trouble_New_ok hv)) fun v13 hv13 H12 => ?_
   refine ma tk .nilp rfl rfl (ma tk (eErr v13) rfl rfl (wpo_nil (awp_ret ?_)))
   obtain rfl := oi H12
   exact ⟨_, .tup [.nilp, (eErr v13)], rfl, .of_eq rfl, NewE.none hH.noT⟩
  ·refine awp_skip (sr rfl (mm tk (eI x0) rfl rfl ?_))
   refine l_ H11 e_slab_Budget rfl (o_c tk false rfl (fun _ => rfl)) fun v15 H14 => ?_
   refine wpo_a (av := fun id => .ref id 0) rfl rfl rfl (h_box tk hH rfl wr (b := (e_slab_Budget v15)) (cf_slab_Budget _) (c_slab_Budget v15) rfl) fun id16 τ ⟨hH, n17⟩ => ?_
   refine ma tk (.ref id16 0) rfl rfl (ma tk (eErr Err.nil) rfl rfl (wpo_nil (awp_ret ?_)))
   obtain rfl := oi H14
   exact ⟨_, .tup [.ref id16 0, (eErr Err.nil)], rfl, .of_eq rfl, NewE.some n17 hH.noT⟩
 ·refine awp_region rfl (mm tk (eI x0) rfl rfl ?_)
  refine l_ hs3 eB rfl (o_ar tk rfl rfl rfl) fun v6 H5 => ?_
  refine mm tk (eB v6) rfl rfl ?_
  refine if_split H5 (fun hb H7 => ?_) (fun hb H7 => ?_)
  ·subst hb
   refine k_ rfl (k_ rfl (pt tk (eB true) rfl rfl rfl (wpo_nil ?_)))
   have e := oi H7
   subst e
   exact ⟨(wc (wc (wkf_nil _))), hH⟩
  ·subst hb
   refine mm tk (eI x0) rfl rfl ?_
   refine l_ H7 eB rfl (o_ar tk rfl rfl rfl) fun v9 H8 => ?_
   refine pf tk (eB v9) rfl rfl rfl (wpo_nil ?_)
   have e := oi H8
   subst e
   exact ⟨(wc (wc (wkf_nil _))), hH⟩
theorem lists_New_ok {x0 : Int} {x1 : Int} {r : (Option lists_Lists) × Err} (H : lists_New x0 x1 = some r) (σ : St)  : ACall Tryz.prog 27 [(eI x0), (eI x1)] σ (fun a τ => NewB (fun f c => [[(.vec (f 1) 4 (c.nodes).length), (.vec (f 2) 1 (c.first_).length), (.vec (f 3) 1 (c.last_).length), (.vec (f 4) 1 (c.count).length), (eI c.free), (eI c.clock)], (cL e_lists_link c.nodes), (cL eI c.first_), (cL eI c.last_), (cL eI c.count)]) [eErr r.2] σ r.1 a τ) := by
 unfold lists_New at H
 refine ACall.newB 5 (fun f c => rfl) (by decide) (fun ρ κ => by simp only [cutL, encErr.cut ρ κ]) (fun c ρ κ f g h => by exact (.cons rfl (.cons (cut_vec (h 1 (by decide))) (.cons (cut_vec (h 2 (by decide))) (.cons (cut_vec (h 3 (by decide))) (.cons (cut_vec (h 4 (by decide))) (.cons (.of_eq ((enc_i64 td3 sz3).cut ρ κ _)) (.cons (.of_eq ((enc_i64 td3 sz3).cut ρ κ _)) .nil)))))) (.cons (by first | rfl | exact (cutL_spcl ρ κ _).trans (spcl_cL enc108 _)) (by rw [cut_cL enc108.cut ρ κ]; exact .refl _) (.cons (by first | rfl | exact (cutL_spcl ρ κ _).trans (spcl_cL (enc_i64 td3 sz3) _)) (by rw [cut_cL (enc_i64 td3 sz3).cut ρ κ]; exact .refl _) (.cons (by first | rfl | exact (cutL_spcl ρ κ _).trans (spcl_cL (enc_i64 td3 sz3) _)) (by rw [cut_cL (enc_i64 td3 sz3).cut ρ κ]; exact .refl _) (.cons (by first | rfl | exact (cutL_spcl ρ κ _).trans (spcl_cL (enc_i64 td3 sz3) _)) (by rw [cut_cL (enc_i64 td3 sz3).cut ρ κ]; exact .refl _) .nil)))))) (acall_start tk Tryz.func27 (by decide) rfl (nb rfl) ?_)
 have hH := Holds.init σ
 refine sr rfl (ma tk .nilp rfl rfl (ma tk (eErr Err.nil) rfl rfl (wpo_nil (awp_seq (awp_seq ?_)))))
 obtain ⟨s1, hs3, hj4⟩ := ob H
 refine awp_cutn (fun fr τ => WkF fr (fm [(0, (eI x0)), (1, (eI x1)), (14, (eB s1))]) ∧ Holds σ [] [] τ) ?_ ?_
 ·rintro fr τ ⟨hfr, hH⟩
  have H10 := hj4
  refine AWP.fm [(0, (eI x0)), (1, (eI x1)), (14, (eB s1))] hfr ?_
  refine awp_if H10 rfl (fun H11 => ?_) (fun H11 => ?_)
  ·refine sr rfl (mm tk (eI x0) rfl rfl ?_)
   refine b_ H11 eErr rfl (fun v13 hv => OpP.of_call rfl rfl (.cons wr (.cons wr (.cons wr .nil))) (trouble_New_ok hv)) fun v13 hv13 H12 => ?_
   refine ma tk .nilp rfl rfl (ma tk (eErr v13) rfl rfl (wpo_nil (awp_ret ?_)))
   obtain rfl := oi H12
   exact ⟨_, .tup [.nilp, (eErr v13)], rfl, .of_eq rfl, NewBE.none hH.noT⟩
  ·refine awp_skip (awp_seq (awp_seq ?_))
   obtain ⟨s14, hs16, hj17⟩ := ob H11
   refine awp_cutn (fun fr τ => WkF fr (fm [(0, (eI x0)), (1, (eI x1)), (22, (eB s14))]) ∧ Holds σ [] [] τ) ?_ ?_
   ·rintro fr τ ⟨hfr, hH⟩
    have H23 := hj17
    refine AWP.fm [(0, (eI x0)), (1, (eI x1)), (22, (eB s14))] hfr ?_
    refine awp_if H23 rfl (fun H24 => ?_) (fun H24 => ?_)
    ·refine sr rfl (mm tk (eI x1) rfl rfl ?_)
     refine b_ H24 eErr rfl (fun v26 hv => OpP.of_call rfl rfl (.cons wr (.cons wr (.cons wr .nil))) (trouble_New_ok hv)) fun v26 hv26 H25 => ?_
     refine ma tk .nilp rfl rfl (ma tk (eErr v26) rfl rfl (wpo_nil (awp_ret ?_)))
     obtain rfl := oi H25
     exact ⟨_, .tup [.nilp, (eErr v26)], rfl, .of_eq rfl, NewBE.none hH.noT⟩
    ·refine awp_skip (awp_seq ?_)
     obtain ⟨v28, hv29, H27⟩ := ob H24
     obtain ⟨v33, hv34, H32⟩ := ob H27
     obtain ⟨v38, hv39, H37⟩ := ob H32
     obtain ⟨v43, hv44, H42⟩ := ob H37
     refine awp_drawU mixed hH 8 [1, 3, 5, 7] [(.p, fun _ => (eI x1)), (.a (cL e_lists_link v28), fun b => .vec b 4 (v28).length), (.p, fun _ => (eI x0)), (.a (cL eI v33), fun b => .vec b 1 (v33).length), (.p, fun _ => (eI x0)), (.a (cL eI v38), fun b => .vec b 1 (v38).length), (.p, fun _ => (eI x0)), (.a (cL eI v43), fun b => .vec b 1 (v43).length)] [9] rfl rfl rfl (by decide +kernel) rfl rfl rfl (by decide +kernel) rfl ?_
     refine wpdU_mv rfl rfl (o_mv tk rfl (Wk.refl _)) ?_
     refine wpdU_a rfl rfl (fun σ1 O1 A1 hH => (h_makeV (e := e_lists_link) tk hH hv29 td104 ty108 rfl rfl rfl rfl)) fun id30 n31 => ?_
     refine wpdU_mv rfl rfl (o_mv tk rfl (Wk.refl _)) ?_
     refine wpdU_a rfl rfl (fun σ1 O1 A1 hH => (h_makeV (e := eI) tk hH hv34 td67 ty3 rfl rfl rfl rfl)) fun id35 n36 => ?_
     refine wpdU_mv rfl rfl (o_mv tk rfl (Wk.refl _)) ?_
     refine wpdU_a rfl rfl (fun σ1 O1 A1 hH => (h_makeV (e := eI) tk hH hv39 td67 ty3 rfl rfl rfl rfl)) fun id40 n41 => ?_
     refine wpdU_mv rfl rfl (o_mv tk rfl (Wk.refl _)) ?_
     refine wpdU_a rfl rfl (fun σ1 O1 A1 hH => (h_makeV (e := eI) tk hH hv44 td67 ty3 rfl rfl rfl rfl)) fun id45 n46 => ?_
     refine wpdU_nil fun τ hH => ?_
     have hH : Holds σ [(id45, (cL eI v43)), (id40, (cL eI v38)), (id35, (cL eI v33)), (id30, (cL e_lists_link v28))] [] τ := hH
     refine wpdS_mv (a := (.agg [(.vec id30 4 (v28).length), (.vec id35 1 (v33).length), (.vec id40 1 (v38).length), (.vec id45 1 (v43).length), (eI (⟨v28, v33, v38, v43, 0, 0⟩ : lists_Lists).free), (eI (⟨v28, v33, v38, v43, 0, 0⟩ : lists_Lists).clock)])) rfl rfl rfl (o_c tk false rfl (fun _ => rfl)) ?_
     refine wpdS_a (av := fun id => .ref id 0) rfl rfl rfl (h_box tk hH rfl wr (b := (.agg [(.vec id30 4 (v28).length), (.vec id35 1 (v33).length), (.vec id40 1 (v38).length), (.vec id45 1 (v43).length), (eI (⟨v28, v33, v38, v43, 0, 0⟩ : lists_Lists).free), (eI (⟨v28, v33, v38, v43, 0, 0⟩ : lists_Lists).clock)])) rfl [(.vec id30 4 (v28).length), (.vec id35 1 (v33).length), (.vec id40 1 (v38).length), (.vec id45 1 (v43).length), (eI (⟨v28, v33, v38, v43, 0, 0⟩ : lists_Lists).free), (eI (⟨v28, v33, v38, v43, 0, 0⟩ : lists_Lists).clock)] rfl) fun id47 τ ⟨hH, n48⟩ => ?_
     refine wpdS_mv (a := (.ref id47 0)) rfl rfl rfl (o_as tk rfl (Wk.refl _)) (wpdS_nil (awp_seq (sr rfl (mm tk (.ref id47 0) rfl rfl (mc tk (.ref id47 0) rfl rfl (fun _ => rfl) (mc tk (.ref id47 1) rfl rfl (fun _ => rfl) (wpo_rd (a := (.vec id35 1 (v33).length)) rfl rfl rfl (h_ld tk hH 0 rfl rfl rfl) ?_)))))))
     refine l_ H42 eI rfl (o_vlen tk td67 rfl) fun v50 H49 => ?_
     refine mm tk (eI (0 : Int)) rfl rfl (wpo_nil (awp_block ?_))
     obtain ⟨s61, hs55, hj56⟩ := ob H49
     refine awp_cutx 0 (fun fr τ => WkF fr (fm [(1, (eI x1)), (6, (.ref id47 0))]) ∧ Holds σ [(id47, [(.vec id30 4 (v28).length), (.vec id35 1 (s61.2).length), (.vec id40 1 (s61.1).length), (.vec id45 1 (v43).length), (eI (⟨v28, v33, v38, v43, 0, 0⟩ : lists_Lists).free), (eI (⟨v28, v33, v38, v43, 0, 0⟩ : lists_Lists).clock)]), (id45, (cL eI v43)), (id40, (cL eI s61.1)), (id35, (cL eI s61.2)), (id30, (cL e_lists_link v28))] [] τ) ?_ ?_
     ·rintro fr τ ⟨hfr, hH⟩
      have H78 := hj56
      refine AWP.fm [(1, (eI x1)), (6, (.ref id47 0))] hfr ?_
      refine awp_seq (sr rfl (mm tk (.ref id47 0) rfl rfl (mc tk (.ref id47 0) rfl rfl (fun _ => rfl) (mc tk (.ref id47 0) rfl rfl (fun _ => rfl) (wpo_rd (a := (.vec id30 4 (v28).length)) rfl rfl rfl (h_ld tk hH 0 rfl rfl rfl) ?_)))))
      refine l_ H78 eI rfl (o_vlen tk td104 rfl) fun v80 H79 => ?_
      refine mm tk (eI (0 : Int)) rfl rfl (wpo_nil (awp_block ?_))
      obtain ⟨s90, hs84, hj85⟩ := ob H79
      refine awp_cutx 2 (fun fr τ => WkF fr (fm [(1, (eI x1)), (6, (.ref id47 0))]) ∧ Holds σ [(id47, [(.vec id30 4 (s90).length), (.vec id35 1 (s61.2).length), (.vec id40 1 (s61.1).length), (.vec id45 1 (v43).length), (eI (⟨v28, v33, v38, v43, 0, 0⟩ : lists_Lists).free), (eI (⟨v28, v33, v38, v43, 0, 0⟩ : lists_Lists).clock)]), (id45, (cL eI v43)), (id40, (cL eI s61.1)), (id35, (cL eI s61.2)), (id30, (cL e_lists_link s90))] [] τ) ?_ ?_
      ·rintro fr τ ⟨hfr, hH⟩
       have H106 := hj85
       refine AWP.fm [(1, (eI x1)), (6, (.ref id47 0))] hfr ?_
       refine sr rfl (mm tk (.ref id47 0) rfl rfl (mc tk (.ref id47 0) rfl rfl (fun _ => rfl) (mc tk (.ref id47 0) rfl rfl (fun _ => rfl) (wpo_rd (a := (.vec id30 4 (s90).length)) rfl rfl rfl (h_ld tk hH 0 rfl rfl rfl) (mm tk (eI x1) rfl rfl ?_)))))
       refine l_ H106 eI rfl (o_ar tk rfl rfl rfl) fun v108 H107 => ?_
       refine b_ H107 (fun _ => .ref id30 (0 + (v108 : Int).toNat * 4 + 0)) rfl (fun v110 hv => o_vecx tk hv td104 sz108 (by decide) rfl rfl) fun v110 hv110 H109 => ?_
       refine mc tk (.ref id30 (0 + (v108 : Int).toNat * 4 + 1)) rfl rfl (fun _ => rfl) ?_
       obtain ⟨c112, hc113, H111⟩ := ob H109
       refine wpo_z rfl rfl (h_stx tk hH 4 hc113 rfl enc108 ty3 (by simp) rfl rfl wr (b := (eI (-1 : Int))) rfl rfl (by decide) (fun _ => rfl)) fun τ hH => ?_
       refine wpo_nil (sr rfl (mm tk (.ref id47 0) rfl rfl (ma tk (.ref id47 0) rfl rfl (ma tk (eErr Err.nil) rfl rfl (wpo_nil (awp_ret ?_))))))
       have hH : Holds σ [(id47, [(.vec id30 4 (c112).length), (.vec id35 1 (s61.2).length), (.vec id40 1 (s61.1).length), (.vec id45 1 (v43).length), (eI (⟨v28, v33, v38, v43, 0, 0⟩ : lists_Lists).free), (eI (⟨v28, v33, v38, v43, 0, 0⟩ : lists_Lists).clock)]), (id45, (cL eI v43)), (id40, (cL eI s61.1)), (id35, (cL eI s61.2)), (id30, (cL e_lists_link c112))] [] _ := (Holds.cells hH 0 [(.vec id30 4 (c112).length), (.vec id35 1 (s61.2).length), (.vec id40 1 (s61.1).length), (.vec id45 1 (v43).length), (eI (⟨v28, v33, v38, v43, 0, 0⟩ : lists_Lists).free), (eI (⟨v28, v33, v38, v43, 0, 0⟩ : lists_Lists).clock)] rfl (by first | rfl | simp only [updA_len hc113]))
       obtain rfl := oi H111
       refine ⟨_, .tup [.ref id47 0, (eErr Err.nil)], rfl, .of_eq rfl, NewBE.some (fun i => [id47, id30, id35, id40, id45].getD i 0) (by intro i hi; match i, hi with | 0, _ => exact n48 | 1, _ => exact n31 | 2, _ => exact n36 | 3, _ => exact n41 | 4, _ => exact n46 | k + 5, hi => exact absurd hi (by simp)) (hH.pick (by simp only [zipB, List.mem_cons, List.not_mem_nil, or_false]; rintro _ (rfl | rfl | rfl | rfl | rfl) <;> simp) ?_ (by simp only [List.mem_cons, List.not_mem_nil, or_false]; rintro _ (rfl | rfl | rfl | rfl | rfl) <;> first | exact .inl (by assumption) | exact .inr (by simp [zipB])) (fun t h => by cases h) .nil)⟩
       exact pw_zip (hH.pw [0, 4, 3, 2, 1] rfl (by decide))
      ·refine awp_loopO (body := fun s => lists_New_b1 x1 v28 v33 v38 v43 s61 v80 s.1 s.2) hs84 (fun (s : Int × (List lists_link)) fr τ => WkF fr (fm [(1, (eI x1)), (6, (.ref id47 0)), (60, (eI v80)), (61, (eI s.1))]) ∧ Holds σ [(id47, [(.vec id30 4 (s.2).length), (.vec id35 1 (s61.2).length), (.vec id40 1 (s61.1).length), (.vec id45 1 (v43).length), (eI (⟨v28, v33, v38, v43, 0, 0⟩ : lists_Lists).free), (eI (⟨v28, v33, v38, v43, 0, 0⟩ : lists_Lists).clock)]), (id45, (cL eI v43)), (id40, (cL eI s61.1)), (id35, (cL eI s61.2)), (id30, (cL e_lists_link s.2))] [] τ) ⟨(wc (wc (wc (wc (wkf_nil _))))), hH⟩ ?_
       rintro ⟨c81, c82⟩ fr τ y86 ⟨hfr, hH⟩ hb88 hy89
       have H91 : lists_New_b1 x1 v28 v33 v38 v43 s61 v80 c81 c82 = some y86 := hb88
       unfold lists_New_b1 at H91
       refine AWP.fm [(1, (eI x1)), (6, (.ref id47 0)), (60, (eI v80)), (61, (eI c81))] hfr ?_
       have hH : Holds σ [(id47, [(.vec id30 4 (c82).length), (.vec id35 1 (s61.2).length), (.vec id40 1 (s61.1).length), (.vec id45 1 (v43).length), (eI (⟨v28, v33, v38, v43, 0, 0⟩ : lists_Lists).free), (eI (⟨v28, v33, v38, v43, 0, 0⟩ : lists_Lists).clock)]), (id45, (cL eI v43)), (id40, (cL eI s61.1)), (id35, (cL eI s61.2)), (id30, (cL e_lists_link c82))] [] τ := hH
       refine sr rfl ?_
       refine l_ H91 eB rfl (o_ar tk rfl rfl rfl) fun v93 H92 => ?_
       refine wpo_nil (awp_seq ?_)
       refine awp_if H92 rfl (fun H94 => ?_) (fun H94 => ?_)
       ·refine awp_skip (awp_seq (awp_block (sr rfl (mm tk (eI c81) rfl rfl (ma tk (eI c81) rfl rfl (wpo_nil (awp_region rfl (mm tk (.ref id47 0) rfl rfl ?_))))))))
        refine mc tk (.ref id47 0) rfl rfl (fun _ => rfl) (mc tk (.ref id47 0) rfl rfl (fun _ => rfl) (wpo_rd (a := (.vec id30 4 (c82).length)) rfl rfl rfl (h_ld tk hH 0 rfl rfl rfl) (mm tk (eI c81) rfl rfl (mm tk (eI c81) rfl rfl ?_))))
        refine l_ H94 eI rfl (o_ar tk rfl rfl rfl) fun v96 H95 => ?_
        refine l_ H95 e_lists_link rfl (o_c tk false rfl (fun _ => rfl)) fun v98 H97 => ?_
        refine b_ H97 (fun _ => .ref id30 (0 + (c81 : Int).toNat * 4 + 0)) rfl (fun v100 hv => o_vecx tk hv td104 sz108 (by decide) rfl rfl) fun v100 hv100 H99 => ?_
        obtain ⟨c102, hc103, H101⟩ := ob H99
        refine wpo_z rfl rfl (h_stx tk hH 4 hc103 rfl enc108 ty108 (by simp) rfl rfl wr (b := (e_lists_link v98)) (enc108.flat _) rfl (by decide) (fun _ => (repl_all (enc108.len _) (enc108.len _)))) fun τ hH => ?_
        refine wpo_nil (awp_region rfl ?_)
        refine l_ H101 eI rfl (o_ar tk rfl rfl rfl) fun v105 H104 => ?_
        refine mm tk (eI v105) rfl rfl (wpo_nil ?_)
        exact ⟨(v105, c102), inj_inl H104, (wc (wc (wc (wc (wkf_nil _))))), (Holds.cells hH 0 [(.vec id30 4 (c102).length), (.vec id35 1 (s61.2).length), (.vec id40 1 (s61.1).length), (.vec id45 1 (v43).length), (eI (⟨v28, v33, v38, v43, 0, 0⟩ : lists_Lists).free), (eI (⟨v28, v33, v38, v43, 0, 0⟩ : lists_Lists).clock)] rfl (by first | rfl | simp only [updA_len hc103]))⟩
       ·refine awp_exit ?_
        have hz := hy89 _ (inj_inr H94)
        subst hz
        exact ⟨⟨_, inj_inr H94⟩, (wc (wc (wkf_nil _))), hH⟩
     ·refine awp_loopO (body := fun s => lists_New_b0 x1 v28 v33 v38 v43 v50 s.1 s.2.1 s.2.2) hs55 (fun (s : Int × (List Int) × (List Int)) fr τ => WkF fr (fm [(1, (eI x1)), (6, (.ref id47 0)), (39, (eI v50)), (40, (eI s.1))]) ∧ Holds σ [(id47, [(.vec id30 4 (v28).length), (.vec id35 1 (s.2.2).length), (.vec id40 1 (s.2.1).length), (.vec id45 1 (v43).length), (eI (⟨v28, v33, v38, v43, 0, 0⟩ : lists_Lists).free), (eI (⟨v28, v33, v38, v43, 0, 0⟩ : lists_Lists).clock)]), (id45, (cL eI v43)), (id40, (cL eI s.2.1)), (id35, (cL eI s.2.2)), (id30, (cL e_lists_link v28))] [] τ) ⟨(wc (wc (wc (wc (wkf_nil _))))), hH⟩ ?_
      rintro ⟨c51, c52, c53⟩ fr τ y57 ⟨hfr, hH⟩ hb59 hy60
      have H62 : lists_New_b0 x1 v28 v33 v38 v43 v50 c51 c52 c53 = some y57 := hb59
      unfold lists_New_b0 at H62
      refine AWP.fm [(1, (eI x1)), (6, (.ref id47 0)), (39, (eI v50)), (40, (eI c51))] hfr ?_
      have hH : Holds σ [(id47, [(.vec id30 4 (v28).length), (.vec id35 1 (c53).length), (.vec id40 1 (c52).length), (.vec id45 1 (v43).length), (eI (⟨v28, v33, v38, v43, 0, 0⟩ : lists_Lists).free), (eI (⟨v28, v33, v38, v43, 0, 0⟩ : lists_Lists).clock)]), (id45, (cL eI v43)), (id40, (cL eI c52)), (id35, (cL eI c53)), (id30, (cL e_lists_link v28))] [] τ := hH
      refine sr rfl ?_
      refine l_ H62 eB rfl (o_ar tk rfl rfl rfl) fun v64 H63 => ?_
      refine wpo_nil (awp_seq ?_)
      refine awp_if H63 rfl (fun H65 => ?_) (fun H65 => ?_)
      ·refine awp_skip (awp_seq (awp_block (sr rfl (mm tk (eI c51) rfl rfl (ma tk (eI c51) rfl rfl (wpo_nil ?_))))))
       refine awp_drawS mixed [11, 13] rfl (by decide +kernel) rfl rfl ?_
       refine wpdS_mv (a := (.ref id47 0)) rfl rfl rfl (o_mv tk rfl (Wk.refl _)) (wpdS_mv (a := (.ref id47 0)) rfl rfl rfl (o_c tk false rfl (fun _ => rfl)) (wpdS_mv (a := (.ref id47 1)) rfl rfl rfl (o_c tk false rfl (fun _ => rfl)) (wpdS_rd (a := (.vec id35 1 (c53).length)) rfl (by decide +kernel) rfl rfl (h_ld tk hH 0 rfl rfl rfl) (wpdS_mv (a := (eI c51)) rfl rfl rfl (o_mv tk rfl (Wk.refl _)) (wpdS_mv (a := (.ref id47 0)) rfl rfl rfl (o_mv tk rfl (Wk.refl _)) (wpdS_mv (a := (.ref id47 0)) rfl rfl rfl (o_c tk false rfl (fun _ => rfl)) (wpdS_mv (a := (.ref id47 2)) rfl rfl rfl (o_c tk false rfl (fun _ => rfl)) (wpdS_rd (a := (.vec id40 1 (c52).length)) rfl (by decide +kernel) rfl rfl (h_ld tk hH 0 rfl rfl rfl) ?_))))))))
       refine wpdS_mv (a := (eI c51)) rfl rfl rfl (o_mv tk rfl (Wk.refl _)) ?_
       refine wpdS_bd H65 (fun _ => .ref id35 (0 + (c51 : Int).toNat * 1 + 0)) rfl rfl rfl (fun v67 hv => o_vecx tk hv td67 sz3 (by decide) rfl rfl) fun v67 hv67 H66 => ?_
       obtain ⟨c69, hc70, H68⟩ := ob H66
       refine wpdS_z rfl rfl rfl (h_stx tk hH 3 hc70 rfl (enc_i64 td3 sz3) ty3 (by simp) rfl rfl wr (b := (eI (-1 : Int))) rfl rfl (by decide) (fun _ => rfl)) fun τ hH => ?_
       refine wpdS_bd H68 (fun _ => .ref id40 (0 + (c51 : Int).toNat * 1 + 0)) rfl rfl rfl (fun v72 hv => o_vecx tk hv td67 sz3 (by decide) rfl rfl) fun v72 hv72 H71 => ?_
       obtain ⟨c74, hc75, H73⟩ := ob H71
       refine wpdS_z rfl rfl rfl (h_stx tk hH 2 hc75 rfl (enc_i64 td3 sz3) ty3 (by simp) rfl rfl wr (b := (eI (-1 : Int))) rfl rfl (by decide) (fun _ => rfl)) fun τ hH => ?_
       refine wpdS_nil (awp_region rfl ?_)
       refine l_ H73 eI rfl (o_ar tk rfl rfl rfl) fun v77 H76 => ?_
       refine mm tk (eI v77) rfl rfl (wpo_nil ?_)
       exact ⟨(v77, c74, c69), inj_inl H76, (wc (wc (wc (wc (wkf_nil _))))), (Holds.cells hH 0 [(.vec id30 4 (v28).length), (.vec id35 1 (c69).length), (.vec id40 1 (c74).length), (.vec id45 1 (v43).length), (eI (⟨v28, v33, v38, v43, 0, 0⟩ : lists_Lists).free), (eI (⟨v28, v33, v38, v43, 0, 0⟩ : lists_Lists).clock)] rfl (by first | rfl | simp only [updA_len hc70, updA_len hc75]))⟩
      ·refine awp_exit ?_
       have hz := hy60 _ (inj_inr H65)
       subst hz
       exact ⟨⟨_, inj_inr H65⟩, (wc (wc (wkf_nil _))), hH⟩
   ·refine awp_region rfl (mm tk (eI x1) rfl rfl ?_)
    refine l_ hs16 eB rfl (o_ar tk rfl rfl rfl) fun v19 H18 => ?_
    refine mm tk (eB v19) rfl rfl ?_
    refine if_split H18 (fun hb H20 => ?_) (fun hb H20 => ?_)
    ·subst hb
     refine k_ rfl (k_ rfl (pt tk (eB true) rfl rfl rfl (wpo_nil ?_)))
     have e := oi H20
     subst e
     exact ⟨(wc (wc (wc (wkf_nil _)))), hH⟩
    ·subst hb
     refine mm tk (eI x1) rfl rfl ?_
     refine l_ H20 eB rfl (o_ar tk rfl rfl rfl) fun v22 H21 => ?_
     refine pf tk (eB v22) rfl rfl rfl (wpo_nil ?_)
     have e := oi H21
     subst e
     exact ⟨(wc (wc (wc (wkf_nil _)))), hH⟩
 ·refine awp_region rfl (mm tk (eI x0) rfl rfl ?_)
  refine l_ hs3 eB rfl (o_ar tk rfl rfl rfl) fun v6 H5 => ?_
  refine mm tk (eB v6) rfl rfl ?_
  refine if_split H5 (fun hb H7 => ?_) (fun hb H7 => ?_)
  ·subst hb
   refine k_ rfl (k_ rfl (pt tk (eB true) rfl rfl rfl (wpo_nil ?_)))
   have e := oi H7
   subst e
   exact ⟨(wc (wc (wc (wkf_nil _)))), hH⟩
  ·subst hb
   refine mm tk (eI x0) rfl rfl ?_
   refine l_ H7 eB rfl (o_ar tk rfl rfl rfl) fun v9 H8 => ?_
   refine pf tk (eB v9) rfl rfl rfl (wpo_nil ?_)
   have e := oi H8
   subst e
   exact ⟨(wc (wc (wc (wkf_nil _)))), hH⟩
theorem ram_New_ok {x0 : Int} {r : (Option ram_Ram) × Err} (H : ram_New x0 = some r) (σ : St)  : ACall Tryz.prog 7 [(eI x0)] σ (fun a τ => NewB (fun f c => [[(.ref (f 1) 0), (.ref (f 2) 0), (.vec (f 7) 1 (c.heads).length), (.vec (f 8) 1 (c.next_).length), (.vec (f 9) 5 (c.things).length), (eI c.count)], (c_slab_Budget c.budget), [(.vec (f 3) 4 (c.lists.nodes).length), (.vec (f 4) 1 (c.lists.first_).length), (.vec (f 5) 1 (c.lists.last_).length), (.vec (f 6) 1 (c.lists.count).length), (eI c.lists.free), (eI c.lists.clock)], (cL e_lists_link c.lists.nodes), (cL eI c.lists.first_), (cL eI c.lists.last_), (cL eI c.lists.count), (cL eI c.heads), (cL eI c.next_), (cL e_aEn c.things)]) [eErr r.2] σ r.1 a τ) := by
 unfold ram_New at H
 refine ACall.newB 10 (fun f c => rfl) (by decide) (fun ρ κ => by simp only [cutL, encErr.cut ρ κ]) (fun c ρ κ f g h => by exact (.cons rfl (.cons (.of_eq (cut_ref_id (h 1 (by decide)))) (.cons (.of_eq (cut_ref_id (h 2 (by decide)))) (.cons (cut_vec (h 7 (by decide))) (.cons (cut_vec (h 8 (by decide))) (.cons (cut_vec (h 9 (by decide))) (.cons (.of_eq ((enc_i64 td3 sz3).cut ρ κ _)) .nil)))))) (.cons rfl (by rw [c_slab_Budget_cut ρ κ]; exact .refl _) (.cons rfl (.cons (cut_vec (h 3 (by decide))) (.cons (cut_vec (h 4 (by decide))) (.cons (cut_vec (h 5 (by decide))) (.cons (cut_vec (h 6 (by decide))) (.cons (.of_eq ((enc_i64 td3 sz3).cut ρ κ _)) (.cons (.of_eq ((enc_i64 td3 sz3).cut ρ κ _)) .nil)))))) (.cons (by first | rfl | exact (cutL_spcl ρ κ _).trans (spcl_cL enc108 _)) (by rw [cut_cL enc108.cut ρ κ]; exact .refl _) (.cons (by first | rfl | exact (cutL_spcl ρ κ _).trans (spcl_cL (enc_i64 td3 sz3) _)) (by rw [cut_cL (enc_i64 td3 sz3).cut ρ κ]; exact .refl _) (.cons (by first | rfl | exact (cutL_spcl ρ κ _).trans (spcl_cL (enc_i64 td3 sz3) _)) (by rw [cut_cL (enc_i64 td3 sz3).cut ρ κ]; exact .refl _) (.cons (by first | rfl | exact (cutL_spcl ρ κ _).trans (spcl_cL (enc_i64 td3 sz3) _)) (by rw [cut_cL (enc_i64 td3 sz3).cut ρ κ]; exact .refl _) (.cons (by first | rfl | exact (cutL_spcl ρ κ _).trans (spcl_cL (enc_i64 td3 sz3) _)) (by rw [cut_cL (enc_i64 td3 sz3).cut ρ κ]; exact .refl _) (.cons (by first | rfl | exact (cutL_spcl ρ κ _).trans (spcl_cL (enc_i64 td3 sz3) _)) (by rw [cut_cL (enc_i64 td3 sz3).cut ρ κ]; exact .refl _) (.cons (by first | rfl | exact (cutL_spcl ρ κ _).trans (spcl_cL enc25 _)) (by rw [cut_cL enc25.cut ρ κ]; exact .refl _) .nil))))))))))) (acall_start tk Tryz.func7 (by decide) rfl (nb rfl) ?_)
 have hH := Holds.init σ
 refine sr rfl (ma tk .nilp rfl rfl (ma tk (eErr Err.nil) rfl rfl (wpo_nil (awp_seq (sr rfl (mm tk (eI x0) rfl rfl ?_))))))
 refine l_ H eB rfl (o_ar tk rfl rfl rfl) fun v2 H1 => ?_
 refine wpo_nil ?_
 refine awp_if H1 rfl (fun H3 => ?_) (fun H3 => ?_)
 ·refine sr rfl (mm tk (eI x0) rfl rfl ?_)
  refine b_ H3 eErr rfl (fun v5 hv => OpP.of_call rfl rfl (.cons wr (.cons wr (.cons wr .nil))) (trouble_New_ok hv)) fun v5 hv5 H4 => ?_
  refine ma tk .nilp rfl rfl (ma tk (eErr v5) rfl rfl (wpo_nil (awp_ret ?_)))
  obtain rfl := oi H4
  exact ⟨_, .tup [.nilp, (eErr v5)], rfl, .of_eq rfl, NewBE.none hH.noT⟩
 ·refine awp_skip (sr rfl (mm tk (eI x0) rfl rfl ?_))
  obtain ⟨v7, hvv7, H6⟩ := ob H3
  rcases hz11 : v7.1 with _ | c8
  ·rw [hz11, Option.elim_none] at H6
   refine wpo_a (av := fun _ => .tup [.nilp, (eErr v7.2)]) rfl rfl rfl (h_callno0 hH hz11 rfl rfl (.cons wr .nil) (slab_New_ok hvv7 _)) fun _ τ hH => ?_
   refine mm tk (.tup [.nilp, (eErr v7.2)]) rfl rfl (m_ .nilp rfl (o_ext tk rfl rfl) (m_ (eErr v7.2) rfl (o_ext tk rfl rfl) (ma tk .nilp rfl rfl (ma tk (eErr v7.2) rfl rfl (wpo_nil (awp_seq (sr rfl (mm tk (eErr v7.2) rfl rfl ?_))))))))
   refine l_ H6 eB rfl (o_err_neq tk rfl rfl rfl) fun v13 H12 => ?_
   refine wpo_nil ?_
   refine awp_if H12 rfl (fun H14 => ?_) (fun H14 => ?_)
   ·refine sr rfl (mm tk (eI x0) rfl rfl (mm tk (eErr v7.2) rfl rfl ?_))
    refine b_ H14 eErr rfl (fun v16 hv => OpP.of_call rfl rfl (.cons wr (.cons wr (.cons wr .nil))) (trouble_Wrap_ok hv)) fun v16 hv16 H15 => ?_
    refine ma tk .nilp rfl rfl (ma tk (eErr v16) rfl rfl (wpo_nil (awp_ret ?_)))
    obtain rfl := oi H15
    exact ⟨_, .tup [.nilp, (eErr v16)], rfl, .of_eq rfl, NewBE.none hH.noT⟩
   ·refine awp_skip (sr rfl (mm tk (eI x0) rfl rfl ?_))
    refine l_ H14 eI rfl (o_quo tk (z := (32 : Int)) rfl rfl rfl) fun v18 H17 => ?_
    refine l_ H17 eI rfl (o_max tk rfl rfl) fun v20 H19 => ?_
    refine ma tk (eI v20) rfl rfl (wpo_nil (sr rfl (mm tk (eI v20) rfl rfl ?_)))
    obtain ⟨v22, hvv22, H21⟩ := ob H19
    rcases hz26 : v22.1 with _ | c23
    ·rw [hz26, Option.elim_none] at H21
     refine wpo_a (av := fun _ => .tup [.nilp, (eErr v22.2)]) rfl rfl rfl (h_callnb0 hH hz26 rfl rfl (.cons wr (.cons wr .nil)) (lists_New_ok hvv22 _)) fun _ τ hH => ?_
     refine mm tk (.tup [.nilp, (eErr v22.2)]) rfl rfl (m_ .nilp rfl (o_ext tk rfl rfl) (m_ (eErr v22.2) rfl (o_ext tk rfl rfl) (ma tk .nilp rfl rfl (ma tk (eErr v22.2) rfl rfl (wpo_nil (awp_seq (sr rfl (mm tk (eErr v22.2) rfl rfl ?_))))))))
     refine l_ H21 eB rfl (o_err_neq tk rfl rfl rfl) fun v28 H27 => ?_
     refine wpo_nil ?_
     refine awp_if H27 rfl (fun H29 => ?_) (fun H29 => ?_)
     ·refine sr rfl (mm tk (eI x0) rfl rfl (mm tk (eErr v22.2) rfl rfl ?_))
      refine b_ H29 eErr rfl (fun v31 hv => OpP.of_call rfl rfl (.cons wr (.cons wr (.cons wr .nil))) (trouble_Wrap_ok hv)) fun v31 hv31 H30 => ?_
      refine ma tk .nilp rfl rfl (ma tk (eErr v31) rfl rfl (wpo_nil (awp_ret ?_)))
      obtain rfl := oi H30
      exact ⟨_, .tup [.nilp, (eErr v31)], rfl, .of_eq rfl, NewBE.none hH.noT⟩
     ·refine awp_skip (awp_seq ?_)
      obtain ⟨v33, hv34, H32⟩ := lt_ex H29
      obtain ⟨v36, hv37, H35⟩ := ob H32
      obtain ⟨v41, hv42, H40⟩ := ob H35
      obtain ⟨v46, hv47, H45⟩ := ob H40
      refine awp_drawU mixed hH 9 [4, 6, 8] [(.p, fun _ => .nilp), (.p, fun _ => .nilp), (.p, fun _ => (eI v20)), (.p, fun _ => (eI v33)), (.a (cL eI v36), fun b => .vec b 1 (v36).length), (.p, fun _ => (eI v20)), (.a (cL eI v41), fun b => .vec b 1 (v41).length), (.p, fun _ => (eI v20)), (.a (cL e_aEn v46), fun b => .vec b 5 (v46).length)] [10] rfl rfl rfl (by decide +kernel) rfl rfl rfl (by decide +kernel) rfl ?_
      refine wpdU_mv rfl rfl (o_mv tk rfl (Wk.refl _)) ?_
      refine wpdU_mv rfl rfl (o_mv tk rfl (Wk.refl _)) ?_
      refine wpdU_mv rfl rfl (o_mv tk rfl (Wk.refl _)) ?_
      refine wpdU_mv rfl rfl (by rw [← hv34]; exact (o_min tk rfl rfl)) ?_
      refine wpdU_a rfl rfl (fun σ1 O1 A1 hH => (h_makeV (e := eI) tk hH hv37 td67 ty3 rfl rfl rfl rfl)) fun id38 n39 => ?_
      refine wpdU_mv rfl rfl (o_mv tk rfl (Wk.refl _)) ?_
      refine wpdU_a rfl rfl (fun σ1 O1 A1 hH => (h_makeV (e := eI) tk hH hv42 td67 ty3 rfl rfl rfl rfl)) fun id43 n44 => ?_
      refine wpdU_mv rfl rfl (o_mv tk rfl (Wk.refl _)) ?_
      refine wpdU_a rfl rfl (fun σ1 O1 A1 hH => (h_makeVw tk hH hv47 td35 ty25 rfl enc25 (.cons wr (.cons wr (.cons wr (.cons wr (.cons (by exact wk_nils _) .nil))))) rfl rfl)) fun id48 n49 => ?_
      refine wpdU_nil fun τ hH => ?_
      have hH : Holds σ [(id48, (cL e_aEn v46)), (id43, (cL eI v41)), (id38, (cL eI v36))] [] τ := hH
      cases H45
    ·rw [hz26, Option.elim_some] at H21
     refine wpo_a (av := fun id => .tup [.ref id 0, (eErr v22.2)]) rfl rfl rfl (h_callnb1 hH hz26 rfl rfl (.cons wr (.cons wr .nil)) (lists_New_ok hvv22 _)) fun id24 τ ⟨hH, n25⟩ => ?_
     obtain ⟨id24_nodes, h_id24_nodes⟩ : ∃ x, x = id24 + 1 := ⟨_, rfl⟩
     obtain ⟨id24_first_, h_id24_first_⟩ : ∃ x, x = id24 + 2 := ⟨_, rfl⟩
     obtain ⟨id24_last_, h_id24_last_⟩ : ∃ x, x = id24 + 3 := ⟨_, rfl⟩
     obtain ⟨id24_count, h_id24_count⟩ : ∃ x, x = id24 + 4 := ⟨_, rfl⟩
     have hH : Holds σ [(id24, [(.vec id24_nodes 4 (c23.nodes).length), (.vec id24_first_ 1 (c23.first_).length), (.vec id24_last_ 1 (c23.last_).length), (.vec id24_count 1 (c23.count).length), (eI c23.free), (eI c23.clock)]), (id24_nodes, (cL e_lists_link c23.nodes)), (id24_first_, (cL eI c23.first_)), (id24_last_, (cL eI c23.last_)), (id24_count, (cL eI c23.count))] [] τ := by rw [h_id24_nodes, h_id24_first_, h_id24_last_, h_id24_count]; exact hH
     have n25_1 : σ.objs.length ≤ id24_nodes := by omega
     have n25_2 : σ.objs.length ≤ id24_first_ := by omega
     have n25_3 : σ.objs.length ≤ id24_last_ := by omega
     have n25_4 : σ.objs.length ≤ id24_count := by omega
     refine mm tk (.tup [(.ref id24 0), (eErr v22.2)]) rfl rfl (m_ (.ref id24 0) rfl (o_ext tk rfl rfl) (m_ (eErr v22.2) rfl (o_ext tk rfl rfl) (ma tk (.ref id24 0) rfl rfl (ma tk (eErr v22.2) rfl rfl (wpo_nil (awp_seq (sr rfl (mm tk (eErr v22.2) rfl rfl ?_))))))))
     refine l_ H21 eB rfl (o_err_neq tk rfl rfl rfl) fun v51 H50 => ?_
     refine wpo_nil ?_
     refine awp_if H50 rfl (fun H52 => ?_) (fun H52 => ?_)
     ·refine sr rfl (mm tk (eI x0) rfl rfl (mm tk (eErr v22.2) rfl rfl ?_))
      refine b_ H52 eErr rfl (fun v54 hv => OpP.of_call rfl rfl (.cons wr (.cons wr (.cons wr .nil))) (trouble_Wrap_ok hv)) fun v54 hv54 H53 => ?_
      refine ma tk .nilp rfl rfl (ma tk (eErr v54) rfl rfl (wpo_nil (awp_ret ?_)))
      obtain rfl := oi H53
      exact ⟨_, .tup [.nilp, (eErr v54)], rfl, .of_eq rfl, NewBE.none (((((hH.noT.drop n25).drop n25_1).drop n25_2).drop n25_3).drop n25_4)⟩
     ·refine awp_skip (awp_seq ?_)
      obtain ⟨v56, hv57, H55⟩ := lt_ex H52
      obtain ⟨v59, hv60, H58⟩ := ob H55
      obtain ⟨v64, hv65, H63⟩ := ob H58
      obtain ⟨v69, hv70, H68⟩ := ob H63
      refine awp_drawU mixed hH 9 [4, 6, 8] [(.p, fun _ => .nilp), (.p, fun _ => (.ref id24 0)), (.p, fun _ => (eI v20)), (.p, fun _ => (eI v56)), (.a (cL eI v59), fun b => .vec b 1 (v59).length), (.p, fun _ => (eI v20)), (.a (cL eI v64), fun b => .vec b 1 (v64).length), (.p, fun _ => (eI v20)), (.a (cL e_aEn v69), fun b => .vec b 5 (v69).length)] [10] rfl rfl rfl (by decide +kernel) rfl rfl rfl (by decide +kernel) rfl ?_
      refine wpdU_mv rfl rfl (o_mv tk rfl (Wk.refl _)) ?_
      refine wpdU_mv rfl rfl (o_mv tk rfl (Wk.refl _)) ?_
      refine wpdU_mv rfl rfl (o_mv tk rfl (Wk.refl _)) ?_
      refine wpdU_mv rfl rfl (by rw [← hv57]; exact (o_min tk rfl rfl)) ?_
      refine wpdU_a rfl rfl (fun σ1 O1 A1 hH => (h_makeV (e := eI) tk hH hv60 td67 ty3 rfl rfl rfl rfl)) fun id61 n62 => ?_
      refine wpdU_mv rfl rfl (o_mv tk rfl (Wk.refl _)) ?_
      refine wpdU_a rfl rfl (fun σ1 O1 A1 hH => (h_makeV (e := eI) tk hH hv65 td67 ty3 rfl rfl rfl rfl)) fun id66 n67 => ?_
      refine wpdU_mv rfl rfl (o_mv tk rfl (Wk.refl _)) ?_
      refine wpdU_a rfl rfl (fun σ1 O1 A1 hH => (h_makeVw tk hH hv70 td35 ty25 rfl enc25 (.cons wr (.cons wr (.cons wr (.cons wr (.cons (by exact wk_nils _) .nil))))) rfl rfl)) fun id71 n72 => ?_
      refine wpdU_nil fun τ hH => ?_
      have hH : Holds σ [(id71, (cL e_aEn v69)), (id66, (cL eI v64)), (id61, (cL eI v59)), (id24, [(.vec id24_nodes 4 (c23.nodes).length), (.vec id24_first_ 1 (c23.first_).length), (.vec id24_last_ 1 (c23.last_).length), (.vec id24_count 1 (c23.count).length), (eI c23.free), (eI c23.clock)]), (id24_nodes, (cL e_lists_link c23.nodes)), (id24_first_, (cL eI c23.first_)), (id24_last_, (cL eI c23.last_)), (id24_count, (cL eI c23.count))] [] τ := hH
      cases H68
  ·rw [hz11, Option.elim_some] at H6
   refine wpo_a (av := fun id => .tup [.ref id 0, (eErr v7.2)]) rfl rfl rfl (h_callno1 hH hz11 rfl rfl (.cons wr .nil) (slab_New_ok hvv7 _)) fun id9 τ ⟨hH, n10⟩ => ?_
   refine mm tk (.tup [(.ref id9 0), (eErr v7.2)]) rfl rfl (m_ (.ref id9 0) rfl (o_ext tk rfl rfl) (m_ (eErr v7.2) rfl (o_ext tk rfl rfl) (ma tk (.ref id9 0) rfl rfl (ma tk (eErr v7.2) rfl rfl (wpo_nil (awp_seq (sr rfl (mm tk (eErr v7.2) rfl rfl ?_))))))))
   refine l_ H6 eB rfl (o_err_neq tk rfl rfl rfl) fun v74 H73 => ?_
   refine wpo_nil ?_
   refine awp_if H73 rfl (fun H75 => ?_) (fun H75 => ?_)
   ·refine sr rfl (mm tk (eI x0) rfl rfl (mm tk (eErr v7.2) rfl rfl ?_))
    refine b_ H75 eErr rfl (fun v77 hv => OpP.of_call rfl rfl (.cons wr (.cons wr (.cons wr .nil))) (trouble_Wrap_ok hv)) fun v77 hv77 H76 => ?_
    refine ma tk .nilp rfl rfl (ma tk (eErr v77) rfl rfl (wpo_nil (awp_ret ?_)))
    obtain rfl := oi H76
    exact ⟨_, .tup [.nilp, (eErr v77)], rfl, .of_eq rfl, NewBE.none (hH.noT.drop n10)⟩
   ·refine awp_skip (sr rfl (mm tk (eI x0) rfl rfl ?_))
    refine l_ H75 eI rfl (o_quo tk (z := (32 : Int)) rfl rfl rfl) fun v79 H78 => ?_
    refine l_ H78 eI rfl (o_max tk rfl rfl) fun v81 H80 => ?_
    refine ma tk (eI v81) rfl rfl (wpo_nil (sr rfl (mm tk (eI v81) rfl rfl ?_)))
    obtain ⟨v83, hvv83, H82⟩ := ob H80
    rcases hz87 : v83.1 with _ | c84
    ·rw [hz87, Option.elim_none] at H82
     refine wpo_a (av := fun _ => .tup [.nilp, (eErr v83.2)]) rfl rfl rfl (h_callnb0 hH hz87 rfl rfl (.cons wr (.cons wr .nil)) (lists_New_ok hvv83 _)) fun _ τ hH => ?_
     refine mm tk (.tup [.nilp, (eErr v83.2)]) rfl rfl (m_ .nilp rfl (o_ext tk rfl rfl) (m_ (eErr v83.2) rfl (o_ext tk rfl rfl) (ma tk .nilp rfl rfl (ma tk (eErr v83.2) rfl rfl (wpo_nil (awp_seq (sr rfl (mm tk (eErr v83.2) rfl rfl ?_))))))))
     refine l_ H82 eB rfl (o_err_neq tk rfl rfl rfl) fun v89 H88 => ?_
     refine wpo_nil ?_
     refine awp_if H88 rfl (fun H90 => ?_) (fun H90 => ?_)
     ·refine sr rfl (mm tk (eI x0) rfl rfl (mm tk (eErr v83.2) rfl rfl ?_))
      refine b_ H90 eErr rfl (fun v92 hv => OpP.of_call rfl rfl (.cons wr (.cons wr (.cons wr .nil))) (trouble_Wrap_ok hv)) fun v92 hv92 H91 => ?_
      refine ma tk .nilp rfl rfl (ma tk (eErr v92) rfl rfl (wpo_nil (awp_ret ?_)))
      obtain rfl := oi H91
      exact ⟨_, .tup [.nilp, (eErr v92)], rfl, .of_eq rfl, NewBE.none (hH.noT.drop n10)⟩
     ·refine awp_skip (awp_seq ?_)
      obtain ⟨v94, hv95, H93⟩ := lt_ex H90
      obtain ⟨v97, hv98, H96⟩ := ob H93
      obtain ⟨v102, hv103, H101⟩ := ob H96
      obtain ⟨v107, hv108, H106⟩ := ob H101
      refine awp_drawU mixed hH 9 [4, 6, 8] [(.p, fun _ => (.ref id9 0)), (.p, fun _ => .nilp), (.p, fun _ => (eI v81)), (.p, fun _ => (eI v94)), (.a (cL eI v97), fun b => .vec b 1 (v97).length), (.p, fun _ => (eI v81)), (.a (cL eI v102), fun b => .vec b 1 (v102).length), (.p, fun _ => (eI v81)), (.a (cL e_aEn v107), fun b => .vec b 5 (v107).length)] [10] rfl rfl rfl (by decide +kernel) rfl rfl rfl (by decide +kernel) rfl ?_
      refine wpdU_mv rfl rfl (o_mv tk rfl (Wk.refl _)) ?_
      refine wpdU_mv rfl rfl (o_mv tk rfl (Wk.refl _)) ?_
      refine wpdU_mv rfl rfl (o_mv tk rfl (Wk.refl _)) ?_
      refine wpdU_mv rfl rfl (by rw [← hv95]; exact (o_min tk rfl rfl)) ?_
      refine wpdU_a rfl rfl (fun σ1 O1 A1 hH => (h_makeV (e := eI) tk hH hv98 td67 ty3 rfl rfl rfl rfl)) fun id99 n100 => ?_
      refine wpdU_mv rfl rfl (o_mv tk rfl (Wk.refl _)) ?_
      refine wpdU_a rfl rfl (fun σ1 O1 A1 hH => (h_makeV (e := eI) tk hH hv103 td67 ty3 rfl rfl rfl rfl)) fun id104 n105 => ?_
      refine wpdU_mv rfl rfl (o_mv tk rfl (Wk.refl _)) ?_
      refine wpdU_a rfl rfl (fun σ1 O1 A1 hH => (h_makeVw tk hH hv108 td35 ty25 rfl enc25 (.cons wr (.cons wr (.cons wr (.cons wr (.cons (by exact wk_nils _) .nil))))) rfl rfl)) fun id109 n110 => ?_
      refine wpdU_nil fun τ hH => ?_
      have hH : Holds σ [(id109, (cL e_aEn v107)), (id104, (cL eI v102)), (id99, (cL eI v97)), (id9, (c_slab_Budget c8))] [] τ := hH
      cases H106
    ·rw [hz87, Option.elim_some] at H82
     refine wpo_a (av := fun id => .tup [.ref id 0, (eErr v83.2)]) rfl rfl rfl (h_callnb1 hH hz87 rfl rfl (.cons wr (.cons wr .nil)) (lists_New_ok hvv83 _)) fun id85 τ ⟨hH, n86⟩ => ?_
     obtain ⟨id85_nodes, h_id85_nodes⟩ : ∃ x, x = id85 + 1 := ⟨_, rfl⟩
     obtain ⟨id85_first_, h_id85_first_⟩ : ∃ x, x = id85 + 2 := ⟨_, rfl⟩
     obtain ⟨id85_last_, h_id85_last_⟩ : ∃ x, x = id85 + 3 := ⟨_, rfl⟩
     obtain ⟨id85_count, h_id85_count⟩ : ∃ x, x = id85 + 4 := ⟨_, rfl⟩
     have hH : Holds σ [(id85, [(.vec id85_nodes 4 (c84.nodes).length), (.vec id85_first_ 1 (c84.first_).length), (.vec id85_last_ 1 (c84.last_).length), (.vec id85_count 1 (c84.count).length), (eI c84.free), (eI c84.clock)]), (id85_nodes, (cL e_lists_link c84.nodes)), (id85_first_, (cL eI c84.first_)), (id85_last_, (cL eI c84.last_)), (id85_count, (cL eI c84.count)), (id9, (c_slab_Budget c8))] [] τ := by rw [h_id85_nodes, h_id85_first_, h_id85_last_, h_id85_count]; exact hH
     have n86_1 : σ.objs.length ≤ id85_nodes := by omega
     have n86_2 : σ.objs.length ≤ id85_first_ := by omega
     have n86_3 : σ.objs.length ≤ id85_last_ := by omega
     have n86_4 : σ.objs.length ≤ id85_count := by omega
     refine mm tk (.tup [(.ref id85 0), (eErr v83.2)]) rfl rfl (m_ (.ref id85 0) rfl (o_ext tk rfl rfl) (m_ (eErr v83.2) rfl (o_ext tk rfl rfl) (ma tk (.ref id85 0) rfl rfl (ma tk (eErr v83.2) rfl rfl (wpo_nil (awp_seq (sr rfl (mm tk (eErr v83.2) rfl rfl ?_))))))))
     refine l_ H82 eB rfl (o_err_neq tk rfl rfl rfl) fun v112 H111 => ?_
     refine wpo_nil ?_
     refine awp_if H111 rfl (fun H113 => ?_) (fun H113 => ?_)
     ·refine sr rfl (mm tk (eI x0) rfl rfl (mm tk (eErr v83.2) rfl rfl ?_))
      refine b_ H113 eErr rfl (fun v115 hv => OpP.of_call rfl rfl (.cons wr (.cons wr (.cons wr .nil))) (trouble_Wrap_ok hv)) fun v115 hv115 H114 => ?_
      refine ma tk .nilp rfl rfl (ma tk (eErr v115) rfl rfl (wpo_nil (awp_ret ?_)))
      obtain rfl := oi H114
      exact ⟨_, .tup [.nilp, (eErr v115)], rfl, .of_eq rfl, NewBE.none ((((((hH.noT.drop n86).drop n86_1).drop n86_2).drop n86_3).drop n86_4).drop n10)⟩
     ·refine awp_skip (awp_seq ?_)
      obtain ⟨v117, hv118, H116⟩ := lt_ex H113
      obtain ⟨v120, hv121, H119⟩ := ob H116
      obtain ⟨v125, hv126, H124⟩ := ob H119
      obtain ⟨v130, hv131, H129⟩ := ob H124
      refine awp_drawU mixed hH 9 [4, 6, 8] [(.p, fun _ => (.ref id9 0)), (.p, fun _ => (.ref id85 0)), (.p, fun _ => (eI v81)), (.p, fun _ => (eI v117)), (.a (cL eI v120), fun b => .vec b 1 (v120).length), (.p, fun _ => (eI v81)), (.a (cL eI v125), fun b => .vec b 1 (v125).length), (.p, fun _ => (eI v81)), (.a (cL e_aEn v130), fun b => .vec b 5 (v130).length)] [10] rfl rfl rfl (by decide +kernel) rfl rfl rfl (by decide +kernel) rfl ?_
      refine wpdU_mv rfl rfl (o_mv tk rfl (Wk.refl _)) ?_
      refine wpdU_mv rfl rfl (o_mv tk rfl (Wk.refl _)) ?_
      refine wpdU_mv rfl rfl (o_mv tk rfl (Wk.refl _)) ?_
      refine wpdU_mv rfl rfl (by rw [← hv118]; exact (o_min tk rfl rfl)) ?_
      refine wpdU_a rfl rfl (fun σ1 O1 A1 hH => (h_makeV (e := eI) tk hH hv121 td67 ty3 rfl rfl rfl rfl)) fun id122 n123 => ?_
      refine wpdU_mv rfl rfl (o_mv tk rfl (Wk.refl _)) ?_
      refine wpdU_a rfl rfl (fun σ1 O1 A1 hH => (h_makeV (e := eI) tk hH hv126 td67 ty3 rfl rfl rfl rfl)) fun id127 n128 => ?_
      refine wpdU_mv rfl rfl (o_mv tk rfl (Wk.refl _)) ?_
      refine wpdU_a rfl rfl (fun σ1 O1 A1 hH => (h_makeVw tk hH hv131 td35 ty25 rfl enc25 (.cons wr (.cons wr (.cons wr (.cons wr (.cons (by exact wk_nils _) .nil))))) rfl rfl)) fun id132 n133 => ?_
      refine wpdU_nil fun τ hH => ?_
      have hH : Holds σ [(id132, (cL e_aEn v130)), (id127, (cL eI v125)), (id122, (cL eI v120)), (id85, [(.vec id85_nodes 4 (c84.nodes).length), (.vec id85_first_ 1 (c84.first_).length), (.vec id85_last_ 1 (c84.last_).length), (.vec id85_count 1 (c84.count).length), (eI c84.free), (eI c84.clock)]), (id85_nodes, (cL e_lists_link c84.nodes)), (id85_first_, (cL eI c84.first_)), (id85_last_, (cL eI c84.last_)), (id85_count, (cL eI c84.count)), (id9, (c_slab_Budget c8))] [] τ := hH
      refine wpdS_mv (a := (.agg [(.ref id9 0), (.ref id85 0), (.vec id122 1 (v120).length), (.vec id127 1 (v125).length), (.vec id132 5 (v130).length), (eI (⟨c8, c84, v120, v125, v130, (0 : Int)⟩ : ram_Ram).count)])) rfl rfl rfl (o_c tk false rfl (fun _ => rfl)) ?_
      refine wpdS_a (av := fun id => .ref id 0) rfl rfl rfl (h_box tk hH rfl wr (b := (.agg [(.ref id9 0), (.ref id85 0), (.vec id122 1 (v120).length), (.vec id127 1 (v125).length), (.vec id132 5 (v130).length), (eI (⟨c8, c84, v120, v125, v130, (0 : Int)⟩ : ram_Ram).count)])) rfl [(.ref id9 0), (.ref id85 0), (.vec id122 1 (v120).length), (.vec id127 1 (v125).length), (.vec id132 5 (v130).length), (eI (⟨c8, c84, v120, v125, v130, (0 : Int)⟩ : ram_Ram).count)] rfl) fun id134 τ ⟨hH, n135⟩ => ?_
      refine wpdS_mv (a := (.ref id134 0)) rfl rfl rfl (o_as tk rfl (Wk.refl _)) (wpdS_nil (awp_seq (sr rfl (mm tk (.ref id134 0) rfl rfl (mc tk (.ref id134 0) rfl rfl (fun _ => rfl) (mc tk (.ref id134 2) rfl rfl (fun _ => rfl) (wpo_rd (a := (.vec id122 1 (v120).length)) rfl rfl rfl (h_ld tk hH 0 rfl rfl rfl) ?_)))))))
      refine l_ H129 eI rfl (o_vlen tk td67 rfl) fun v137 H136 => ?_
      refine mm tk (eI (0 : Int)) rfl rfl (wpo_nil (awp_block ?_))
      obtain ⟨s147, hs141, hj142⟩ := ob H136
      refine awp_cutx 0 (fun fr τ => WkF fr (fm [(8, (.ref id134 0))]) ∧ Holds σ [(id134, [(.ref id9 0), (.ref id85 0), (.vec id122 1 (s147).length), (.vec id127 1 (v125).length), (.vec id132 5 (v130).length), (eI (⟨c8, c84, v120, v125, v130, (0 : Int)⟩ : ram_Ram).count)]), (id132, (cL e_aEn v130)), (id127, (cL eI v125)), (id122, (cL eI s147)), (id85, [(.vec id85_nodes 4 (c84.nodes).length), (.vec id85_first_ 1 (c84.first_).length), (.vec id85_last_ 1 (c84.last_).length), (.vec id85_count 1 (c84.count).length), (eI c84.free), (eI c84.clock)]), (id85_nodes, (cL e_lists_link c84.nodes)), (id85_first_, (cL eI c84.first_)), (id85_last_, (cL eI c84.last_)), (id85_count, (cL eI c84.count)), (id9, (c_slab_Budget c8))] [] τ) ?_ ?_
      ·rintro fr τ ⟨hfr, hH⟩
       have H159 := hj142
       refine AWP.fm [(8, (.ref id134 0))] hfr ?_
       refine sr rfl (mm tk (.ref id134 0) rfl rfl (ma tk (.ref id134 0) rfl rfl (ma tk (eErr Err.nil) rfl rfl (wpo_nil (awp_ret ?_)))))
       obtain rfl := oi H159
       refine ⟨_, .tup [.ref id134 0, (eErr Err.nil)], rfl, .of_eq rfl, NewBE.some (fun i => [id134, id9, id85, id85_nodes, id85_first_, id85_last_, id85_count, id122, id127, id132].getD i 0) (by intro i hi; match i, hi with | 0, _ => exact n135 | 1, _ => exact n10 | 2, _ => exact n86 | 3, _ => exact n86_1 | 4, _ => exact n86_2 | 5, _ => exact n86_3 | 6, _ => exact n86_4 | 7, _ => exact n123 | 8, _ => exact n128 | 9, _ => exact n133 | k + 10, hi => exact absurd hi (by simp)) (hH.pick (by simp only [zipB, List.mem_cons, List.not_mem_nil, or_false]; rintro _ (rfl | rfl | rfl | rfl | rfl | rfl | rfl | rfl | rfl | rfl) <;> simp) ?_ (by simp only [List.mem_cons, List.not_mem_nil, or_false]; rintro _ (rfl | rfl | rfl | rfl | rfl | rfl | rfl | rfl | rfl | rfl) <;> first | exact .inl (by assumption) | exact .inr (by simp [zipB])) (fun t h => by cases h) .nil)⟩
       exact pw_zip (hH.pw [0, 9, 4, 5, 6, 7, 8, 3, 2, 1] rfl (by decide))
      ·refine awp_loopO (body := fun s => ram_New_b0 c8 c84 v120 v125 v130 v137 s.1 s.2) hs141 (fun (s : Int × (List Int)) fr τ => WkF fr (fm [(8, (.ref id134 0)), (52, (eI v137)), (53, (eI s.1))]) ∧ Holds σ [(id134, [(.ref id9 0), (.ref id85 0), (.vec id122 1 (s.2).length), (.vec id127 1 (v125).length), (.vec id132 5 (v130).length), (eI (⟨c8, c84, v120, v125, v130, (0 : Int)⟩ : ram_Ram).count)]), (id132, (cL e_aEn v130)), (id127, (cL eI v125)), (id122, (cL eI s.2)), (id85, [(.vec id85_nodes 4 (c84.nodes).length), (.vec id85_first_ 1 (c84.first_).length), (.vec id85_last_ 1 (c84.last_).length), (.vec id85_count 1 (c84.count).length), (eI c84.free), (eI c84.clock)]), (id85_nodes, (cL e_lists_link c84.nodes)), (id85_first_, (cL eI c84.first_)), (id85_last_, (cL eI c84.last_)), (id85_count, (cL eI c84.count)), (id9, (c_slab_Budget c8))] [] τ) ⟨(wc (wc (wc (wkf_nil _)))), hH⟩ ?_
       rintro ⟨c138, c139⟩ fr τ y143 ⟨hfr, hH⟩ hb145 hy146
       have H148 : ram_New_b0 c8 c84 v120 v125 v130 v137 c138 c139 = some y143 := hb145
       unfold ram_New_b0 at H148
       refine AWP.fm [(8, (.ref id134 0)), (52, (eI v137)), (53, (eI c138))] hfr ?_
       have hH : Holds σ [(id134, [(.ref id9 0), (.ref id85 0), (.vec id122 1 (c139).length), (.vec id127 1 (v125).length), (.vec id132 5 (v130).length), (eI (⟨c8, c84, v120, v125, v130, (0 : Int)⟩ : ram_Ram).count)]), (id132, (cL e_aEn v130)), (id127, (cL eI v125)), (id122, (cL eI c139)), (id85, [(.vec id85_nodes 4 (c84.nodes).length), (.vec id85_first_ 1 (c84.first_).length), (.vec id85_last_ 1 (c84.last_).length), (.vec id85_count 1 (c84.count).length), (eI c84.free), (eI c84.clock)]), (id85_nodes, (cL e_lists_link c84.nodes)), (id85_first_, (cL eI c84.first_)), (id85_last_, (cL eI c84.last_)), (id85_count, (cL eI c84.count)), (id9, (c_slab_Budget c8))] [] τ := hH
       refine sr rfl ?_
       refine l_ H148 eB rfl (o_ar tk rfl rfl rfl) fun v150 H149 => ?_
       refine wpo_nil (awp_seq ?_)
       refine awp_if H149 rfl (fun H151 => ?_) (fun H151 => ?_)
       ·refine awp_skip (awp_seq (awp_block (sr rfl (mm tk (eI c138) rfl rfl (ma tk (eI c138) rfl rfl (wpo_nil (awp_region rfl (mm tk (.ref id134 0) rfl rfl ?_))))))))
        refine mc tk (.ref id134 0) rfl rfl (fun _ => rfl) (mc tk (.ref id134 2) rfl rfl (fun _ => rfl) (wpo_rd (a := (.vec id122 1 (c139).length)) rfl rfl rfl (h_ld tk hH 0 rfl rfl rfl) (mm tk (eI c138) rfl rfl ?_)))
        refine b_ H151 (fun _ => .ref id122 (0 + (c138 : Int).toNat * 1 + 0)) rfl (fun v153 hv => o_vecx tk hv td67 sz3 (by decide) rfl rfl) fun v153 hv153 H152 => ?_
        obtain ⟨c155, hc156, H154⟩ := ob H152
        refine wpo_z rfl rfl (h_stx tk hH 3 hc156 rfl (enc_i64 td3 sz3) ty3 (by simp) rfl rfl wr (b := (eI (-1 : Int))) rfl rfl (by decide) (fun _ => rfl)) fun τ hH => ?_
        refine wpo_nil (awp_region rfl ?_)
        refine l_ H154 eI rfl (o_ar tk rfl rfl rfl) fun v158 H157 => ?_
        refine mm tk (eI v158) rfl rfl (wpo_nil ?_)
        exact ⟨(v158, c155), inj_inl H157, (wc (wc (wc (wkf_nil _)))), (Holds.cells hH 0 [(.ref id9 0), (.ref id85 0), (.vec id122 1 (c155).length), (.vec id127 1 (v125).length), (.vec id132 5 (v130).length), (eI (⟨c8, c84, v120, v125, v130, (0 : Int)⟩ : ram_Ram).count)] rfl (by first | rfl | simp only [updA_len hc156]))⟩
       ·refine awp_exit ?_
        have hz := hy146 _ (inj_inr H151)
        subst hz
        exact ⟨⟨_, inj_inr H151⟩, (wc (wkf_nil _)), hH⟩
end Go.Proofs.YtggeboakilalhaaGreatDoor
namespace Go.Proofs.YtggeboakilalhaaGreatDoor
open Go Go.Va
set_option linter.unusedVariables false
set_option linter.unusedSimpArgs false
set_option maxRecDepth 20000
set_option maxHeartbeats 2000000
theorem L11_works_ok  {r : Bool} (H : L11_works = some r) (σ : St)  (hg : σ.gl = gls) : ACall Tryz.prog 6 [] σ (fun a τ => a = eB r ∧ τ = σ) := by
 unfold L11_works at H
 refine ACall.pure (acall_start tk Tryz.func6 (by decide) rfl (nb rfl) ?_)
 have hH := Holds.init σ
 refine sr rfl (ma tk (eB false) rfl rfl (wpo_nil (sr rfl ?_)))
 obtain ⟨v2, hvv2, H1⟩ := ob H
 rcases hz6 : v2.1 with _ | c3
 ·rw [hz6, Option.elim_none] at H1
  refine wpo_a (av := fun _ => .tup [.nilp, (eErr v2.2)]) rfl rfl rfl (h_callnb0 hH hz6 rfl rfl (.cons wr .nil) (ram_New_ok hvv2 _)) fun _ τ hH => ?_
  refine mm tk (.tup [.nilp, (eErr v2.2)]) rfl rfl (m_ .nilp rfl (o_ext tk rfl rfl) (m_ (eErr v2.2) rfl (o_ext tk rfl rfl) (ma tk .nilp rfl rfl (ma tk (eErr v2.2) rfl rfl (wpo_nil (sr rfl ?_))))))
  obtain ⟨v8, hvv8, H7⟩ := ob H1
  refine wpo_a (av := fun _ => .tup [.junk, (eErr v8.2)]) rfl rfl rfl (h_callnbj hH rfl rfl (.cons wr .nil) (ram_New_ok hvv8 _)) fun _ τ hH => ?_
  refine mm tk (.tup [.junk, (eErr v8.2)]) rfl rfl (m_ .junk rfl (o_ext tk rfl rfl) (m_ (eErr v8.2) rfl (o_ext tk rfl rfl) (ma tk .junk rfl rfl (ma tk (eErr v8.2) rfl rfl (wpo_nil (awp_seq (sr rfl (mm tk .nilp rfl rfl ?_))))))))
  refine mc tk (eB true) rfl rfl (fun _ => rfl) (mm tk (eB true) rfl rfl (k_ rfl (k_ rfl (pt tk (eB true) rfl rfl rfl (wpo_nil ?_)))))
  refine awp_true rfl ?_
  refine sr rfl (ma tk (eB false) rfl rfl (wpo_nil (awp_ret ?_)))
  obtain rfl := oi H7
  exact ⟨_, (eB false), rfl, wr, .of_eq ((enc_b td4 sz4).cut _ _ _), hH.noT⟩
 ·rw [hz6, Option.elim_some] at H1
  refine wpo_a (av := fun id => .tup [.ref id 0, (eErr v2.2)]) rfl rfl rfl (h_callnb1 hH hz6 rfl rfl (.cons wr .nil) (ram_New_ok hvv2 _)) fun id4 τ ⟨hH, n5⟩ => ?_
  obtain ⟨id4B, h_id4B⟩ : ∃ x, x = id4 + 1 := ⟨_, rfl⟩
  obtain ⟨id4I, h_id4I⟩ : ∃ x, x = id4 + 2 := ⟨_, rfl⟩
  obtain ⟨id4N, h_id4N⟩ : ∃ x, x = id4 + 3 := ⟨_, rfl⟩
  obtain ⟨id4F, h_id4F⟩ : ∃ x, x = id4 + 4 := ⟨_, rfl⟩
  obtain ⟨id4L, h_id4L⟩ : ∃ x, x = id4 + 5 := ⟨_, rfl⟩
  obtain ⟨id4C, h_id4C⟩ : ∃ x, x = id4 + 6 := ⟨_, rfl⟩
  obtain ⟨id4H, h_id4H⟩ : ∃ x, x = id4 + 7 := ⟨_, rfl⟩
  obtain ⟨id4X, h_id4X⟩ : ∃ x, x = id4 + 8 := ⟨_, rfl⟩
  obtain ⟨id4G, h_id4G⟩ : ∃ x, x = id4 + 9 := ⟨_, rfl⟩
  have hH : Holds σ [(id4, [(.ref id4B 0), (.ref id4I 0), (.vec id4H 1 (c3.heads).length), (.vec id4X 1 (c3.next_).length), (.vec id4G 5 (c3.things).length), (eI c3.count)]), (id4B, (c_slab_Budget c3.budget)), (id4I, [(.vec id4N 4 (c3.lists.nodes).length), (.vec id4F 1 (c3.lists.first_).length), (.vec id4L 1 (c3.lists.last_).length), (.vec id4C 1 (c3.lists.count).length), (eI c3.lists.free), (eI c3.lists.clock)]), (id4N, (cL e_lists_link c3.lists.nodes)), (id4F, (cL eI c3.lists.first_)), (id4L, (cL eI c3.lists.last_)), (id4C, (cL eI c3.lists.count)), (id4H, (cL eI c3.heads)), (id4X, (cL eI c3.next_)), (id4G, (cL e_aEn c3.things))] [] τ := by rw [h_id4B, h_id4I, h_id4N, h_id4F, h_id4L, h_id4C, h_id4H, h_id4X, h_id4G]; exact hH
  have n5_1 : σ.objs.length ≤ id4B := by omega
  have n5_2 : σ.objs.length ≤ id4I := by omega
  have n5_3 : σ.objs.length ≤ id4N := by omega
  have n5_4 : σ.objs.length ≤ id4F := by omega
  have n5_5 : σ.objs.length ≤ id4L := by omega
  have n5_6 : σ.objs.length ≤ id4C := by omega
  have n5_7 : σ.objs.length ≤ id4H := by omega
  have n5_8 : σ.objs.length ≤ id4X := by omega
  have n5_9 : σ.objs.length ≤ id4G := by omega
  refine mm tk (.tup [(.ref id4 0), (eErr v2.2)]) rfl rfl (m_ (.ref id4 0) rfl (o_ext tk rfl rfl) (m_ (eErr v2.2) rfl (o_ext tk rfl rfl) (ma tk (.ref id4 0) rfl rfl (ma tk (eErr v2.2) rfl rfl (wpo_nil (sr rfl ?_))))))
  obtain ⟨v10, hvv10, H9⟩ := ob H1
  refine wpo_a (av := fun _ => .tup [.junk, (eErr v10.2)]) rfl rfl rfl (h_callnbj hH rfl rfl (.cons wr .nil) (ram_New_ok hvv10 _)) fun _ τ hH => ?_
  refine mm tk (.tup [.junk, (eErr v10.2)]) rfl rfl (m_ .junk rfl (o_ext tk rfl rfl) (m_ (eErr v10.2) rfl (o_ext tk rfl rfl) (ma tk .junk rfl rfl (ma tk (eErr v10.2) rfl rfl (wpo_nil (awp_seq (sr rfl (mm tk (.ref id4 0) rfl rfl ?_))))))))
  refine mc tk (eB false) rfl rfl (fun _ => rfl) (mm tk (eB false) rfl rfl (mm tk (eErr v2.2) rfl rfl ?_))
  refine l_ H9 eB rfl (o_err_neq tk rfl rfl rfl) fun v12 H11 => ?_
  refine pf tk (eB v12) rfl rfl rfl (wpo_nil ?_)
  refine awp_if H11 rfl (fun H13 => ?_) (fun H13 => ?_)
  ·refine sr rfl (ma tk (eB false) rfl rfl (wpo_nil (awp_ret ?_)))
   obtain rfl := oi H13
   exact ⟨_, (eB false), rfl, wr, .of_eq ((enc_b td4 sz4).cut _ _ _), ((((((((((hH.noT.drop n5).drop n5_1).drop n5_2).drop n5_3).drop n5_4).drop n5_5).drop n5_6).drop n5_7).drop n5_8).drop n5_9)⟩
  ·refine awp_skip (sr rfl (mm tk (.ref id4 0) rfl rfl (mc tk (.agg [(eS (⟨[97#8], 1, 1, 0, []⟩ : aEn).Key), (eI (⟨[97#8], 1, 1, 0, []⟩ : aEn).Version), (eI (⟨[97#8], 1, 1, 0, []⟩ : aEn).AsOf), (eI (⟨[97#8], 1, 1, 0, []⟩ : aEn).Ends), AV.nils]) rfl rfl (fun _ => rfl) ?_)))
   refine wpo_cb H13 (fun x _ => .tup [(eL 5 e_aEn) x.1, eErr x.2.1]) rfl rfl rfl (fun v15 hv => h_call1 hH [(0, (id4, [(.ref id4B 0), (.ref id4I 0), (.vec id4H 1 (v15.2.2.heads).length), (.vec id4X 1 (v15.2.2.next_).length), (.vec id4G 5 (v15.2.2.things).length), (eI v15.2.2.count)])), (1, (id4B, (c_slab_Budget v15.2.2.budget))), (2, (id4I, [(.vec id4N 4 (v15.2.2.lists.nodes).length), (.vec id4F 1 (v15.2.2.lists.first_).length), (.vec id4L 1 (v15.2.2.lists.last_).length), (.vec id4C 1 (v15.2.2.lists.count).length), (eI v15.2.2.lists.free), (eI v15.2.2.lists.clock)])), (3, (id4N, (cL e_lists_link v15.2.2.lists.nodes))), (4, (id4F, (cL eI v15.2.2.lists.first_))), (5, (id4L, (cL eI v15.2.2.lists.last_))), (6, (id4C, (cL eI v15.2.2.lists.count))), (7, (id4H, (cL eI v15.2.2.heads))), (8, (id4X, (cL eI v15.2.2.next_))), (9, (id4G, (cL e_aEn v15.2.2.things)))] ⟨⟨_, rfl⟩, ⟨⟨_, rfl⟩, ⟨⟨_, rfl⟩, ⟨⟨_, rfl⟩, ⟨⟨_, rfl⟩, ⟨⟨_, rfl⟩, ⟨⟨_, rfl⟩, ⟨⟨_, rfl⟩, ⟨⟨_, rfl⟩, ⟨⟨_, rfl⟩, trivial⟩⟩⟩⟩⟩⟩⟩⟩⟩⟩ rfl rfl (.cons wr (.cons (wk_agg (.cons wr (.cons wr (.cons wr (.cons wr (.cons (wk_nils _) .nil)))))) (.cons wr .nil))) (ram_Ram_Set_ok hv _ (hH.at_ 0 rfl) (hH.at_ 1 rfl) (hH.at_ 2 rfl) (hH.at_ 3 rfl) (hH.at_ 4 rfl) (hH.at_ 5 rfl) (hH.at_ 6 rfl) (hH.at_ 7 rfl) (hH.at_ 8 rfl) (hH.at_ 9 rfl) (hH.pw [0, 1, 2, 3, 4, 5, 6, 7, 8, 9] rfl (by decide)))) fun v15 _ τ hv15 H14 (hH : Holds σ [(id4, [(.ref id4B 0), (.ref id4I 0), (.vec id4H 1 (v15.2.2.heads).length), (.vec id4X 1 (v15.2.2.next_).length), (.vec id4G 5 (v15.2.2.things).length), (eI v15.2.2.count)]), (id4B, (c_slab_Budget v15.2.2.budget)), (id4I, [(.vec id4N 4 (v15.2.2.lists.nodes).length), (.vec id4F 1 (v15.2.2.lists.first_).length), (.vec id4L 1 (v15.2.2.lists.last_).length), (.vec id4C 1 (v15.2.2.lists.count).length), (eI v15.2.2.lists.free), (eI v15.2.2.lists.clock)]), (id4N, (cL e_lists_link v15.2.2.lists.nodes)), (id4F, (cL eI v15.2.2.lists.first_)), (id4L, (cL eI v15.2.2.lists.last_)), (id4C, (cL eI v15.2.2.lists.count)), (id4H, (cL eI v15.2.2.heads)), (id4X, (cL eI v15.2.2.next_)), (id4G, (cL e_aEn v15.2.2.things))] [] τ) => ?_
   refine mm tk (.tup [((eL 5 e_aEn) v15.1), (eErr v15.2.1)]) rfl rfl (m_ ((eL 5 e_aEn) v15.1) rfl (o_ext tk rfl rfl) (m_ (eErr v15.2.1) rfl (o_ext tk rfl rfl) (ma tk ((eL 5 e_aEn) v15.1) rfl rfl (ma tk (eErr v15.2.1) rfl rfl (wpo_nil (sr rfl (mm tk (.ref id4 0) rfl rfl ?_)))))))
   obtain ⟨v17, hv18, H16⟩ := ob H14
   refine wpo_a (av := fun t => eT t 1 (@eU .u8 8) v17) rfl rfl rfl (h_make tk hH hv18 td23 ty5 rfl rfl rfl rfl) fun tk19 τ hH => ?_
   refine l_ H16 e_aEn rfl (OpP.wk (wkf_up (t := 37) (a := ((eL 1 (@eU .u8 8)) v17)) wk_no) (o_c tk false rfl (fun _ => rfl))) fun v21 H20 => ?_
   refine wpo_cb H20 (fun x _ => .tup [(eL 5 e_aEn) x.1, eErr x.2.1]) rfl rfl rfl (fun v23 hv => h_call1 hH [(0, (id4, [(.ref id4B 0), (.ref id4I 0), (.vec id4H 1 (v23.2.2.heads).length), (.vec id4X 1 (v23.2.2.next_).length), (.vec id4G 5 (v23.2.2.things).length), (eI v23.2.2.count)])), (1, (id4B, (c_slab_Budget v23.2.2.budget))), (2, (id4I, [(.vec id4N 4 (v23.2.2.lists.nodes).length), (.vec id4F 1 (v23.2.2.lists.first_).length), (.vec id4L 1 (v23.2.2.lists.last_).length), (.vec id4C 1 (v23.2.2.lists.count).length), (eI v23.2.2.lists.free), (eI v23.2.2.lists.clock)])), (3, (id4N, (cL e_lists_link v23.2.2.lists.nodes))), (4, (id4F, (cL eI v23.2.2.lists.first_))), (5, (id4L, (cL eI v23.2.2.lists.last_))), (6, (id4C, (cL eI v23.2.2.lists.count))), (7, (id4H, (cL eI v23.2.2.heads))), (8, (id4X, (cL eI v23.2.2.next_))), (9, (id4G, (cL e_aEn v23.2.2.things)))] ⟨⟨_, rfl⟩, ⟨⟨_, rfl⟩, ⟨⟨_, rfl⟩, ⟨⟨_, rfl⟩, ⟨⟨_, rfl⟩, ⟨⟨_, rfl⟩, ⟨⟨_, rfl⟩, ⟨⟨_, rfl⟩, ⟨⟨_, rfl⟩, ⟨⟨_, rfl⟩, trivial⟩⟩⟩⟩⟩⟩⟩⟩⟩⟩ rfl rfl (.cons wr (.cons wr (.cons wr .nil))) (ram_Ram_Set_ok hv _ (hH.at_ 0 rfl) (hH.at_ 1 rfl) (hH.at_ 2 rfl) (hH.at_ 3 rfl) (hH.at_ 4 rfl) (hH.at_ 5 rfl) (hH.at_ 6 rfl) (hH.at_ 7 rfl) (hH.at_ 8 rfl) (hH.at_ 9 rfl) (hH.pw [0, 1, 2, 3, 4, 5, 6, 7, 8, 9] rfl (by decide)))) fun v23 _ τ hv23 H22 (hH : Holds σ [(id4, [(.ref id4B 0), (.ref id4I 0), (.vec id4H 1 (v23.2.2.heads).length), (.vec id4X 1 (v23.2.2.next_).length), (.vec id4G 5 (v23.2.2.things).length), (eI v23.2.2.count)]), (id4B, (c_slab_Budget v23.2.2.budget)), (id4I, [(.vec id4N 4 (v23.2.2.lists.nodes).length), (.vec id4F 1 (v23.2.2.lists.first_).length), (.vec id4L 1 (v23.2.2.lists.last_).length), (.vec id4C 1 (v23.2.2.lists.count).length), (eI v23.2.2.lists.free), (eI v23.2.2.lists.clock)]), (id4N, (cL e_lists_link v23.2.2.lists.nodes)), (id4F, (cL eI v23.2.2.lists.first_)), (id4L, (cL eI v23.2.2.lists.last_)), (id4C, (cL eI v23.2.2.lists.count)), (id4H, (cL eI v23.2.2.heads)), (id4X, (cL eI v23.2.2.next_)), (id4G, (cL e_aEn v23.2.2.things))] [tk19] τ) => ?_
   refine mm tk (.tup [((eL 5 e_aEn) v23.1), (eErr v23.2.1)]) rfl rfl (m_ ((eL 5 e_aEn) v23.1) rfl (o_ext tk rfl rfl) (m_ (eErr v23.2.1) rfl (o_ext tk rfl rfl) (ma tk ((eL 5 e_aEn) v23.1) rfl rfl (ma tk (eErr v23.2.1) rfl rfl (wpo_nil (sr rfl (mm tk (.ref id4 0) rfl rfl ?_)))))))
   refine wpo_cb H22 (fun x _ => .tup [e_aEn x.1, eB x.2.1]) rfl rfl rfl (fun v25 hv => h_call1 hH [(0, (id4, [(.ref id4B 0), (.ref id4I 0), (.vec id4H 1 (v25.2.2.heads).length), (.vec id4X 1 (v25.2.2.next_).length), (.vec id4G 5 (v25.2.2.things).length), (eI v25.2.2.count)])), (1, (id4B, (c_slab_Budget v25.2.2.budget))), (2, (id4I, [(.vec id4N 4 (v25.2.2.lists.nodes).length), (.vec id4F 1 (v25.2.2.lists.first_).length), (.vec id4L 1 (v25.2.2.lists.last_).length), (.vec id4C 1 (v25.2.2.lists.count).length), (eI v25.2.2.lists.free), (eI v25.2.2.lists.clock)])), (3, (id4N, (cL e_lists_link v25.2.2.lists.nodes))), (4, (id4F, (cL eI v25.2.2.lists.first_))), (5, (id4L, (cL eI v25.2.2.lists.last_))), (6, (id4C, (cL eI v25.2.2.lists.count))), (7, (id4H, (cL eI v25.2.2.heads))), (8, (id4X, (cL eI v25.2.2.next_))), (9, (id4G, (cL e_aEn v25.2.2.things)))] ⟨⟨_, rfl⟩, ⟨⟨_, rfl⟩, ⟨⟨_, rfl⟩, ⟨⟨_, rfl⟩, ⟨⟨_, rfl⟩, ⟨⟨_, rfl⟩, ⟨⟨_, rfl⟩, ⟨⟨_, rfl⟩, ⟨⟨_, rfl⟩, ⟨⟨_, rfl⟩, trivial⟩⟩⟩⟩⟩⟩⟩⟩⟩⟩ rfl rfl (.cons wr (.cons wr (.cons wr .nil))) (ram_Ram_Get_ok hv _ (hH.at_ 0 rfl) (hH.at_ 1 rfl) (hH.at_ 2 rfl) (hH.at_ 3 rfl) (hH.at_ 4 rfl) (hH.at_ 5 rfl) (hH.at_ 6 rfl) (hH.at_ 7 rfl) (hH.at_ 8 rfl) (hH.at_ 9 rfl) (hH.pw [0, 1, 2, 3, 4, 5, 6, 7, 8, 9] rfl (by decide)))) fun v25 _ τ hv25 H24 (hH : Holds σ [(id4, [(.ref id4B 0), (.ref id4I 0), (.vec id4H 1 (v25.2.2.heads).length), (.vec id4X 1 (v25.2.2.next_).length), (.vec id4G 5 (v25.2.2.things).length), (eI v25.2.2.count)]), (id4B, (c_slab_Budget v25.2.2.budget)), (id4I, [(.vec id4N 4 (v25.2.2.lists.nodes).length), (.vec id4F 1 (v25.2.2.lists.first_).length), (.vec id4L 1 (v25.2.2.lists.last_).length), (.vec id4C 1 (v25.2.2.lists.count).length), (eI v25.2.2.lists.free), (eI v25.2.2.lists.clock)]), (id4N, (cL e_lists_link v25.2.2.lists.nodes)), (id4F, (cL eI v25.2.2.lists.first_)), (id4L, (cL eI v25.2.2.lists.last_)), (id4C, (cL eI v25.2.2.lists.count)), (id4H, (cL eI v25.2.2.heads)), (id4X, (cL eI v25.2.2.next_)), (id4G, (cL e_aEn v25.2.2.things))] [tk19] τ) => ?_
   refine mm tk (.tup [(e_aEn v25.1), (eB v25.2.1)]) rfl rfl (m_ (e_aEn v25.1) rfl (o_ext tk rfl rfl) (m_ (eB v25.2.1) rfl (o_ext tk rfl rfl) ?_))
   refine wpo_a (av := fun id => .ref id 0) rfl rfl rfl (h_alloc tk hH ty25 [(eS z_aEn.Key), (eI z_aEn.Version), (eI z_aEn.AsOf), (eI z_aEn.Ends), AV.nils] rfl) fun id26 τ ⟨hH, n27⟩ => ?_
   refine wpo_z rfl rfl (h_st tk hH 0 rfl ty25 (by simp) rfl rfl wr (b := (e_aEn v25.1)) (enc25.flat _) rfl (nb rfl) (c_aEn (v25.1 : aEn)) rfl) fun τ hH => ?_
   refine ma tk (eB v25.2.1) rfl rfl (wpo_nil (sr rfl (mm tk (.ref id4 0) rfl rfl (mc tk (.agg [(eS (⟨[99#8], 1, 1, 0, []⟩ : aEn).Key), (eI (⟨[99#8], 1, 1, 0, []⟩ : aEn).Version), (eI (⟨[99#8], 1, 1, 0, []⟩ : aEn).AsOf), (eI (⟨[99#8], 1, 1, 0, []⟩ : aEn).Ends), AV.nils]) rfl rfl (fun _ => rfl) ?_))))
   refine wpo_cb H24 (fun x _ => .tup [(eL 5 e_aEn) x.1, eErr x.2.1]) rfl rfl rfl (fun v30 hv => h_call1 hH [(1, (id4, [(.ref id4B 0), (.ref id4I 0), (.vec id4H 1 (v30.2.2.heads).length), (.vec id4X 1 (v30.2.2.next_).length), (.vec id4G 5 (v30.2.2.things).length), (eI v30.2.2.count)])), (2, (id4B, (c_slab_Budget v30.2.2.budget))), (3, (id4I, [(.vec id4N 4 (v30.2.2.lists.nodes).length), (.vec id4F 1 (v30.2.2.lists.first_).length), (.vec id4L 1 (v30.2.2.lists.last_).length), (.vec id4C 1 (v30.2.2.lists.count).length), (eI v30.2.2.lists.free), (eI v30.2.2.lists.clock)])), (4, (id4N, (cL e_lists_link v30.2.2.lists.nodes))), (5, (id4F, (cL eI v30.2.2.lists.first_))), (6, (id4L, (cL eI v30.2.2.lists.last_))), (7, (id4C, (cL eI v30.2.2.lists.count))), (8, (id4H, (cL eI v30.2.2.heads))), (9, (id4X, (cL eI v30.2.2.next_))), (10, (id4G, (cL e_aEn v30.2.2.things)))] ⟨⟨_, rfl⟩, ⟨⟨_, rfl⟩, ⟨⟨_, rfl⟩, ⟨⟨_, rfl⟩, ⟨⟨_, rfl⟩, ⟨⟨_, rfl⟩, ⟨⟨_, rfl⟩, ⟨⟨_, rfl⟩, ⟨⟨_, rfl⟩, ⟨⟨_, rfl⟩, trivial⟩⟩⟩⟩⟩⟩⟩⟩⟩⟩ rfl rfl (.cons wr (.cons (wk_agg (.cons wr (.cons wr (.cons wr (.cons wr (.cons (wk_nils _) .nil)))))) (.cons wr .nil))) (ram_Ram_Set_ok hv _ (hH.at_ 1 rfl) (hH.at_ 2 rfl) (hH.at_ 3 rfl) (hH.at_ 4 rfl) (hH.at_ 5 rfl) (hH.at_ 6 rfl) (hH.at_ 7 rfl) (hH.at_ 8 rfl) (hH.at_ 9 rfl) (hH.at_ 10 rfl) (hH.pw [1, 2, 3, 4, 5, 6, 7, 8, 9, 10] rfl (by decide)))) fun v30 _ τ hv30 H29 (hH : Holds σ [(id26, (c_aEn (v25.1 : aEn))), (id4, [(.ref id4B 0), (.ref id4I 0), (.vec id4H 1 (v30.2.2.heads).length), (.vec id4X 1 (v30.2.2.next_).length), (.vec id4G 5 (v30.2.2.things).length), (eI v30.2.2.count)]), (id4B, (c_slab_Budget v30.2.2.budget)), (id4I, [(.vec id4N 4 (v30.2.2.lists.nodes).length), (.vec id4F 1 (v30.2.2.lists.first_).length), (.vec id4L 1 (v30.2.2.lists.last_).length), (.vec id4C 1 (v30.2.2.lists.count).length), (eI v30.2.2.lists.free), (eI v30.2.2.lists.clock)]), (id4N, (cL e_lists_link v30.2.2.lists.nodes)), (id4F, (cL eI v30.2.2.lists.first_)), (id4L, (cL eI v30.2.2.lists.last_)), (id4C, (cL eI v30.2.2.lists.count)), (id4H, (cL eI v30.2.2.heads)), (id4X, (cL eI v30.2.2.next_)), (id4G, (cL e_aEn v30.2.2.things))] [tk19] τ) => ?_
   refine mm tk (.tup [((eL 5 e_aEn) v30.1), (eErr v30.2.1)]) rfl rfl (m_ ((eL 5 e_aEn) v30.1) rfl (o_ext tk rfl rfl) (m_ (eErr v30.2.1) rfl (o_ext tk rfl rfl) (ma tk ((eL 5 e_aEn) v30.1) rfl rfl (ma tk (eErr v30.2.1) rfl rfl (wpo_nil (sr rfl (mm tk (.ref id4 0) rfl rfl ?_)))))))
   obtain ⟨v32, hv33, H31⟩ := ob H29
   refine wpo_a (av := fun t => eT t 1 (@eU .u8 8) v32) rfl rfl rfl (h_make tk hH hv33 td23 ty5 rfl rfl rfl rfl) fun tk34 τ hH => ?_
   refine l_ H31 e_aEn rfl (OpP.wk (wkf_up (t := 55) (a := ((eL 1 (@eU .u8 8)) v32)) wk_no) (o_c tk false rfl (fun _ => rfl))) fun v36 H35 => ?_
   refine wpo_cb H35 (fun x _ => .tup [(eL 5 e_aEn) x.1, eErr x.2.1]) rfl rfl rfl (fun v38 hv => h_call1 hH [(1, (id4, [(.ref id4B 0), (.ref id4I 0), (.vec id4H 1 (v38.2.2.heads).length), (.vec id4X 1 (v38.2.2.next_).length), (.vec id4G 5 (v38.2.2.things).length), (eI v38.2.2.count)])), (2, (id4B, (c_slab_Budget v38.2.2.budget))), (3, (id4I, [(.vec id4N 4 (v38.2.2.lists.nodes).length), (.vec id4F 1 (v38.2.2.lists.first_).length), (.vec id4L 1 (v38.2.2.lists.last_).length), (.vec id4C 1 (v38.2.2.lists.count).length), (eI v38.2.2.lists.free), (eI v38.2.2.lists.clock)])), (4, (id4N, (cL e_lists_link v38.2.2.lists.nodes))), (5, (id4F, (cL eI v38.2.2.lists.first_))), (6, (id4L, (cL eI v38.2.2.lists.last_))), (7, (id4C, (cL eI v38.2.2.lists.count))), (8, (id4H, (cL eI v38.2.2.heads))), (9, (id4X, (cL eI v38.2.2.next_))), (10, (id4G, (cL e_aEn v38.2.2.things)))] ⟨⟨_, rfl⟩, ⟨⟨_, rfl⟩, ⟨⟨_, rfl⟩, ⟨⟨_, rfl⟩, ⟨⟨_, rfl⟩, ⟨⟨_, rfl⟩, ⟨⟨_, rfl⟩, ⟨⟨_, rfl⟩, ⟨⟨_, rfl⟩, ⟨⟨_, rfl⟩, trivial⟩⟩⟩⟩⟩⟩⟩⟩⟩⟩ rfl rfl (.cons wr (.cons wr (.cons wr .nil))) (ram_Ram_Set_ok hv _ (hH.at_ 1 rfl) (hH.at_ 2 rfl) (hH.at_ 3 rfl) (hH.at_ 4 rfl) (hH.at_ 5 rfl) (hH.at_ 6 rfl) (hH.at_ 7 rfl) (hH.at_ 8 rfl) (hH.at_ 9 rfl) (hH.at_ 10 rfl) (hH.pw [1, 2, 3, 4, 5, 6, 7, 8, 9, 10] rfl (by decide)))) fun v38 _ τ hv38 H37 (hH : Holds σ [(id26, (c_aEn (v25.1 : aEn))), (id4, [(.ref id4B 0), (.ref id4I 0), (.vec id4H 1 (v38.2.2.heads).length), (.vec id4X 1 (v38.2.2.next_).length), (.vec id4G 5 (v38.2.2.things).length), (eI v38.2.2.count)]), (id4B, (c_slab_Budget v38.2.2.budget)), (id4I, [(.vec id4N 4 (v38.2.2.lists.nodes).length), (.vec id4F 1 (v38.2.2.lists.first_).length), (.vec id4L 1 (v38.2.2.lists.last_).length), (.vec id4C 1 (v38.2.2.lists.count).length), (eI v38.2.2.lists.free), (eI v38.2.2.lists.clock)]), (id4N, (cL e_lists_link v38.2.2.lists.nodes)), (id4F, (cL eI v38.2.2.lists.first_)), (id4L, (cL eI v38.2.2.lists.last_)), (id4C, (cL eI v38.2.2.lists.count)), (id4H, (cL eI v38.2.2.heads)), (id4X, (cL eI v38.2.2.next_)), (id4G, (cL e_aEn v38.2.2.things))] [tk34, tk19] τ) => ?_
   refine mm tk (.tup [((eL 5 e_aEn) v38.1), (eErr v38.2.1)]) rfl rfl (m_ ((eL 5 e_aEn) v38.1) rfl (o_ext tk rfl rfl) (m_ (eErr v38.2.1) rfl (o_ext tk rfl rfl) (ma tk ((eL 5 e_aEn) v38.1) rfl rfl (ma tk (eErr v38.2.1) rfl rfl (wpo_nil (sr rfl (mm tk (eErr v10.2) rfl rfl ?_)))))))
   refine wpo_bdr H37 eI rfl rfl rfl (fun v40 hv => h_callr rfl rfl (.cons wr .nil) (trouble_Of_ok hv _ (hH.gl.trans hg))) fun v40 hv40 H39 => ?_
   refine l_ H39 eB rfl (o_ar tk rfl rfl rfl) fun v42 H41 => ?_
   refine mm tk (eB v42) rfl rfl ?_
   refine if_split H41 (fun hb H43 => ?_) (fun hb H43 => ?_)
   ·subst hb
    refine mm tk (eErr v15.2.1) rfl rfl ?_
    refine l_ H43 eB rfl (o_err_eql tk rfl rfl rfl) fun v45 H44 => ?_
    refine pt tk (eB v45) rfl rfl rfl (mm tk (eB v45) rfl rfl ?_)
    refine if_split H44 (fun hb H46 => ?_) (fun hb H46 => ?_)
    ·subst hb
     refine mm tk (eErr v23.2.1) rfl rfl ?_
     refine l_ H46 eB rfl (o_err_eql tk rfl rfl rfl) fun v48 H47 => ?_
     refine pt tk (eB v48) rfl rfl rfl (mm tk (eB v48) rfl rfl ?_)
     refine if_split H47 (fun hb H49 => ?_) (fun hb H49 => ?_)
     ·subst hb
      refine mm tk (eErr v30.2.1) rfl rfl ?_
      refine l_ H49 eB rfl (o_err_eql tk rfl rfl rfl) fun v51 H50 => ?_
      refine pt tk (eB v51) rfl rfl rfl (mm tk (eB v51) rfl rfl ?_)
      refine if_split H50 (fun hb H52 => ?_) (fun hb H52 => ?_)
      ·subst hb
       refine mm tk (eB v25.2.1) rfl rfl (pt tk (eB v25.2.1) rfl rfl rfl (mm tk (eB v25.2.1) rfl rfl ?_))
       refine if_split H52 (fun hb H53 => ?_) (fun hb H53 => ?_)
       ·rw [hb]
        refine mm tk ((eL 5 e_aEn) v15.1) rfl rfl ?_
        refine l_ H53 eI rfl (o_len tk td35 rfl) fun v55 H54 => ?_
        refine l_ H54 eB rfl (o_ar tk rfl rfl rfl) fun v57 H56 => ?_
        refine pt tk (eB v57) rfl rfl rfl (mm tk (eB v57) rfl rfl ?_)
        refine if_split H56 (fun hb H58 => ?_) (fun hb H58 => ?_)
        ·subst hb
         refine mm tk ((eL 5 e_aEn) v23.1) rfl rfl ?_
         refine l_ H58 eI rfl (o_len tk td35 rfl) fun v60 H59 => ?_
         refine l_ H59 eB rfl (o_ar tk rfl rfl rfl) fun v62 H61 => ?_
         refine pt tk (eB v62) rfl rfl rfl (mm tk (eB v62) rfl rfl ?_)
         refine if_split H61 (fun hb H63 => ?_) (fun hb H63 => ?_)
         ·subst hb
          refine mm tk ((eL 5 e_aEn) v30.1) rfl rfl ?_
          refine l_ H63 eI rfl (o_len tk td35 rfl) fun v65 H64 => ?_
          refine l_ H64 eB rfl (o_ar tk rfl rfl rfl) fun v67 H66 => ?_
          refine pt tk (eB v67) rfl rfl rfl (mm tk (eB v67) rfl rfl ?_)
          refine if_split H66 (fun hb H68 => ?_) (fun hb H68 => ?_)
          ·subst hb
           refine mm tk ((eL 5 e_aEn) v30.1) rfl rfl ?_
           refine b_ H68 (fun y => .fptr (e_aEn y).cells 0) rfl (fun v70 hv => o_ixa tk hv td35 enc25 rfl rfl) fun v70 hv70 H69 => ?_
           refine mc tk (.fptr (c_aEn v70) 0) rfl rfl (fun _ => rfl) (m_ (eS v70.Key) rfl (o_ld tk rfl rfl) ?_)
           refine l_ H69 eB rfl (o_eql_s tk rfl rfl) fun v72 H71 => ?_
           refine pt tk (eB v72) rfl rfl rfl (mm tk (eB v72) rfl rfl ?_)
           refine if_split H71 (fun hb H73 => ?_) (fun hb H73 => ?_)
           ·subst hb
            refine mm tk (eErr v38.2.1) rfl rfl ?_
            refine wpo_bdr H73 eI rfl rfl rfl (fun v75 hv => h_callr rfl rfl (.cons wr .nil) (trouble_Of_ok hv _ (hH.gl.trans hg))) fun v75 hv75 H74 => ?_
            refine l_ H74 eB rfl (o_ar tk rfl rfl rfl) fun v77 H76 => ?_
            refine pt tk (eB v77) rfl rfl rfl (mm tk (eB v77) rfl rfl ?_)
            refine if_split H76 (fun hb H78 => ?_) (fun hb H78 => ?_)
            ·subst hb
             refine mm tk (.ref id4 0) rfl rfl ?_
             refine wpo_bdr H78 eI rfl rfl rfl (fun v80 hv => h_callr rfl rfl (.cons wr .nil) (ram_Ram_Used_ok hv _ (hH.at_ 1 rfl) (hH.at_ 2 rfl) (hH.at_ 3 rfl) (hH.at_ 4 rfl) (hH.at_ 5 rfl) (hH.at_ 6 rfl) (hH.at_ 7 rfl) (hH.at_ 8 rfl) (hH.at_ 9 rfl) (hH.at_ 10 rfl) (hH.pw [1, 2, 3, 4, 5, 6, 7, 8, 9, 10] rfl (by decide)))) fun v80 hv80 H79 => ?_
             refine l_ H79 eB rfl (o_ar tk rfl rfl rfl) fun v82 H81 => ?_
             refine pt tk (eB v82) rfl rfl rfl (mm tk (eB v82) rfl rfl ?_)
             refine if_split H81 (fun hb H83 => ?_) (fun hb H83 => ?_)
             ·subst hb
              refine mm tk (.ref id4 0) rfl rfl ?_
              refine wpo_bdr H83 eI rfl rfl rfl (fun v85 hv => h_callr rfl rfl (.cons wr .nil) (ram_Ram_Len_ok hv _ (hH.at_ 1 rfl) (hH.at_ 2 rfl) (hH.at_ 3 rfl) (hH.at_ 4 rfl) (hH.at_ 5 rfl) (hH.at_ 6 rfl) (hH.at_ 7 rfl) (hH.at_ 8 rfl) (hH.at_ 9 rfl) (hH.at_ 10 rfl) (hH.pw [1, 2, 3, 4, 5, 6, 7, 8, 9, 10] rfl (by decide)))) fun v85 hv85 H84 => ?_
              refine l_ H84 eB rfl (o_ar tk rfl rfl rfl) fun v87 H86 => ?_
              refine pt tk (eB v87) rfl rfl rfl (mm tk (eB v87) rfl rfl ?_)
              refine if_split H86 (fun hb H88 => ?_) (fun hb H88 => ?_)
              ·subst hb
               refine mm tk (.ref id4 0) rfl rfl ?_
               refine wpo_bdr H88 eI rfl rfl rfl (fun v90 hv => h_callr rfl rfl (.cons wr .nil) (ram_Ram_Limit_ok hv _ (hH.at_ 1 rfl) (hH.at_ 2 rfl) (hH.at_ 3 rfl) (hH.at_ 4 rfl) (hH.at_ 5 rfl) (hH.at_ 6 rfl) (hH.at_ 7 rfl) (hH.at_ 8 rfl) (hH.at_ 9 rfl) (hH.at_ 10 rfl) (hH.pw [1, 2, 3, 4, 5, 6, 7, 8, 9, 10] rfl (by decide)))) fun v90 hv90 H89 => ?_
               refine l_ H89 eB rfl (o_ar tk rfl rfl rfl) fun v92 H91 => ?_
               refine pt tk (eB v92) rfl rfl rfl (ma tk (eB v92) rfl rfl (wpo_nil (awp_ret ?_)))
               obtain rfl := oi H91
               exact ⟨_, (eB v92), rfl, wr, .of_eq ((enc_b td4 sz4).cut _ _ _), (((((((((((hH.noT.drop n27).drop n5).drop n5_1).drop n5_2).drop n5_3).drop n5_4).drop n5_5).drop n5_6).drop n5_7).drop n5_8).drop n5_9)⟩
              ·subst hb
               refine k_ rfl (k_ rfl (k_ rfl (pf tk (eB false) rfl rfl rfl (ma tk (eB false) rfl rfl (wpo_nil (awp_ret ?_))))))
               obtain rfl := oi H88
               exact ⟨_, (eB false), rfl, wr, .of_eq ((enc_b td4 sz4).cut _ _ _), (((((((((((hH.noT.drop n27).drop n5).drop n5_1).drop n5_2).drop n5_3).drop n5_4).drop n5_5).drop n5_6).drop n5_7).drop n5_8).drop n5_9)⟩
             ·subst hb
              refine k_ rfl (k_ rfl (k_ rfl (pf tk (eB false) rfl rfl rfl (mm tk (eB false) rfl rfl (k_ rfl (k_ rfl (k_ rfl (pf tk (eB false) rfl rfl rfl ?_))))))))
              refine ma tk (eB false) rfl rfl (wpo_nil (awp_ret ?_))
              obtain rfl := oi H83
              exact ⟨_, (eB false), rfl, wr, .of_eq ((enc_b td4 sz4).cut _ _ _), (((((((((((hH.noT.drop n27).drop n5).drop n5_1).drop n5_2).drop n5_3).drop n5_4).drop n5_5).drop n5_6).drop n5_7).drop n5_8).drop n5_9)⟩
            ·subst hb
             refine k_ rfl (k_ rfl (k_ rfl (pf tk (eB false) rfl rfl rfl (mm tk (eB false) rfl rfl (k_ rfl (k_ rfl (k_ rfl (pf tk (eB false) rfl rfl rfl ?_))))))))
             refine mm tk (eB false) rfl rfl (k_ rfl (k_ rfl (k_ rfl (pf tk (eB false) rfl rfl rfl (ma tk (eB false) rfl rfl (wpo_nil (awp_ret ?_)))))))
             obtain rfl := oi H78
             exact ⟨_, (eB false), rfl, wr, .of_eq ((enc_b td4 sz4).cut _ _ _), (((((((((((hH.noT.drop n27).drop n5).drop n5_1).drop n5_2).drop n5_3).drop n5_4).drop n5_5).drop n5_6).drop n5_7).drop n5_8).drop n5_9)⟩
           ·subst hb
            refine k_ rfl (k_ rfl (k_ rfl (pf tk (eB false) rfl rfl rfl (mm tk (eB false) rfl rfl (k_ rfl (k_ rfl (k_ rfl (pf tk (eB false) rfl rfl rfl ?_))))))))
            refine mm tk (eB false) rfl rfl (k_ rfl (k_ rfl (k_ rfl (pf tk (eB false) rfl rfl rfl (mm tk (eB false) rfl rfl (k_ rfl (k_ rfl (k_ rfl ?_))))))))
            refine pf tk (eB false) rfl rfl rfl (ma tk (eB false) rfl rfl (wpo_nil (awp_ret ?_)))
            obtain rfl := oi H73
            exact ⟨_, (eB false), rfl, wr, .of_eq ((enc_b td4 sz4).cut _ _ _), (((((((((((hH.noT.drop n27).drop n5).drop n5_1).drop n5_2).drop n5_3).drop n5_4).drop n5_5).drop n5_6).drop n5_7).drop n5_8).drop n5_9)⟩
          ·subst hb
           refine k_ rfl (k_ rfl (k_ rfl (k_ rfl (k_ rfl (pf tk (eB false) rfl rfl rfl (mm tk (eB false) rfl rfl (k_ rfl (k_ rfl ?_))))))))
           refine k_ rfl (pf tk (eB false) rfl rfl rfl (mm tk (eB false) rfl rfl (k_ rfl (k_ rfl (k_ rfl (pf tk (eB false) rfl rfl rfl (mm tk (eB false) rfl rfl (k_ rfl ?_))))))))
           refine k_ rfl (k_ rfl (pf tk (eB false) rfl rfl rfl (mm tk (eB false) rfl rfl (k_ rfl (k_ rfl (k_ rfl (pf tk (eB false) rfl rfl rfl (ma tk (eB false) rfl rfl ?_))))))))
           refine wpo_nil (awp_ret ?_)
           obtain rfl := oi H68
           exact ⟨_, (eB false), rfl, wr, .of_eq ((enc_b td4 sz4).cut _ _ _), (((((((((((hH.noT.drop n27).drop n5).drop n5_1).drop n5_2).drop n5_3).drop n5_4).drop n5_5).drop n5_6).drop n5_7).drop n5_8).drop n5_9)⟩
         ·subst hb
          refine k_ rfl (k_ rfl (k_ rfl (pf tk (eB false) rfl rfl rfl (mm tk (eB false) rfl rfl (k_ rfl (k_ rfl (k_ rfl (k_ rfl ?_))))))))
          refine k_ rfl (pf tk (eB false) rfl rfl rfl (mm tk (eB false) rfl rfl (k_ rfl (k_ rfl (k_ rfl (pf tk (eB false) rfl rfl rfl (mm tk (eB false) rfl rfl (k_ rfl ?_))))))))
          refine k_ rfl (k_ rfl (pf tk (eB false) rfl rfl rfl (mm tk (eB false) rfl rfl (k_ rfl (k_ rfl (k_ rfl (pf tk (eB false) rfl rfl rfl (mm tk (eB false) rfl rfl ?_))))))))
          refine k_ rfl (k_ rfl (k_ rfl (pf tk (eB false) rfl rfl rfl (ma tk (eB false) rfl rfl (wpo_nil (awp_ret ?_))))))
          obtain rfl := oi H63
          exact ⟨_, (eB false), rfl, wr, .of_eq ((enc_b td4 sz4).cut _ _ _), (((((((((((hH.noT.drop n27).drop n5).drop n5_1).drop n5_2).drop n5_3).drop n5_4).drop n5_5).drop n5_6).drop n5_7).drop n5_8).drop n5_9)⟩
        ·subst hb
         refine k_ rfl (k_ rfl (k_ rfl (pf tk (eB false) rfl rfl rfl (mm tk (eB false) rfl rfl (k_ rfl (k_ rfl (k_ rfl (pf tk (eB false) rfl rfl rfl ?_))))))))
         refine mm tk (eB false) rfl rfl (k_ rfl (k_ rfl (k_ rfl (k_ rfl (k_ rfl (pf tk (eB false) rfl rfl rfl (mm tk (eB false) rfl rfl (k_ rfl ?_))))))))
         refine k_ rfl (k_ rfl (pf tk (eB false) rfl rfl rfl (mm tk (eB false) rfl rfl (k_ rfl (k_ rfl (k_ rfl (pf tk (eB false) rfl rfl rfl (mm tk (eB false) rfl rfl ?_))))))))
         refine k_ rfl (k_ rfl (k_ rfl (pf tk (eB false) rfl rfl rfl (mm tk (eB false) rfl rfl (k_ rfl (k_ rfl (k_ rfl (pf tk (eB false) rfl rfl rfl ?_))))))))
         refine ma tk (eB false) rfl rfl (wpo_nil (awp_ret ?_))
         obtain rfl := oi H58
         exact ⟨_, (eB false), rfl, wr, .of_eq ((enc_b td4 sz4).cut _ _ _), (((((((((((hH.noT.drop n27).drop n5).drop n5_1).drop n5_2).drop n5_3).drop n5_4).drop n5_5).drop n5_6).drop n5_7).drop n5_8).drop n5_9)⟩
       ·rw [hb]
        refine k_ rfl (k_ rfl (k_ rfl (pf tk (eB false) rfl rfl rfl (mm tk (eB false) rfl rfl (k_ rfl (k_ rfl (k_ rfl (pf tk (eB false) rfl rfl rfl ?_))))))))
        refine mm tk (eB false) rfl rfl (k_ rfl (k_ rfl (k_ rfl (pf tk (eB false) rfl rfl rfl (mm tk (eB false) rfl rfl (k_ rfl (k_ rfl (k_ rfl ?_))))))))
        refine k_ rfl (k_ rfl (pf tk (eB false) rfl rfl rfl (mm tk (eB false) rfl rfl (k_ rfl (k_ rfl (k_ rfl (pf tk (eB false) rfl rfl rfl (mm tk (eB false) rfl rfl ?_))))))))
        refine k_ rfl (k_ rfl (k_ rfl (pf tk (eB false) rfl rfl rfl (mm tk (eB false) rfl rfl (k_ rfl (k_ rfl (k_ rfl (pf tk (eB false) rfl rfl rfl ?_))))))))
        refine mm tk (eB false) rfl rfl (k_ rfl (k_ rfl (k_ rfl (pf tk (eB false) rfl rfl rfl (ma tk (eB false) rfl rfl (wpo_nil (awp_ret ?_)))))))
        obtain rfl := oi H53
        exact ⟨_, (eB false), rfl, wr, .of_eq ((enc_b td4 sz4).cut _ _ _), (((((((((((hH.noT.drop n27).drop n5).drop n5_1).drop n5_2).drop n5_3).drop n5_4).drop n5_5).drop n5_6).drop n5_7).drop n5_8).drop n5_9)⟩
      ·subst hb
       refine k_ rfl (pf tk (eB false) rfl rfl rfl (mm tk (eB false) rfl rfl (k_ rfl (k_ rfl (k_ rfl (pf tk (eB false) rfl rfl rfl (mm tk (eB false) rfl rfl (k_ rfl ?_))))))))
       refine k_ rfl (k_ rfl (pf tk (eB false) rfl rfl rfl (mm tk (eB false) rfl rfl (k_ rfl (k_ rfl (k_ rfl (pf tk (eB false) rfl rfl rfl (mm tk (eB false) rfl rfl ?_))))))))
       refine k_ rfl (k_ rfl (k_ rfl (k_ rfl (k_ rfl (pf tk (eB false) rfl rfl rfl (mm tk (eB false) rfl rfl (k_ rfl (k_ rfl ?_))))))))
       refine k_ rfl (pf tk (eB false) rfl rfl rfl (mm tk (eB false) rfl rfl (k_ rfl (k_ rfl (k_ rfl (pf tk (eB false) rfl rfl rfl (mm tk (eB false) rfl rfl (k_ rfl ?_))))))))
       refine k_ rfl (k_ rfl (pf tk (eB false) rfl rfl rfl (mm tk (eB false) rfl rfl (k_ rfl (k_ rfl (k_ rfl (pf tk (eB false) rfl rfl rfl (ma tk (eB false) rfl rfl ?_))))))))
       refine wpo_nil (awp_ret ?_)
       obtain rfl := oi H52
       exact ⟨_, (eB false), rfl, wr, .of_eq ((enc_b td4 sz4).cut _ _ _), (((((((((((hH.noT.drop n27).drop n5).drop n5_1).drop n5_2).drop n5_3).drop n5_4).drop n5_5).drop n5_6).drop n5_7).drop n5_8).drop n5_9)⟩
     ·subst hb
      refine k_ rfl (k_ rfl (pf tk (eB false) rfl rfl rfl (mm tk (eB false) rfl rfl (k_ rfl (pf tk (eB false) rfl rfl rfl (mm tk (eB false) rfl rfl (k_ rfl (k_ rfl ?_))))))))
      refine k_ rfl (pf tk (eB false) rfl rfl rfl (mm tk (eB false) rfl rfl (k_ rfl (k_ rfl (k_ rfl (pf tk (eB false) rfl rfl rfl (mm tk (eB false) rfl rfl (k_ rfl ?_))))))))
      refine k_ rfl (k_ rfl (pf tk (eB false) rfl rfl rfl (mm tk (eB false) rfl rfl (k_ rfl (k_ rfl (k_ rfl (k_ rfl (k_ rfl ?_))))))))
      refine pf tk (eB false) rfl rfl rfl (mm tk (eB false) rfl rfl (k_ rfl (k_ rfl (k_ rfl (pf tk (eB false) rfl rfl rfl (mm tk (eB false) rfl rfl (k_ rfl (k_ rfl ?_))))))))
      refine k_ rfl (pf tk (eB false) rfl rfl rfl (mm tk (eB false) rfl rfl (k_ rfl (k_ rfl (k_ rfl (pf tk (eB false) rfl rfl rfl (mm tk (eB false) rfl rfl (k_ rfl ?_))))))))
      refine k_ rfl (k_ rfl (pf tk (eB false) rfl rfl rfl (ma tk (eB false) rfl rfl (wpo_nil (awp_ret ?_)))))
      obtain rfl := oi H49
      exact ⟨_, (eB false), rfl, wr, .of_eq ((enc_b td4 sz4).cut _ _ _), (((((((((((hH.noT.drop n27).drop n5).drop n5_1).drop n5_2).drop n5_3).drop n5_4).drop n5_5).drop n5_6).drop n5_7).drop n5_8).drop n5_9)⟩
    ·subst hb
     refine k_ rfl (k_ rfl (pf tk (eB false) rfl rfl rfl (mm tk (eB false) rfl rfl (k_ rfl (k_ rfl (pf tk (eB false) rfl rfl rfl (mm tk (eB false) rfl rfl (k_ rfl ?_))))))))
     refine pf tk (eB false) rfl rfl rfl (mm tk (eB false) rfl rfl (k_ rfl (k_ rfl (k_ rfl (pf tk (eB false) rfl rfl rfl (mm tk (eB false) rfl rfl (k_ rfl (k_ rfl ?_))))))))
     refine k_ rfl (pf tk (eB false) rfl rfl rfl (mm tk (eB false) rfl rfl (k_ rfl (k_ rfl (k_ rfl (pf tk (eB false) rfl rfl rfl (mm tk (eB false) rfl rfl (k_ rfl ?_))))))))
     refine k_ rfl (k_ rfl (k_ rfl (k_ rfl (pf tk (eB false) rfl rfl rfl (mm tk (eB false) rfl rfl (k_ rfl (k_ rfl (k_ rfl ?_))))))))
     refine pf tk (eB false) rfl rfl rfl (mm tk (eB false) rfl rfl (k_ rfl (k_ rfl (k_ rfl (pf tk (eB false) rfl rfl rfl (mm tk (eB false) rfl rfl (k_ rfl (k_ rfl ?_))))))))
     refine k_ rfl (pf tk (eB false) rfl rfl rfl (mm tk (eB false) rfl rfl (k_ rfl (k_ rfl (k_ rfl (pf tk (eB false) rfl rfl rfl (ma tk (eB false) rfl rfl (wpo_nil ?_))))))))
     refine awp_ret ?_
     obtain rfl := oi H46
     exact ⟨_, (eB false), rfl, wr, .of_eq ((enc_b td4 sz4).cut _ _ _), (((((((((((hH.noT.drop n27).drop n5).drop n5_1).drop n5_2).drop n5_3).drop n5_4).drop n5_5).drop n5_6).drop n5_7).drop n5_8).drop n5_9)⟩
   ·subst hb
    refine k_ rfl (k_ rfl (pf tk (eB false) rfl rfl rfl (mm tk (eB false) rfl rfl (k_ rfl (k_ rfl (pf tk (eB false) rfl rfl rfl (mm tk (eB false) rfl rfl (k_ rfl ?_))))))))
    refine k_ rfl (pf tk (eB false) rfl rfl rfl (mm tk (eB false) rfl rfl (k_ rfl (pf tk (eB false) rfl rfl rfl (mm tk (eB false) rfl rfl (k_ rfl (k_ rfl (k_ rfl ?_))))))))
    refine pf tk (eB false) rfl rfl rfl (mm tk (eB false) rfl rfl (k_ rfl (k_ rfl (k_ rfl (pf tk (eB false) rfl rfl rfl (mm tk (eB false) rfl rfl (k_ rfl (k_ rfl ?_))))))))
    refine k_ rfl (pf tk (eB false) rfl rfl rfl (mm tk (eB false) rfl rfl (k_ rfl (k_ rfl (k_ rfl (k_ rfl (k_ rfl (pf tk (eB false) rfl rfl rfl ?_))))))))
    refine mm tk (eB false) rfl rfl (k_ rfl (k_ rfl (k_ rfl (pf tk (eB false) rfl rfl rfl (mm tk (eB false) rfl rfl (k_ rfl (k_ rfl (k_ rfl ?_))))))))
    refine pf tk (eB false) rfl rfl rfl (mm tk (eB false) rfl rfl (k_ rfl (k_ rfl (k_ rfl (pf tk (eB false) rfl rfl rfl (mm tk (eB false) rfl rfl (k_ rfl (k_ rfl ?_))))))))
    refine k_ rfl (pf tk (eB false) rfl rfl rfl (ma tk (eB false) rfl rfl (wpo_nil (awp_ret ?_))))
    obtain rfl := oi H43
    exact ⟨_, (eB false), rfl, wr, .of_eq ((enc_b td4 sz4).cut _ _ _), (((((((((((hH.noT.drop n27).drop n5).drop n5_1).drop n5_2).drop n5_3).drop n5_4).drop n5_5).drop n5_6).drop n5_7).drop n5_8).drop n5_9)⟩
end Go.Proofs.YtggeboakilalhaaGreatDoor
namespace Go.Proofs.YtggeboakilalhaaGreatDoor
open Go Go.Va
set_option linter.unusedVariables false
set_option linter.unusedSimpArgs false
set_option maxRecDepth 20000
theorem R11_New_ok {x0 : Int} {r : R11_Ram × Int} (H : R11_New x0 = some r) (σ : St)  : ACall Tryz.prog 8 [(eI x0)] σ (fun a τ => a = .tup [e_R11_Ram r.1, eI r.2] ∧ τ = σ) := by
 unfold R11_New at H
 refine ACall.pure (acall_start tk Tryz.func8 (by decide) rfl (nb rfl) ?_)
 have hH := Holds.init σ
 refine sr rfl ?_
 refine wpo_a (av := fun id => .ref id 0) rfl rfl rfl (h_alloc tk hH ty37 [(eI z_R11_Ram.Limit), AV.nils] rfl) fun id1 τ ⟨hH, n2⟩ => ?_
 refine ma tk (eI (0 : Int)) rfl rfl (wpo_nil (awp_seq (awp_seq ?_)))
 obtain ⟨s3, hs5, hj6⟩ := ob H
 refine awp_cutn (fun fr τ => WkF fr (fm [(0, (eI x0)), (2, (.ref id1 0)), (9, (eB s3))]) ∧ Holds σ [(id1, [(eI z_R11_Ram.Limit), AV.nils])] [] τ) ?_ ?_
 ·rintro fr τ ⟨hfr, hH⟩
  have H12 := hj6
  refine AWP.fm [(0, (eI x0)), (2, (.ref id1 0)), (9, (eB s3))] hfr ?_
  refine awp_if H12 rfl (fun H13 => ?_) (fun H13 => ?_)
  ·refine sr rfl (mc tk (.agg [(eI (⟨(0 : Int), ([] : List aEn)⟩ : R11_Ram).Limit), AV.nils]) rfl rfl (fun _ => rfl) ?_)
   refine wpo_z rfl rfl (h_st (y := (.agg [(eI (⟨(0 : Int), ([] : List aEn)⟩ : R11_Ram).Limit), AV.nils])) tk hH 0 rfl ty37 (by simp) rfl rfl wr (b := (.agg [(eI (⟨(0 : Int), ([] : List aEn)⟩ : R11_Ram).Limit), AV.nils])) rfl rfl (nb rfl) [(eI ((⟨(0 : Int), ([] : List aEn)⟩ : R11_Ram) : R11_Ram).Limit), AV.nils] rfl) fun τ hH => ?_
   refine ma tk (eI (2 : Int)) rfl rfl (wpo_nil (awp_ret ?_))
   obtain rfl := oi H13
   exact ⟨_, (.tup [(e_R11_Ram ((⟨(0 : Int), ([] : List aEn)⟩ : R11_Ram) : R11_Ram)), (eI (2 : Int))]), (ares_2 (ares_cell hH 0 rfl rfl rfl) rfl), (wk_tup (.cons (wk_agg (.cons wr (.cons (wk_nils _) .nil))) (.cons wr .nil))), .of_eq (by simp only [cutAV, cutL, enc37.cut _ _ _, (enc_i64 td27 sz27).cut _ _ _]), (hH.noT.drop n2)⟩
  ·refine awp_skip (sr rfl (mm tk (eI x0) rfl rfl (mc tk (.agg [(eI (⟨x0, ([] : List aEn)⟩ : R11_Ram).Limit), AV.nils]) rfl rfl (fun _ => rfl) ?_)))
   refine wpo_z rfl rfl (h_st (y := (.agg [(eI (⟨x0, ([] : List aEn)⟩ : R11_Ram).Limit), AV.nils])) tk hH 0 rfl ty37 (by simp) rfl rfl wr (b := (.agg [(eI (⟨x0, ([] : List aEn)⟩ : R11_Ram).Limit), AV.nils])) rfl rfl (nb rfl) [(eI ((⟨x0, ([] : List aEn)⟩ : R11_Ram) : R11_Ram).Limit), AV.nils] rfl) fun τ hH => ?_
   refine ma tk (eI (0 : Int)) rfl rfl (wpo_nil (awp_ret ?_))
   obtain rfl := oi H13
   exact ⟨_, (.tup [(e_R11_Ram ((⟨x0, ([] : List aEn)⟩ : R11_Ram) : R11_Ram)), (eI (0 : Int))]), (ares_2 (ares_cell hH 0 rfl rfl rfl) rfl), (wk_tup (.cons (wk_agg (.cons wr (.cons (wk_nils _) .nil))) (.cons wr .nil))), .of_eq (by simp only [cutAV, cutL, enc37.cut _ _ _, (enc_i64 td27 sz27).cut _ _ _]), (hH.noT.drop n2)⟩
 ·refine awp_region rfl (mm tk (eI x0) rfl rfl ?_)
  refine l_ hs5 eB rfl (o_ar tk rfl rfl rfl) fun v8 H7 => ?_
  refine mm tk (eB v8) rfl rfl ?_
  refine if_split H7 (fun hb H9 => ?_) (fun hb H9 => ?_)
  ·subst hb
   refine k_ rfl (k_ rfl (pt tk (eB true) rfl rfl rfl (wpo_nil ?_)))
   have e := oi H9
   subst e
   exact ⟨(wc (wc (wc (wkf_nil _)))), hH⟩
  ·subst hb
   refine mm tk (eI x0) rfl rfl ?_
   refine l_ H9 eB rfl (o_ar tk rfl rfl rfl) fun v11 H10 => ?_
   refine pf tk (eB v11) rfl rfl rfl (wpo_nil ?_)
   have e := oi H10
   subst e
   exact ⟨(wc (wc (wc (wkf_nil _)))), hH⟩
theorem L11_RamDoes_ok {x0 : Int} {x1 : List L11_Op} {x2 : aEn} {r : Bool} (H : L11_RamDoes x0 x1 x2 = some r) (σ : St)  (hg : σ.gl = gls) : ACall Tryz.prog 3 [(eI x0), ((eL 7 e_L11_Op) x1), (e_aEn x2)] σ (fun a τ => a = eB r ∧ τ = σ) := by
 unfold L11_RamDoes at H
 refine ACall.pure (acall_start tk Tryz.func3 (by decide) rfl (nb rfl) ?_)
 have hH := Holds.init σ
 refine sr rfl (m_ (.fptr (c_aEn x2) 0) rfl (o_boxf tk rfl wr (b := (e_aEn x2)) (enc25.flat _)) (ma tk (eB false) rfl rfl (wpo_nil (awp_seq (awp_seq ?_)))))
 obtain ⟨s1, hs3, hj4⟩ := ob H
 refine awp_cutn (fun fr τ => WkF fr (fm [(0, (eI x0)), (1, ((eL 7 e_L11_Op) x1)), (5, (.fptr (c_aEn x2) 0)), (29, (eB s1))]) ∧ Holds σ [] [] τ) ?_ ?_
 ·rintro fr τ ⟨hfr, hH⟩
  have H24 := hj4
  refine AWP.fm [(0, (eI x0)), (1, ((eL 7 e_L11_Op) x1)), (5, (.fptr (c_aEn x2) 0)), (29, (eB s1))] hfr ?_
  refine awp_if H24 rfl (fun H25 => ?_) (fun H25 => ?_)
  ·refine sr rfl ?_
   refine wpo_bdr H25 eB rfl rfl rfl (fun v27 hv => h_callr rfl rfl .nil (L11_works_ok hv _ (hH.gl.trans hg))) fun v27 hv27 H26 => ?_
   refine ma tk (eB v27) rfl rfl (wpo_nil (awp_ret ?_))
   obtain rfl := oi H26
   exact ⟨_, (eB v27), rfl, wr, .of_eq ((enc_b td4 sz4).cut _ _ _), hH.noT⟩
  ·refine awp_skip (sr rfl (mm tk (eI x0) rfl rfl ?_))
   obtain ⟨v29, hvv29, H28⟩ := ob H25
   rcases hz33 : v29.1 with _ | c30
   ·rw [hz33, Option.elim_none] at H28
    refine wpo_a (av := fun _ => .tup [.nilp, (eErr v29.2)]) rfl rfl rfl (h_callnb0 hH hz33 rfl rfl (.cons wr .nil) (ram_New_ok hvv29 _)) fun _ τ hH => ?_
    refine mm tk (.tup [.nilp, (eErr v29.2)]) rfl rfl (m_ .nilp rfl (o_ext tk rfl rfl) (m_ (eErr v29.2) rfl (o_ext tk rfl rfl) (ma tk .nilp rfl rfl (ma tk (eErr v29.2) rfl rfl (wpo_nil (sr rfl (mm tk (eI x0) rfl rfl ?_)))))))
    refine b_ H28 (fun r => .tup [e_R11_Ram r.1, eI r.2]) rfl (fun v35 hv => OpP.of_call rfl rfl (.cons wr .nil) (R11_New_ok hv)) fun v35 hv35 H34 => ?_
    refine mm tk (.tup [(e_R11_Ram v35.1), (eI v35.2)]) rfl rfl (m_ (e_R11_Ram v35.1) rfl (o_ext tk rfl rfl) (m_ (eI v35.2) rfl (o_ext tk rfl rfl) ?_))
    refine wpo_a (av := fun id => .ref id 0) rfl rfl rfl (h_alloc tk hH ty37 [(eI z_R11_Ram.Limit), AV.nils] rfl) fun id36 τ ⟨hH, n37⟩ => ?_
    refine wpo_z rfl rfl (h_st tk hH 0 rfl ty37 (by simp) rfl rfl wr (b := (e_R11_Ram v35.1)) (enc37.flat _) rfl (nb rfl) (c_R11_Ram (v35.1 : R11_Ram)) rfl) fun τ hH => ?_
    refine ma tk (eI v35.2) rfl rfl (wpo_nil (awp_seq (awp_seq ?_)))
    obtain ⟨s39, hs41, hj42⟩ := ob H34
    refine awp_cutn (fun fr τ => WkF fr (fm [(0, (eI x0)), (1, ((eL 7 e_L11_Op) x1)), (5, (.fptr (c_aEn x2) 0)), (7, .nilp), (9, (.ref id36 0)), (10, (eI v35.2)), (51, (eB s39))]) ∧ Holds σ [(id36, (c_R11_Ram (v35.1 : R11_Ram)))] [] τ) ?_ ?_
    ·rintro fr τ ⟨hfr, hH⟩
     have H52 := hj42
     refine AWP.fm [(0, (eI x0)), (1, ((eL 7 e_L11_Op) x1)), (5, (.fptr (c_aEn x2) 0)), (7, .nilp), (9, (.ref id36 0)), (10, (eI v35.2)), (51, (eB s39))] hfr ?_
     refine awp_if H52 rfl (fun H53 => ?_) (fun H53 => ?_)
     ·refine sr rfl (ma tk (eB false) rfl rfl (wpo_nil (awp_ret ?_)))
      obtain rfl := oi H53
      exact ⟨_, (eB false), rfl, wr, .of_eq ((enc_b td4 sz4).cut _ _ _), (hH.noT.drop n37)⟩
     ·refine awp_skip (awp_seq (sr rfl (ma tk (eI (0 : Int)) rfl rfl (wpo_nil (awp_block ?_)))))
      obtain ⟨s62, hs56, hj57⟩ := ob H53
      refine awp_cutx 0 (fun fr τ => WkF fr (fm []) ∧ Holds σ [(id36, (c_R11_Ram (v35.1 : R11_Ram)))] [] τ) ?_ ?_
      ·rintro fr τ ⟨hfr, hH⟩
       have H80 := hj57
       refine AWP.fm [] hfr ?_
       refine sr rfl ?_
       refine wpo_bdr H80 eB rfl rfl rfl (fun v82 hv => h_callr rfl rfl .nil (L11_works_ok hv _ (hH.gl.trans hg))) fun v82 hv82 H81 => ?_
       refine ma tk (eB v82) rfl rfl (wpo_nil (awp_ret ?_))
       obtain rfl := oi H81
       exact ⟨_, (eB v82), rfl, wr, .of_eq ((enc_b td4 sz4).cut _ _ _), (hH.noT.drop n37)⟩
      ·refine awp_loopO (body := fun s => L11_RamDoes_b0 x0 x1 x2 v35 s) hs56 (fun (s : Int) fr τ => WkF fr (fm [(0, (eI x0)), (1, ((eL 7 e_L11_Op) x1)), (5, (.fptr (c_aEn x2) 0)), (7, .nilp), (9, (.ref id36 0)), (10, (eI v35.2)), (11, (eI s))]) ∧ Holds σ [(id36, (c_R11_Ram (v35.1 : R11_Ram)))] [] τ) ⟨(wc (wc (wc (wc (wc (wc (wc (wkf_nil _)))))))), hH⟩ ?_
       rintro c54 fr τ y58 ⟨hfr, hH⟩ hb60 hy61
       have H63 : L11_RamDoes_b0 x0 x1 x2 v35 c54 = some y58 := hb60
       unfold L11_RamDoes_b0 at H63
       refine AWP.fm [(0, (eI x0)), (1, ((eL 7 e_L11_Op) x1)), (5, (.fptr (c_aEn x2) 0)), (7, .nilp), (9, (.ref id36 0)), (10, (eI v35.2)), (11, (eI c54))] hfr ?_
       have hH : Holds σ [(id36, (c_R11_Ram (v35.1 : R11_Ram)))] [] τ := hH
       refine awp_seq (awp_seq ?_)
       obtain ⟨s64, hs66, hj67⟩ := ob H63
       refine awp_cutn (fun fr τ => WkF fr (fm [(0, (eI x0)), (1, ((eL 7 e_L11_Op) x1)), (5, (.fptr (c_aEn x2) 0)), (7, .nilp), (9, (.ref id36 0)), (10, (eI v35.2)), (11, (eI c54)), (59, (eB s64))]) ∧ Holds σ [(id36, (c_R11_Ram (v35.1 : R11_Ram)))] [] τ) ?_ ?_
       ·rintro fr τ ⟨hfr, hH⟩
        have H75 := hj67
        refine AWP.fm [(0, (eI x0)), (1, ((eL 7 e_L11_Op) x1)), (5, (.fptr (c_aEn x2) 0)), (7, .nilp), (9, (.ref id36 0)), (10, (eI v35.2)), (11, (eI c54)), (59, (eB s64))] hfr ?_
        refine awp_if H75 rfl (fun H76 => ?_) (fun H76 => ?_)
        ·refine awp_skip (awp_seq (awp_block (awp_seq ?_)))
         obtain ⟨v78, hv79, H77⟩ := ob H76
         cases H77
        ·refine awp_exit ?_
         have hz := hy61 _ (inj_inr H76)
         subst hz
         exact ⟨⟨_, inj_inr H76⟩, (wkf_nil _), hH⟩
       ·refine awp_region rfl (mm tk (eI c54) rfl rfl (mm tk ((eL 7 e_L11_Op) x1) rfl rfl ?_))
        refine l_ hs66 eI rfl (o_len tk td22 rfl) fun v69 H68 => ?_
        refine l_ H68 eB rfl (o_ar tk rfl rfl rfl) fun v71 H70 => ?_
        refine mm tk (eB v71) rfl rfl ?_
        refine if_split H70 (fun hb H72 => ?_) (fun hb H72 => ?_)
        ·subst hb
         refine mm tk (eI v35.2) rfl rfl ?_
         refine l_ H72 eB rfl (o_ar tk rfl rfl rfl) fun v74 H73 => ?_
         refine pt tk (eB v74) rfl rfl rfl (wpo_nil ?_)
         have e := oi H73
         subst e
         exact ⟨(wc (wc (wc (wc (wc (wc (wc (wc (wkf_nil _))))))))), hH⟩
        ·subst hb
         refine k_ rfl (k_ rfl (pf tk (eB false) rfl rfl rfl (wpo_nil ?_)))
         have e := oi H72
         subst e
         exact ⟨(wc (wc (wc (wc (wc (wc (wc (wc (wkf_nil _))))))))), hH⟩
    ·refine awp_region rfl (mm tk (eErr v29.2) rfl rfl ?_)
     refine wpo_bdr hs41 eI rfl rfl rfl (fun v44 hv => h_callr rfl rfl (.cons wr .nil) (trouble_Of_ok hv _ (hH.gl.trans hg))) fun v44 hv44 H43 => ?_
     refine mm tk (eI v35.2) rfl rfl ?_
     refine l_ H43 eB rfl (o_ar tk rfl rfl rfl) fun v46 H45 => ?_
     refine mm tk (eB v46) rfl rfl ?_
     refine if_split H45 (fun hb H47 => ?_) (fun hb H47 => ?_)
     ·subst hb
      refine k_ rfl (k_ rfl (k_ rfl (k_ rfl (k_ rfl (pt tk (eB true) rfl rfl rfl (wpo_nil ?_))))))
      have e := oi H47
      subst e
      exact ⟨(wc (wc (wc (wc (wc (wc (wc (wkf_nil _)))))))), hH⟩
     ·subst hb
      refine mm tk .nilp rfl rfl (mc tk (eB true) rfl rfl (fun _ => rfl) (mm tk (eI v35.2) rfl rfl ?_))
      refine l_ H47 eB rfl (o_ar tk rfl rfl rfl) fun v49 H48 => ?_
      refine l_ H48 eB rfl (o_bool_neq tk td4 rfl rfl) fun v51 H50 => ?_
      refine pf tk (eB v51) rfl rfl rfl (wpo_nil ?_)
      have e := oi H50
      subst e
      exact ⟨(wc (wc (wc (wc (wc (wc (wc (wkf_nil _)))))))), hH⟩
   ·rw [hz33, Option.elim_some] at H28
    refine wpo_a (av := fun id => .tup [.ref id 0, (eErr v29.2)]) rfl rfl rfl (h_callnb1 hH hz33 rfl rfl (.cons wr .nil) (ram_New_ok hvv29 _)) fun id31 τ ⟨hH, n32⟩ => ?_
    obtain ⟨id31B, h_id31B⟩ : ∃ x, x = id31 + 1 := ⟨_, rfl⟩
    obtain ⟨id31I, h_id31I⟩ : ∃ x, x = id31 + 2 := ⟨_, rfl⟩
    obtain ⟨id31N, h_id31N⟩ : ∃ x, x = id31 + 3 := ⟨_, rfl⟩
    obtain ⟨id31F, h_id31F⟩ : ∃ x, x = id31 + 4 := ⟨_, rfl⟩
    obtain ⟨id31L, h_id31L⟩ : ∃ x, x = id31 + 5 := ⟨_, rfl⟩
    obtain ⟨id31C, h_id31C⟩ : ∃ x, x = id31 + 6 := ⟨_, rfl⟩
    obtain ⟨id31H, h_id31H⟩ : ∃ x, x = id31 + 7 := ⟨_, rfl⟩
    obtain ⟨id31X, h_id31X⟩ : ∃ x, x = id31 + 8 := ⟨_, rfl⟩
    obtain ⟨id31G, h_id31G⟩ : ∃ x, x = id31 + 9 := ⟨_, rfl⟩
    have hH : Holds σ [(id31, [(.ref id31B 0), (.ref id31I 0), (.vec id31H 1 (c30.heads).length), (.vec id31X 1 (c30.next_).length), (.vec id31G 5 (c30.things).length), (eI c30.count)]), (id31B, (c_slab_Budget c30.budget)), (id31I, [(.vec id31N 4 (c30.lists.nodes).length), (.vec id31F 1 (c30.lists.first_).length), (.vec id31L 1 (c30.lists.last_).length), (.vec id31C 1 (c30.lists.count).length), (eI c30.lists.free), (eI c30.lists.clock)]), (id31N, (cL e_lists_link c30.lists.nodes)), (id31F, (cL eI c30.lists.first_)), (id31L, (cL eI c30.lists.last_)), (id31C, (cL eI c30.lists.count)), (id31H, (cL eI c30.heads)), (id31X, (cL eI c30.next_)), (id31G, (cL e_aEn c30.things))] [] τ := by rw [h_id31B, h_id31I, h_id31N, h_id31F, h_id31L, h_id31C, h_id31H, h_id31X, h_id31G]; exact hH
    have n32_1 : σ.objs.length ≤ id31B := by omega
    have n32_2 : σ.objs.length ≤ id31I := by omega
    have n32_3 : σ.objs.length ≤ id31N := by omega
    have n32_4 : σ.objs.length ≤ id31F := by omega
    have n32_5 : σ.objs.length ≤ id31L := by omega
    have n32_6 : σ.objs.length ≤ id31C := by omega
    have n32_7 : σ.objs.length ≤ id31H := by omega
    have n32_8 : σ.objs.length ≤ id31X := by omega
    have n32_9 : σ.objs.length ≤ id31G := by omega
    refine mm tk (.tup [(.ref id31 0), (eErr v29.2)]) rfl rfl (m_ (.ref id31 0) rfl (o_ext tk rfl rfl) (m_ (eErr v29.2) rfl (o_ext tk rfl rfl) (ma tk (.ref id31 0) rfl rfl (ma tk (eErr v29.2) rfl rfl (wpo_nil (sr rfl (mm tk (eI x0) rfl rfl ?_)))))))
    refine b_ H28 (fun r => .tup [e_R11_Ram r.1, eI r.2]) rfl (fun v84 hv => OpP.of_call rfl rfl (.cons wr .nil) (R11_New_ok hv)) fun v84 hv84 H83 => ?_
    refine mm tk (.tup [(e_R11_Ram v84.1), (eI v84.2)]) rfl rfl (m_ (e_R11_Ram v84.1) rfl (o_ext tk rfl rfl) (m_ (eI v84.2) rfl (o_ext tk rfl rfl) ?_))
    refine wpo_a (av := fun id => .ref id 0) rfl rfl rfl (h_alloc tk hH ty37 [(eI z_R11_Ram.Limit), AV.nils] rfl) fun id85 τ ⟨hH, n86⟩ => ?_
    refine wpo_z rfl rfl (h_st tk hH 0 rfl ty37 (by simp) rfl rfl wr (b := (e_R11_Ram v84.1)) (enc37.flat _) rfl (nb rfl) (c_R11_Ram (v84.1 : R11_Ram)) rfl) fun τ hH => ?_
    refine ma tk (eI v84.2) rfl rfl (wpo_nil (awp_seq (awp_seq ?_)))
    obtain ⟨s88, hs90, hj91⟩ := ob H83
    refine awp_cutn (fun fr τ => WkF fr (fm [(0, (eI x0)), (1, ((eL 7 e_L11_Op) x1)), (5, (.fptr (c_aEn x2) 0)), (7, (.ref id31 0)), (9, (.ref id85 0)), (10, (eI v84.2)), (51, (eB s88))]) ∧ Holds σ [(id85, (c_R11_Ram (v84.1 : R11_Ram))), (id31, [(.ref id31B 0), (.ref id31I 0), (.vec id31H 1 (c30.heads).length), (.vec id31X 1 (c30.next_).length), (.vec id31G 5 (c30.things).length), (eI c30.count)]), (id31B, (c_slab_Budget c30.budget)), (id31I, [(.vec id31N 4 (c30.lists.nodes).length), (.vec id31F 1 (c30.lists.first_).length), (.vec id31L 1 (c30.lists.last_).length), (.vec id31C 1 (c30.lists.count).length), (eI c30.lists.free), (eI c30.lists.clock)]), (id31N, (cL e_lists_link c30.lists.nodes)), (id31F, (cL eI c30.lists.first_)), (id31L, (cL eI c30.lists.last_)), (id31C, (cL eI c30.lists.count)), (id31H, (cL eI c30.heads)), (id31X, (cL eI c30.next_)), (id31G, (cL e_aEn c30.things))] [] τ) ?_ ?_
    ·rintro fr τ ⟨hfr, hH⟩
     have H101 := hj91
     refine AWP.fm [(0, (eI x0)), (1, ((eL 7 e_L11_Op) x1)), (5, (.fptr (c_aEn x2) 0)), (7, (.ref id31 0)), (9, (.ref id85 0)), (10, (eI v84.2)), (51, (eB s88))] hfr ?_
     refine awp_if H101 rfl (fun H102 => ?_) (fun H102 => ?_)
     ·refine sr rfl (ma tk (eB false) rfl rfl (wpo_nil (awp_ret ?_)))
      obtain rfl := oi H102
      exact ⟨_, (eB false), rfl, wr, .of_eq ((enc_b td4 sz4).cut _ _ _), (((((((((((hH.noT.drop n86).drop n32).drop n32_1).drop n32_2).drop n32_3).drop n32_4).drop n32_5).drop n32_6).drop n32_7).drop n32_8).drop n32_9)⟩
     ·refine awp_skip (awp_seq (sr rfl (ma tk (eI (0 : Int)) rfl rfl (wpo_nil (awp_block ?_)))))
      obtain ⟨o115, hs116, hj117⟩ := ob H102
      refine awp_cutx 0 (fun fr τ => ∃ s122 : R11_Ram × ram_Ram × slab_Budget × lists_Lists × (List lists_link) × (List Int) × (List Int) × (List Int) × (List Int) × (List Int) × (List aEn), o115 = .inl s122 ∧ WkF fr (fm []) ∧ Holds σ [(id85, (c_R11_Ram s122.1)), (id31, [(.ref id31B 0), (.ref id31I 0), (.vec id31H 1 (s122.2.2.2.2.2.2.2.2.1).length), (.vec id31X 1 (s122.2.2.2.2.2.2.2.2.2.1).length), (.vec id31G 5 (s122.2.2.2.2.2.2.2.2.2.2).length), (eI s122.2.1.count)]), (id31B, (c_slab_Budget s122.2.2.1)), (id31I, [(.vec id31N 4 (s122.2.2.2.2.1).length), (.vec id31F 1 (s122.2.2.2.2.2.1).length), (.vec id31L 1 (s122.2.2.2.2.2.2.1).length), (.vec id31C 1 (s122.2.2.2.2.2.2.2.1).length), (eI s122.2.2.2.1.free), (eI s122.2.2.2.1.clock)]), (id31N, (cL e_lists_link s122.2.2.2.2.1)), (id31F, (cL eI s122.2.2.2.2.2.1)), (id31L, (cL eI s122.2.2.2.2.2.2.1)), (id31C, (cL eI s122.2.2.2.2.2.2.2.1)), (id31H, (cL eI s122.2.2.2.2.2.2.2.2.1)), (id31X, (cL eI s122.2.2.2.2.2.2.2.2.2.1)), (id31G, (cL e_aEn s122.2.2.2.2.2.2.2.2.2.2))] [] τ) ?_ ?_
      ·rintro fr τ ⟨s122, rfl, hfr, hH⟩
       have H195 := hj117
       simp only [Sum.elim_inl] at H195
       refine AWP.fm [] hfr ?_
       refine sr rfl ?_
       refine wpo_bdr H195 eB rfl rfl rfl (fun v197 hv => h_callr rfl rfl .nil (L11_works_ok hv _ (hH.gl.trans hg))) fun v197 hv197 H196 => ?_
       refine ma tk (eB v197) rfl rfl (wpo_nil (awp_ret ?_))
       obtain rfl := oi H196
       exact ⟨_, (eB v197), rfl, wr, .of_eq ((enc_b td4 sz4).cut _ _ _), (((((((((((hH.noT.drop n86).drop n32).drop n32_1).drop n32_2).drop n32_3).drop n32_4).drop n32_5).drop n32_6).drop n32_7).drop n32_8).drop n32_9)⟩
      ·refine awp_loopO (body := fun s => L11_RamDoes_b1 x0 x1 x2 v84 s.1 s.2.1 s.2.2.1 s.2.2.2.1 s.2.2.2.2.1 s.2.2.2.2.2.1 s.2.2.2.2.2.2.1 s.2.2.2.2.2.2.2.1 s.2.2.2.2.2.2.2.2.1 s.2.2.2.2.2.2.2.2.2.1 s.2.2.2.2.2.2.2.2.2.2.1 s.2.2.2.2.2.2.2.2.2.2.2) hs116 (fun (s : Int × R11_Ram × ram_Ram × slab_Budget × lists_Lists × (List lists_link) × (List Int) × (List Int) × (List Int) × (List Int) × (List Int) × (List aEn)) fr τ => WkF fr (fm [(0, (eI x0)), (1, ((eL 7 e_L11_Op) x1)), (5, (.fptr (c_aEn x2) 0)), (7, (.ref id31 0)), (9, (.ref id85 0)), (10, (eI v84.2)), (11, (eI s.1))]) ∧ Holds σ [(id85, (c_R11_Ram s.2.1)), (id31, [(.ref id31B 0), (.ref id31I 0), (.vec id31H 1 (s.2.2.2.2.2.2.2.2.2.1).length), (.vec id31X 1 (s.2.2.2.2.2.2.2.2.2.2.1).length), (.vec id31G 5 (s.2.2.2.2.2.2.2.2.2.2.2).length), (eI s.2.2.1.count)]), (id31B, (c_slab_Budget s.2.2.2.1)), (id31I, [(.vec id31N 4 (s.2.2.2.2.2.1).length), (.vec id31F 1 (s.2.2.2.2.2.2.1).length), (.vec id31L 1 (s.2.2.2.2.2.2.2.1).length), (.vec id31C 1 (s.2.2.2.2.2.2.2.2.1).length), (eI s.2.2.2.2.1.free), (eI s.2.2.2.2.1.clock)]), (id31N, (cL e_lists_link s.2.2.2.2.2.1)), (id31F, (cL eI s.2.2.2.2.2.2.1)), (id31L, (cL eI s.2.2.2.2.2.2.2.1)), (id31C, (cL eI s.2.2.2.2.2.2.2.2.1)), (id31H, (cL eI s.2.2.2.2.2.2.2.2.2.1)), (id31X, (cL eI s.2.2.2.2.2.2.2.2.2.2.1)), (id31G, (cL e_aEn s.2.2.2.2.2.2.2.2.2.2.2))] [] τ) ⟨(wc (wc (wc (wc (wc (wc (wc (wkf_nil _)))))))), hH⟩ ?_
       rintro ⟨c103, c104, c105, c106, c107, c108, c109, c110, c111, c112, c113, c114⟩ fr τ y118 ⟨hfr, hH⟩ hb120 hy121
       have H123 : L11_RamDoes_b1 x0 x1 x2 v84 c103 c104 c105 c106 c107 c108 c109 c110 c111 c112 c113 c114 = some y118 := hb120
       unfold L11_RamDoes_b1 at H123
       refine AWP.fm [(0, (eI x0)), (1, ((eL 7 e_L11_Op) x1)), (5, (.fptr (c_aEn x2) 0)), (7, (.ref id31 0)), (9, (.ref id85 0)), (10, (eI v84.2)), (11, (eI c103))] hfr ?_
       have hH : Holds σ [(id85, (c_R11_Ram c104)), (id31, [(.ref id31B 0), (.ref id31I 0), (.vec id31H 1 (c112).length), (.vec id31X 1 (c113).length), (.vec id31G 5 (c114).length), (eI c105.count)]), (id31B, (c_slab_Budget c106)), (id31I, [(.vec id31N 4 (c108).length), (.vec id31F 1 (c109).length), (.vec id31L 1 (c110).length), (.vec id31C 1 (c111).length), (eI c107.free), (eI c107.clock)]), (id31N, (cL e_lists_link c108)), (id31F, (cL eI c109)), (id31L, (cL eI c110)), (id31C, (cL eI c111)), (id31H, (cL eI c112)), (id31X, (cL eI c113)), (id31G, (cL e_aEn c114))] [] τ := hH
       refine awp_seq (awp_seq ?_)
       obtain ⟨s124, hs126, hj127⟩ := ob H123
       refine awp_cutn (fun fr τ => WkF fr (fm [(0, (eI x0)), (1, ((eL 7 e_L11_Op) x1)), (5, (.fptr (c_aEn x2) 0)), (7, (.ref id31 0)), (9, (.ref id85 0)), (10, (eI v84.2)), (11, (eI c103)), (59, (eB s124))]) ∧ Holds σ [(id85, (c_R11_Ram c104)), (id31, [(.ref id31B 0), (.ref id31I 0), (.vec id31H 1 (c112).length), (.vec id31X 1 (c113).length), (.vec id31G 5 (c114).length), (eI c105.count)]), (id31B, (c_slab_Budget c106)), (id31I, [(.vec id31N 4 (c108).length), (.vec id31F 1 (c109).length), (.vec id31L 1 (c110).length), (.vec id31C 1 (c111).length), (eI c107.free), (eI c107.clock)]), (id31N, (cL e_lists_link c108)), (id31F, (cL eI c109)), (id31L, (cL eI c110)), (id31C, (cL eI c111)), (id31H, (cL eI c112)), (id31X, (cL eI c113)), (id31G, (cL e_aEn c114))] [] τ) ?_ ?_
       ·rintro fr τ ⟨hfr, hH⟩
        have H135 := hj127
        refine AWP.fm [(0, (eI x0)), (1, ((eL 7 e_L11_Op) x1)), (5, (.fptr (c_aEn x2) 0)), (7, (.ref id31 0)), (9, (.ref id85 0)), (10, (eI v84.2)), (11, (eI c103)), (59, (eB s124))] hfr ?_
        refine awp_if H135 rfl (fun H136 => ?_) (fun H136 => ?_)
        ·refine awp_skip (awp_seq (awp_block (awp_seq ?_)))
         obtain ⟨v138, hv139, H137⟩ := ob H136
         obtain ⟨v141, hv142, H140⟩ := ob H137
         refine awp_drawU mixed hH 11 [1, 6, 10] [(.p, fun _ => (.ref id31 0)), (.r, fun _ => (e_R11_Ram c104)), (.p, fun _ => ((eL 7 e_L11_Op) x1)), (.p, fun _ => (eI c103)), (.p, fun _ => (.fptr (c_L11_Op v138) 0)), (.p, fun _ => (e_L11_Op v138)), (.t (fun _ => ([(id85, (c_R11_Ram c104)), (id31, [(.ref id31B 0), (.ref id31I 0), (.vec id31H 1 (v141.2.2.heads).length), (.vec id31X 1 (v141.2.2.next_).length), (.vec id31G 5 (v141.2.2.things).length), (eI v141.2.2.count)]), (id31B, (c_slab_Budget v141.2.2.budget)), (id31I, [(.vec id31N 4 (v141.2.2.lists.nodes).length), (.vec id31F 1 (v141.2.2.lists.first_).length), (.vec id31L 1 (v141.2.2.lists.last_).length), (.vec id31C 1 (v141.2.2.lists.count).length), (eI v141.2.2.lists.free), (eI v141.2.2.lists.clock)]), (id31N, (cL e_lists_link v141.2.2.lists.nodes)), (id31F, (cL eI v141.2.2.lists.first_)), (id31L, (cL eI v141.2.2.lists.last_)), (id31C, (cL eI v141.2.2.lists.count)), (id31H, (cL eI v141.2.2.heads)), (id31X, (cL eI v141.2.2.next_)), (id31G, (cL e_aEn v141.2.2.things))], [])), fun _ => (.tup [(e_R11_Ram v141.1), (eB v141.2.1)])), (.p, fun _ => (.tup [(e_R11_Ram v141.1), (eB v141.2.1)])), (.p, fun _ => (e_R11_Ram v141.1)), (.p, fun _ => (eB v141.2.1)), (.a [(eI z_R11_Ram.Limit), AV.nils], fun id => .ref id 0)] [6, 11] rfl rfl rfl (by decide +kernel) rfl rfl rfl (by decide +kernel) rfl ?_
         refine wpdU_mv rfl rfl (o_mv tk rfl (Wk.refl _)) ?_
         refine wpdU_rd (by decide +kernel) rfl rfl (fun X σ1 hH => (h_ld tk hH 0 rfl rfl rfl)) ?_
         refine wpdU_mv rfl rfl (o_mv tk rfl (Wk.refl _)) ?_
         refine wpdU_mv rfl rfl (o_mv tk rfl (Wk.refl _)) ?_
         refine wpdU_mv rfl rfl (o_ixa tk hv139 td22 enc44 rfl rfl) ?_
         refine wpdU_mv rfl rfl (o_ld_e tk enc44 rfl rfl) ?_
         refine wpdU_t rfl (by decide +kernel) rfl rfl (fun X σ1 hH => h_call1 hH [(1, (id31, [(.ref id31B 0), (.ref id31I 0), (.vec id31H 1 (v141.2.2.heads).length), (.vec id31X 1 (v141.2.2.next_).length), (.vec id31G 5 (v141.2.2.things).length), (eI v141.2.2.count)])), (2, (id31B, (c_slab_Budget v141.2.2.budget))), (3, (id31I, [(.vec id31N 4 (v141.2.2.lists.nodes).length), (.vec id31F 1 (v141.2.2.lists.first_).length), (.vec id31L 1 (v141.2.2.lists.last_).length), (.vec id31C 1 (v141.2.2.lists.count).length), (eI v141.2.2.lists.free), (eI v141.2.2.lists.clock)])), (4, (id31N, (cL e_lists_link v141.2.2.lists.nodes))), (5, (id31F, (cL eI v141.2.2.lists.first_))), (6, (id31L, (cL eI v141.2.2.lists.last_))), (7, (id31C, (cL eI v141.2.2.lists.count))), (8, (id31H, (cL eI v141.2.2.heads))), (9, (id31X, (cL eI v141.2.2.next_))), (10, (id31G, (cL e_aEn v141.2.2.things)))] ⟨⟨_, rfl⟩, ⟨⟨_, rfl⟩, ⟨⟨_, rfl⟩, ⟨⟨_, rfl⟩, ⟨⟨_, rfl⟩, ⟨⟨_, rfl⟩, ⟨⟨_, rfl⟩, ⟨⟨_, rfl⟩, ⟨⟨_, rfl⟩, ⟨⟨_, rfl⟩, trivial⟩⟩⟩⟩⟩⟩⟩⟩⟩⟩ rfl rfl (.cons wr (.cons wr (.cons wr .nil))) (L11_do_ok hv142 _ (hH.at_ 1 rfl) (hH.at_ 2 rfl) (hH.at_ 3 rfl) (hH.at_ 4 rfl) (hH.at_ 5 rfl) (hH.at_ 6 rfl) (hH.at_ 7 rfl) (hH.at_ 8 rfl) (hH.at_ 9 rfl) (hH.at_ 10 rfl) (hH.pw [1, 2, 3, 4, 5, 6, 7, 8, 9, 10] rfl (by decide)) (hH.gl.trans hg))) ?_
         refine wpdU_mv rfl rfl (o_mv tk rfl (Wk.refl _)) ?_
         refine wpdU_mv rfl rfl (o_ext tk rfl rfl) ?_
         refine wpdU_mv rfl rfl (o_ext tk rfl rfl) ?_
         refine wpdU_a rfl rfl (fun σ1 O1 A1 hH => (h_alloc tk hH ty37 [(eI z_R11_Ram.Limit), AV.nils] rfl)) fun id143 n144 => ?_
         refine wpdU_nil fun τ hH => ?_
         have hH : Holds σ [(id143, [(eI z_R11_Ram.Limit), AV.nils]), (id85, (c_R11_Ram c104)), (id31, [(.ref id31B 0), (.ref id31I 0), (.vec id31H 1 (v141.2.2.heads).length), (.vec id31X 1 (v141.2.2.next_).length), (.vec id31G 5 (v141.2.2.things).length), (eI v141.2.2.count)]), (id31B, (c_slab_Budget v141.2.2.budget)), (id31I, [(.vec id31N 4 (v141.2.2.lists.nodes).length), (.vec id31F 1 (v141.2.2.lists.first_).length), (.vec id31L 1 (v141.2.2.lists.last_).length), (.vec id31C 1 (v141.2.2.lists.count).length), (eI v141.2.2.lists.free), (eI v141.2.2.lists.clock)]), (id31N, (cL e_lists_link v141.2.2.lists.nodes)), (id31F, (cL eI v141.2.2.lists.first_)), (id31L, (cL eI v141.2.2.lists.last_)), (id31C, (cL eI v141.2.2.lists.count)), (id31H, (cL eI v141.2.2.heads)), (id31X, (cL eI v141.2.2.next_)), (id31G, (cL e_aEn v141.2.2.things))] [] τ := hH
         refine wpdS_z rfl rfl rfl (h_st tk hH 0 rfl ty37 (by simp) rfl rfl wr (b := (e_R11_Ram v141.1)) (enc37.flat _) rfl (nb rfl) (c_R11_Ram (v141.1 : R11_Ram)) rfl) fun τ hH => ?_
         refine wpdS_mv (a := (eB v141.2.1)) rfl rfl rfl (o_as tk rfl (Wk.refl _)) (wpdS_nil (sr rfl (wpo_rd (a := (e_R11_Ram (v141.1 : R11_Ram))) rfl rfl rfl (h_ld tk hH 0 rfl rfl rfl) ?_)))
         obtain ⟨c147, hc148, H146⟩ := lt_ex H140
         refine wpo_z rfl rfl (h_st tk hH 1 rfl ty37 (by simp) rfl rfl wr (b := (e_R11_Ram (v141.1 : R11_Ram))) (enc37.flat _) rfl (nb rfl) (c_R11_Ram c147) (by rw [← hc148]; rfl)) fun τ hH => ?_
         refine wpo_nil (awp_seq ?_)
         obtain ⟨s149, hs151, hj152⟩ := ob H146
         refine awp_cutn (fun fr τ => WkF fr (fm [(0, (eI x0)), (1, ((eL 7 e_L11_Op) x1)), (5, (.fptr (c_aEn x2) 0)), (7, (.ref id31 0)), (9, (.ref id85 0)), (10, (eI v84.2)), (11, (eI c103)), (112, (eB s149))]) ∧ Holds σ [(id143, (c_R11_Ram (v141.1 : R11_Ram))), (id85, (c_R11_Ram c147)), (id31, [(.ref id31B 0), (.ref id31I 0), (.vec id31H 1 (v141.2.2.heads).length), (.vec id31X 1 (v141.2.2.next_).length), (.vec id31G 5 (v141.2.2.things).length), (eI v141.2.2.count)]), (id31B, (c_slab_Budget v141.2.2.budget)), (id31I, [(.vec id31N 4 (v141.2.2.lists.nodes).length), (.vec id31F 1 (v141.2.2.lists.first_).length), (.vec id31L 1 (v141.2.2.lists.last_).length), (.vec id31C 1 (v141.2.2.lists.count).length), (eI v141.2.2.lists.free), (eI v141.2.2.lists.clock)]), (id31N, (cL e_lists_link v141.2.2.lists.nodes)), (id31F, (cL eI v141.2.2.lists.first_)), (id31L, (cL eI v141.2.2.lists.last_)), (id31C, (cL eI v141.2.2.lists.count)), (id31H, (cL eI v141.2.2.heads)), (id31X, (cL eI v141.2.2.next_)), (id31G, (cL e_aEn v141.2.2.things))] [] τ) ?_ ?_
         ·rintro fr τ ⟨hfr, hH⟩
          have H190 := hj152
          refine AWP.fm [(0, (eI x0)), (1, ((eL 7 e_L11_Op) x1)), (5, (.fptr (c_aEn x2) 0)), (7, (.ref id31 0)), (9, (.ref id85 0)), (10, (eI v84.2)), (11, (eI c103)), (112, (eB s149))] hfr ?_
          refine awp_if H190 rfl (fun H191 => ?_) (fun H191 => ?_)
          ·refine sr rfl (ma tk (eB false) rfl rfl (wpo_nil (awp_ret ?_)))
           have hz := hy121 _ (inj_inr H191)
           refine ⟨⟨_, inj_inr H191⟩, ?_⟩
           rw [← hz] at hj117
           have H192 := (show some _ = some _ from hj117)
           obtain rfl := oi H192
           exact ⟨_, (eB false), rfl, wr, .of_eq ((enc_b td4 sz4).cut _ _ _), ((((((((((((hH.noT.drop n144).drop n86).drop n32).drop n32_1).drop n32_2).drop n32_3).drop n32_4).drop n32_5).drop n32_6).drop n32_7).drop n32_8).drop n32_9)⟩
          ·refine awp_skip (awp_region rfl (mm tk (eI c103) rfl rfl ?_))
           refine l_ H191 eI rfl (o_ar tk rfl rfl rfl) fun v194 H193 => ?_
           refine ma tk (eI v194) rfl rfl (wpo_nil ?_)
           exact ⟨(v194, c147, v141.2.2, v141.2.2.budget, v141.2.2.lists, v141.2.2.lists.nodes, v141.2.2.lists.first_, v141.2.2.lists.last_, v141.2.2.lists.count, v141.2.2.heads, v141.2.2.next_, v141.2.2.things), inj_inl H193, (wc (wc (wc (wc (wc (wc (wc (wkf_nil _)))))))), (hH.drop n144)⟩
         ·refine awp_drawS mixed [] rfl (by decide +kernel) rfl rfl ?_
          refine wpdS_mv (a := (eB v141.2.1)) rfl rfl rfl (o_mv tk rfl (Wk.refl _)) ?_
          refine wpdS_lt hs151 eB rfl rfl rfl (o_un tk rfl rfl) fun v154 H153 => ?_
          refine wpdS_mv (a := (eB v154)) rfl rfl rfl (o_mv tk rfl (Wk.refl _)) ?_
          refine if_split H153 (fun hb H155 => ?_) (fun hb H155 => ?_)
          ·subst hb
           refine wpdS_skip rfl rfl rfl (wpdS_skip rfl rfl rfl (wpdS_skip rfl rfl rfl (wpdS_skip rfl rfl rfl (wpdS_skip rfl rfl rfl (wpdS_skip rfl rfl rfl (wpdS_mv (a := (eB true)) rfl rfl rfl (o_pick_t tk rfl rfl (Wk.refl _)) (wpdS_mv (a := (eB true)) rfl rfl rfl (o_mv tk rfl (Wk.refl _)) (wpdS_skip rfl rfl rfl ?_))))))))
           refine wpdS_skip rfl rfl rfl (wpdS_skip rfl rfl rfl (wpdS_skip rfl rfl rfl (wpdS_skip rfl rfl rfl (wpdS_mv (a := (eB true)) rfl rfl rfl (o_pick_t tk rfl rfl (Wk.refl _)) (wpdS_mv (a := (eB true)) rfl rfl rfl (o_mv tk rfl (Wk.refl _)) (wpdS_skip rfl rfl rfl (wpdS_skip rfl rfl rfl (wpdS_skip rfl rfl rfl ?_))))))))
           refine wpdS_skip rfl rfl rfl (wpdS_mv (a := (eB true)) rfl rfl rfl (o_pick_t tk rfl rfl (Wk.refl _)) (wpdS_mv (a := (eB true)) rfl rfl rfl (o_mv tk rfl (Wk.refl _)) (wpdS_skip rfl rfl rfl (wpdS_skip rfl rfl rfl (wpdS_skip rfl rfl rfl (wpdS_skip rfl rfl rfl (wpdS_skip rfl rfl rfl (wpdS_skip rfl rfl rfl ?_))))))))
           refine wpdS_skip rfl rfl rfl (wpdS_mv (a := (eB true)) rfl rfl rfl (o_pick_t tk rfl rfl (Wk.refl _)) (wpdS_mv (a := (eB true)) rfl rfl rfl (o_mv tk rfl (Wk.refl _)) (wpdS_skip rfl rfl rfl (wpdS_skip rfl rfl rfl (wpdS_skip rfl rfl rfl (wpdS_skip rfl rfl rfl (wpdS_skip rfl rfl rfl (wpdS_skip rfl rfl rfl ?_))))))))
           refine wpdS_mv (a := (eB true)) rfl rfl rfl (o_pick_t tk rfl rfl (Wk.refl _)) (wpdS_nil ?_)
           have e := oi H155
           subst e
           exact ⟨(wc (wc (wc (wc (wc (wc (wc (wc (wkf_nil _))))))))), hH⟩
          ·subst hb
           refine wpdS_mv (a := (.ref id31 0)) rfl rfl rfl (o_mv tk rfl (Wk.refl _)) ?_
           refine wpdS_bdr H155 eI rfl (by decide +kernel) rfl rfl (fun v157 hv => h_callr rfl rfl (.cons wr .nil) (ram_Ram_Len_ok hv _ (hH.at_ 2 rfl) (hH.at_ 3 rfl) (hH.at_ 4 rfl) (hH.at_ 5 rfl) (hH.at_ 6 rfl) (hH.at_ 7 rfl) (hH.at_ 8 rfl) (hH.at_ 9 rfl) (hH.at_ 10 rfl) (hH.at_ 11 rfl) (hH.pw [2, 3, 4, 5, 6, 7, 8, 9, 10, 11] rfl (by decide)))) fun v157 hv157 H156 => ?_
           refine wpdS_mv (a := (.ref id85 1)) rfl rfl rfl (o_c tk false rfl (fun _ => rfl)) (wpdS_rd (a := ((eL 5 e_aEn) c147.L)) rfl (by decide +kernel) rfl rfl (h_ld tk hH 1 rfl rfl rfl) ?_)
           refine wpdS_lt H156 eI rfl rfl rfl (o_len tk td35 rfl) fun v159 H158 => ?_
           refine wpdS_lt H158 eB rfl rfl rfl (o_ar tk rfl rfl rfl) fun v161 H160 => ?_
           refine wpdS_mv (a := (eB v161)) rfl rfl rfl (o_pick_f tk rfl rfl (Wk.refl _)) (wpdS_mv (a := (eB v161)) rfl rfl rfl (o_mv tk rfl (Wk.refl _)) ?_)
           refine if_split H160 (fun hb H162 => ?_) (fun hb H162 => ?_)
           ·subst hb
            refine wpdS_skip rfl rfl rfl (wpdS_skip rfl rfl rfl (wpdS_skip rfl rfl rfl (wpdS_skip rfl rfl rfl (wpdS_skip rfl rfl rfl (wpdS_mv (a := (eB true)) rfl rfl rfl (o_pick_t tk rfl rfl (Wk.refl _)) (wpdS_mv (a := (eB true)) rfl rfl rfl (o_mv tk rfl (Wk.refl _)) (wpdS_skip rfl rfl rfl (wpdS_skip rfl rfl rfl ?_))))))))
            refine wpdS_skip rfl rfl rfl (wpdS_skip rfl rfl rfl (wpdS_mv (a := (eB true)) rfl rfl rfl (o_pick_t tk rfl rfl (Wk.refl _)) (wpdS_mv (a := (eB true)) rfl rfl rfl (o_mv tk rfl (Wk.refl _)) (wpdS_skip rfl rfl rfl (wpdS_skip rfl rfl rfl (wpdS_skip rfl rfl rfl (wpdS_skip rfl rfl rfl (wpdS_skip rfl rfl rfl ?_))))))))
            refine wpdS_skip rfl rfl rfl (wpdS_skip rfl rfl rfl (wpdS_mv (a := (eB true)) rfl rfl rfl (o_pick_t tk rfl rfl (Wk.refl _)) (wpdS_mv (a := (eB true)) rfl rfl rfl (o_mv tk rfl (Wk.refl _)) (wpdS_skip rfl rfl rfl (wpdS_skip rfl rfl rfl (wpdS_skip rfl rfl rfl (wpdS_skip rfl rfl rfl (wpdS_skip rfl rfl rfl ?_))))))))
            refine wpdS_skip rfl rfl rfl (wpdS_mv (a := (eB true)) rfl rfl rfl (o_pick_t tk rfl rfl (Wk.refl _)) (wpdS_nil ?_))
            have e := oi H162
            subst e
            exact ⟨(wc (wc (wc (wc (wc (wc (wc (wc (wkf_nil _))))))))), hH⟩
           ·subst hb
            refine wpdS_mv (a := (.ref id31 0)) rfl rfl rfl (o_mv tk rfl (Wk.refl _)) ?_
            refine wpdS_bdr H162 eI rfl (by decide +kernel) rfl rfl (fun v164 hv => h_callr rfl rfl (.cons wr .nil) (ram_Ram_Used_ok hv _ (hH.at_ 2 rfl) (hH.at_ 3 rfl) (hH.at_ 4 rfl) (hH.at_ 5 rfl) (hH.at_ 6 rfl) (hH.at_ 7 rfl) (hH.at_ 8 rfl) (hH.at_ 9 rfl) (hH.at_ 10 rfl) (hH.at_ 11 rfl) (hH.pw [2, 3, 4, 5, 6, 7, 8, 9, 10, 11] rfl (by decide)))) fun v164 hv164 H163 => ?_
            refine wpdS_rd (a := (e_R11_Ram c147)) rfl (by decide +kernel) rfl rfl (h_ld tk hH 1 rfl rfl rfl) ?_
            refine wpdS_bd H163 eI rfl rfl rfl (fun v166 hv => OpP.of_call rfl rfl (.cons wr .nil) (R11_Used_ok hv)) fun v166 hv166 H165 => ?_
            refine wpdS_lt H165 eB rfl rfl rfl (o_ar tk rfl rfl rfl) fun v168 H167 => ?_
            refine wpdS_mv (a := (eB v168)) rfl rfl rfl (o_pick_f tk rfl rfl (Wk.refl _)) (wpdS_mv (a := (eB v168)) rfl rfl rfl (o_mv tk rfl (Wk.refl _)) ?_)
            refine if_split H167 (fun hb H169 => ?_) (fun hb H169 => ?_)
            ·subst hb
             refine wpdS_skip rfl rfl rfl (wpdS_skip rfl rfl rfl (wpdS_skip rfl rfl rfl (wpdS_skip rfl rfl rfl (wpdS_mv (a := (eB true)) rfl rfl rfl (o_pick_t tk rfl rfl (Wk.refl _)) (wpdS_mv (a := (eB true)) rfl rfl rfl (o_mv tk rfl (Wk.refl _)) (wpdS_skip rfl rfl rfl (wpdS_skip rfl rfl rfl (wpdS_skip rfl rfl rfl ?_))))))))
             refine wpdS_skip rfl rfl rfl (wpdS_skip rfl rfl rfl (wpdS_skip rfl rfl rfl (wpdS_skip rfl rfl rfl (wpdS_mv (a := (eB true)) rfl rfl rfl (o_pick_t tk rfl rfl (Wk.refl _)) (wpdS_mv (a := (eB true)) rfl rfl rfl (o_mv tk rfl (Wk.refl _)) (wpdS_skip rfl rfl rfl (wpdS_skip rfl rfl rfl (wpdS_skip rfl rfl rfl ?_))))))))
             refine wpdS_skip rfl rfl rfl (wpdS_skip rfl rfl rfl (wpdS_skip rfl rfl rfl (wpdS_mv (a := (eB true)) rfl rfl rfl (o_pick_t tk rfl rfl (Wk.refl _)) (wpdS_nil ?_))))
             have e := oi H169
             subst e
             exact ⟨(wc (wc (wc (wc (wc (wc (wc (wc (wkf_nil _))))))))), hH⟩
            ·subst hb
             refine wpdS_mv (a := (.ref id31 0)) rfl rfl rfl (o_mv tk rfl (Wk.refl _)) ?_
             refine wpdS_bdr H169 eI rfl (by decide +kernel) rfl rfl (fun v171 hv => h_callr rfl rfl (.cons wr .nil) (ram_Ram_Limit_ok hv _ (hH.at_ 2 rfl) (hH.at_ 3 rfl) (hH.at_ 4 rfl) (hH.at_ 5 rfl) (hH.at_ 6 rfl) (hH.at_ 7 rfl) (hH.at_ 8 rfl) (hH.at_ 9 rfl) (hH.at_ 10 rfl) (hH.at_ 11 rfl) (hH.pw [2, 3, 4, 5, 6, 7, 8, 9, 10, 11] rfl (by decide)))) fun v171 hv171 H170 => ?_
             refine wpdS_mv (a := (eI x0)) rfl rfl rfl (o_mv tk rfl (Wk.refl _)) ?_
             refine wpdS_lt H170 eB rfl rfl rfl (o_ar tk rfl rfl rfl) fun v173 H172 => ?_
             refine wpdS_mv (a := (eB v173)) rfl rfl rfl (o_pick_f tk rfl rfl (Wk.refl _)) (wpdS_mv (a := (eB v173)) rfl rfl rfl (o_mv tk rfl (Wk.refl _)) ?_)
             refine if_split H172 (fun hb H174 => ?_) (fun hb H174 => ?_)
             ·subst hb
              refine wpdS_skip rfl rfl rfl (wpdS_skip rfl rfl rfl (wpdS_skip rfl rfl rfl (wpdS_skip rfl rfl rfl (wpdS_skip rfl rfl rfl (wpdS_skip rfl rfl rfl (wpdS_skip rfl rfl rfl (wpdS_mv (a := (eB true)) rfl rfl rfl (o_pick_t tk rfl rfl (Wk.refl _)) (wpdS_mv (a := (eB true)) rfl rfl rfl (o_mv tk rfl (Wk.refl _)) ?_))))))))
              refine wpdS_skip rfl rfl rfl (wpdS_skip rfl rfl rfl (wpdS_skip rfl rfl rfl (wpdS_skip rfl rfl rfl (wpdS_skip rfl rfl rfl (wpdS_skip rfl rfl rfl (wpdS_mv (a := (eB true)) rfl rfl rfl (o_pick_t tk rfl rfl (Wk.refl _)) (wpdS_nil ?_)))))))
              have e := oi H174
              subst e
              exact ⟨(wc (wc (wc (wc (wc (wc (wc (wc (wkf_nil _))))))))), hH⟩
             ·subst hb
              refine wpdS_mv (a := (.ref id31 0)) rfl rfl rfl (o_mv tk rfl (Wk.refl _)) (wpdS_mv (a := (e_aEn x2)) rfl rfl rfl (o_ld tk rfl rfl) ?_)
              refine wpdS_bdr H174 eB rfl (by decide +kernel) rfl rfl (fun v176 hv => h_callr rfl rfl (.cons wr (.cons wr .nil)) (ram_Ram_Fits_ok hv _ (hH.at_ 2 rfl) (hH.at_ 3 rfl) (hH.at_ 4 rfl) (hH.at_ 5 rfl) (hH.at_ 6 rfl) (hH.at_ 7 rfl) (hH.at_ 8 rfl) (hH.at_ 9 rfl) (hH.at_ 10 rfl) (hH.at_ 11 rfl) (hH.pw [2, 3, 4, 5, 6, 7, 8, 9, 10, 11] rfl (by decide)))) fun v176 hv176 H175 => ?_
              refine wpdS_rd (a := (e_R11_Ram c147)) rfl (by decide +kernel) rfl rfl (h_ld tk hH 1 rfl rfl rfl) (wpdS_mv (a := (e_aEn x2)) rfl rfl rfl (o_ld tk rfl rfl) ?_)
              refine wpdS_bd H175 eB rfl rfl rfl (fun v178 hv => OpP.of_call rfl rfl (.cons wr (.cons wr .nil)) (R11_Fits_ok hv)) fun v178 hv178 H177 => ?_
              refine wpdS_lt H177 eB rfl rfl rfl (o_bool_neq tk td4 rfl rfl) fun v180 H179 => ?_
              refine wpdS_mv (a := (eB v180)) rfl rfl rfl (o_pick_f tk rfl rfl (Wk.refl _)) (wpdS_mv (a := (eB v180)) rfl rfl rfl (o_mv tk rfl (Wk.refl _)) ?_)
              refine if_split H179 (fun hb H181 => ?_) (fun hb H181 => ?_)
              ·subst hb
               refine wpdS_skip rfl rfl rfl (wpdS_skip rfl rfl rfl (wpdS_skip rfl rfl rfl (wpdS_skip rfl rfl rfl (wpdS_skip rfl rfl rfl (wpdS_skip rfl rfl rfl (wpdS_mv (a := (eB true)) rfl rfl rfl (o_pick_t tk rfl rfl (Wk.refl _)) (wpdS_nil ?_)))))))
               have e := oi H181
               subst e
               exact ⟨(wc (wc (wc (wc (wc (wc (wc (wc (wkf_nil _))))))))), hH⟩
              ·subst hb
               refine wpdS_mv (a := (.ref id31 0)) rfl rfl rfl (o_mv tk rfl (Wk.refl _)) ?_
               refine wpdS_bdr H181 (eL 5 e_aEn) rfl (by decide +kernel) rfl rfl (fun v183 hv => h_callr rfl rfl (.cons wr .nil) (ram_Ram_All_ok hv _ (hH.at_ 2 rfl) (hH.at_ 3 rfl) (hH.at_ 4 rfl) (hH.at_ 5 rfl) (hH.at_ 6 rfl) (hH.at_ 7 rfl) (hH.at_ 8 rfl) (hH.at_ 9 rfl) (hH.at_ 10 rfl) (hH.at_ 11 rfl) (hH.pw [2, 3, 4, 5, 6, 7, 8, 9, 10, 11] rfl (by decide)))) fun v183 hv183 H182 => ?_
               refine wpdS_rd (a := (e_R11_Ram c147)) rfl (by decide +kernel) rfl rfl (h_ld tk hH 1 rfl rfl rfl) ?_
               refine wpdS_bd H182 (eL 5 e_aEn) rfl rfl rfl (fun v185 hv => OpP.of_call rfl rfl (.cons wr .nil) (R11_All_ok hv)) fun v185 hv185 H184 => ?_
               refine wpdS_bd H184 eB rfl rfl rfl (fun v187 hv => OpP.of_call rfl rfl (.cons wr (.cons wr .nil)) (R06_SameAll_ok hv)) fun v187 hv187 H186 => ?_
               refine wpdS_lt H186 eB rfl rfl rfl (o_un tk rfl rfl) fun v189 H188 => ?_
               refine wpdS_mv (a := (eB v189)) rfl rfl rfl (o_pick_f tk rfl rfl (Wk.refl _)) (wpdS_nil ?_)
               have e := oi H188
               subst e
               exact ⟨(wc (wc (wc (wc (wc (wc (wc (wc (wkf_nil _))))))))), hH⟩
        ·refine awp_exit ?_
         have hz := hy121 _ (inj_inr H136)
         exact ⟨⟨_, inj_inr H136⟩, (c104, c105, c106, c107, c108, c109, c110, c111, c112, c113, c114), hz.symm, (wkf_nil _), hH⟩
       ·refine awp_region rfl (mm tk (eI c103) rfl rfl (mm tk ((eL 7 e_L11_Op) x1) rfl rfl ?_))
        refine l_ hs126 eI rfl (o_len tk td22 rfl) fun v129 H128 => ?_
        refine l_ H128 eB rfl (o_ar tk rfl rfl rfl) fun v131 H130 => ?_
        refine mm tk (eB v131) rfl rfl ?_
        refine if_split H130 (fun hb H132 => ?_) (fun hb H132 => ?_)
        ·subst hb
         refine mm tk (eI v84.2) rfl rfl ?_
         refine l_ H132 eB rfl (o_ar tk rfl rfl rfl) fun v134 H133 => ?_
         refine pt tk (eB v134) rfl rfl rfl (wpo_nil ?_)
         have e := oi H133
         subst e
         exact ⟨(wc (wc (wc (wc (wc (wc (wc (wc (wkf_nil _))))))))), hH⟩
        ·subst hb
         refine k_ rfl (k_ rfl (pf tk (eB false) rfl rfl rfl (wpo_nil ?_)))
         have e := oi H132
         subst e
         exact ⟨(wc (wc (wc (wc (wc (wc (wc (wc (wkf_nil _))))))))), hH⟩
    ·refine awp_region rfl (mm tk (eErr v29.2) rfl rfl ?_)
     refine wpo_bdr hs90 eI rfl rfl rfl (fun v93 hv => h_callr rfl rfl (.cons wr .nil) (trouble_Of_ok hv _ (hH.gl.trans hg))) fun v93 hv93 H92 => ?_
     refine mm tk (eI v84.2) rfl rfl ?_
     refine l_ H92 eB rfl (o_ar tk rfl rfl rfl) fun v95 H94 => ?_
     refine mm tk (eB v95) rfl rfl ?_
     refine if_split H94 (fun hb H96 => ?_) (fun hb H96 => ?_)
     ·subst hb
      refine k_ rfl (k_ rfl (k_ rfl (k_ rfl (k_ rfl (pt tk (eB true) rfl rfl rfl (wpo_nil ?_))))))
      have e := oi H96
      subst e
      exact ⟨(wc (wc (wc (wc (wc (wc (wc (wkf_nil _)))))))), hH⟩
     ·subst hb
      refine mm tk (.ref id31 0) rfl rfl (mc tk (eB false) rfl rfl (fun _ => rfl) (mm tk (eI v84.2) rfl rfl ?_))
      refine l_ H96 eB rfl (o_ar tk rfl rfl rfl) fun v98 H97 => ?_
      refine l_ H97 eB rfl (o_bool_neq tk td4 rfl rfl) fun v100 H99 => ?_
      refine pf tk (eB v100) rfl rfl rfl (wpo_nil ?_)
      have e := oi H99
      subst e
      exact ⟨(wc (wc (wc (wc (wc (wc (wc (wkf_nil _)))))))), hH⟩
 ·refine awp_region rfl (mm tk ((eL 7 e_L11_Op) x1) rfl rfl ?_)
  refine b_ hs3 eB rfl (fun v6 hv => OpP.of_call rfl rfl (.cons wr .nil) (L11_light_ok hv)) fun v6 hv6 H5 => ?_
  refine l_ H5 eB rfl (o_un tk rfl rfl) fun v8 H7 => ?_
  refine mm tk (eB v8) rfl rfl ?_
  refine if_split H7 (fun hb H9 => ?_) (fun hb H9 => ?_)
  ·subst hb
   refine k_ rfl (k_ rfl (k_ rfl (k_ rfl (k_ rfl (k_ rfl (pt tk (eB true) rfl rfl rfl (mm tk (eB true) rfl rfl (k_ rfl ?_))))))))
   refine k_ rfl (k_ rfl (pt tk (eB true) rfl rfl rfl (wpo_nil ?_)))
   have e := oi H9
   subst e
   exact ⟨(wc (wc (wc (wc (wkf_nil _))))), hH⟩
  ·subst hb
   refine mm tk (eI x0) rfl rfl ?_
   refine l_ H9 eB rfl (o_ar tk rfl rfl rfl) fun v11 H10 => ?_
   refine mm tk (eB v11) rfl rfl ?_
   refine if_split H10 (fun hb H12 => ?_) (fun hb H12 => ?_)
   ·subst hb
    refine mm tk (eI x0) rfl rfl ?_
    refine l_ H12 eB rfl (o_ar tk rfl rfl rfl) fun v14 H13 => ?_
    refine pt tk (eB v14) rfl rfl rfl (pf tk (eB v14) rfl rfl rfl (mm tk (eB v14) rfl rfl ?_))
    refine if_split H13 (fun hb H15 => ?_) (fun hb H15 => ?_)
    ·subst hb
     refine k_ rfl (k_ rfl (k_ rfl (pt tk (eB true) rfl rfl rfl (wpo_nil ?_))))
     have e := oi H15
     subst e
     exact ⟨(wc (wc (wc (wc (wkf_nil _))))), hH⟩
    ·subst hb
     refine m_ (e_aEn x2) rfl (o_ld tk rfl rfl) ?_
     refine b_ H15 eI rfl (fun v17 hv => OpP.of_call rfl rfl (.cons wr .nil) (R06_Check_ok hv)) fun v17 hv17 H16 => ?_
     refine l_ H16 eB rfl (o_ar tk rfl rfl rfl) fun v19 H18 => ?_
     refine pf tk (eB v19) rfl rfl rfl (wpo_nil ?_)
     have e := oi H18
     subst e
     exact ⟨(wc (wc (wc (wc (wkf_nil _))))), hH⟩
   ·subst hb
    refine k_ rfl (k_ rfl (pf tk (eB false) rfl rfl rfl (pf tk (eB false) rfl rfl rfl (mm tk (eB false) rfl rfl (m_ (e_aEn x2) rfl (o_ld tk rfl rfl) ?_)))))
    refine b_ H12 eI rfl (fun v21 hv => OpP.of_call rfl rfl (.cons wr .nil) (R06_Check_ok hv)) fun v21 hv21 H20 => ?_
    refine l_ H20 eB rfl (o_ar tk rfl rfl rfl) fun v23 H22 => ?_
    refine pf tk (eB v23) rfl rfl rfl (wpo_nil ?_)
    have e := oi H22
    subst e
    exact ⟨(wc (wc (wc (wc (wkf_nil _))))), hH⟩
end Go.Proofs.YtggeboakilalhaaGreatDoor
namespace Go.Va
open Go
set_option linter.unusedVariables false
set_option linter.unusedSimpArgs false
theorem shr64_nat {n m : Nat} (h : m ≤ 64) : shr64 (n : Int) m = ((n / 2 ^ m : Nat) : Int) := by
  unfold shr64
  rw [Nat.min_eq_left h]
  have : (2 : Int) ^ m = ((2 ^ m : Nat) : Int) := by simp
  rw [this, Int.fdiv_eq_ediv_of_nonneg _ (Int.natCast_nonneg _), ← Int.natCast_ediv]
theorem quo64_nat {n m : Nat} (h : n < 9223372036854775808) : quo64 (n : Int) (m : Int) = ((n / m : Nat) : Int) := by
  unfold quo64
  have := Nat.div_le_self n m
  rw [Int.tdiv_eq_ediv_of_nonneg (Int.natCast_nonneg _), ← Int.natCast_ediv]
  generalize n / m = q at *
  exact w64_eq (by omega) (by omega)
theorem tmod_nat (n m : Nat) : Int.tmod (n : Int) (m : Int) = ((n % m : Nat) : Int) := by
  rw [Int.tmod_eq_emod_of_nonneg (Int.natCast_nonneg _)]; rfl
theorem byte_int (n : Nat) : BitVec.ofInt 8 (n : Int) = BitVec.ofNat 8 n := by
  apply BitVec.eq_of_toNat_eq
  simp [BitVec.toNat_ofInt]
def pre (m : Nat) : List (BitVec 8) := if m = 0 then [] else pre (m / 128) ++ [BitVec.ofNat 8 (m % 128 + 128)]
termination_by m
decreasing_by omega
def num7 (n : Nat) : List (BitVec 8) := pre (n / 128) ++ [BitVec.ofNat 8 (n % 128)]
theorem pre_zero : pre 0 = [] := by rw [pre]; rfl
theorem pre_pos {m : Nat} (h : 0 < m) : pre m = pre (m / 128) ++ [BitVec.ofNat 8 (m % 128 + 128)] := by
  rw [pre, if_neg (by omega)]
theorem pre_len : ∀ (k m : Nat), m < 128 ^ k → (pre m).length ≤ k
  | 0, m, h => by
    have : m = 0 := by simpa using h
    subst this; rw [pre_zero]; simp
  | k + 1, m, h => by
    by_cases h0 : m = 0
    · subst h0; rw [pre_zero]; simp
    · rw [pre_pos (by omega)]
      have := pre_len k (m / 128) (by rw [Nat.div_lt_iff_lt_mul (by decide)]; rw [Nat.pow_succ] at h; exact h)
      simp; exact this
theorem num7_len {n : Nat} (h : n < 9223372036854775808) : (num7 n).length ≤ 9 := by
  have := pre_len 8 (n / 128) (by omega)
  simp [num7]; omega
theorem num7_small {n : Nat} (h : n < 128) : num7 n = [BitVec.ofNat 8 n] := by
  rw [num7, show n / 128 = 0 by omega, pre_zero, Nat.mod_eq_of_lt h]; rfl
def nlen (n : Nat) : Nat := if n < 128 then 1 else nlen (n / 128) + 1
termination_by n
decreasing_by omega
theorem nlen_lt {n : Nat} (h : n < 128) : nlen n = 1 := by rw [nlen, if_pos h]
theorem nlen_ge {n : Nat} (h : 128 ≤ n) : nlen n = nlen (n / 128) + 1 := by rw [nlen, if_neg (by omega)]
end Go.Va
namespace Go.Proofs.YtggeboakilalhaaGreatDoor
open Go Go.Va
set_option linter.unusedVariables false
set_option linter.unusedSimpArgs false
theorem same_eq (x y : List (BitVec 8)) (hx : x.length < 9223372036854775807) : R02_Same x y = some (decide (x = y)) := by
  unfold R02_Same
  simp only [lt_eq]
  by_cases hl : x.length = y.length
  · rw [if_neg (by simp [hl])]
    have h := loopO_find (body := fun s => R02_Same_b0 x y s) (fun i : Nat => (i : Int)) x.length (fun i => if x[i]? ≠ y[i]? then some (Sum.inr false) else none) (x := .inl ()) (fun i hi => by
      simp only [R02_Same_b0, lt_eq, ix_nat hi, ix_nat (show i < y.length by omega), Option.bind_some]
      rw [if_pos (by simpa using hi)]
      by_cases he : x[i] = y[i]
      · rw [if_neg (by simp [he]), if_neg (by simp [hi, show i < y.length by omega, he]), w64_nat (by omega)]; rfl
      · rw [if_pos (by simpa using he), if_pos (by simp [hi, show i < y.length by omega, he])]; rfl) (by simp [R02_Same_b0, lt_eq])
    rw [show ((0 : Nat) : Int) = 0 from rfl] at h
    simp only [R02_Same_l0, h, Option.bind_some]
    by_cases he : x = y
    · rw [List.findSome?_eq_none_iff.2 (fun i _ => by rw [if_neg (by simp [he])])]
      simp [he]
    · cases hf : (List.range x.length).findSome? (fun i => if x[i]? ≠ y[i]? then some (Sum.inr (α := Unit) false) else none) with
      | none =>
        refine absurd (List.ext_getElem? fun i => ?_) he
        have h1 := List.findSome?_eq_none_iff.1 hf
        rcases Nat.lt_or_ge i x.length with hi | hi
        · have := h1 i (by simpa using hi)
          by_cases hne : x[i]? = y[i]?
          · exact hne
          · rw [if_pos hne] at this; cases this
        · rw [List.getElem?_eq_none hi, List.getElem?_eq_none (by omega)]
      | some w =>
        obtain ⟨i, _, h2⟩ := List.exists_of_findSome?_eq_some hf
        split at h2
        · cases h2; simp [he]
        · cases h2
  · rw [if_pos (by simpa using fun e => hl (by exact_mod_cast e))]
    rw [decide_eq_false (fun e => hl (by rw [e]))]
theorem refnum_l : ∀ (k m : Nat) (out : List (BitVec 8)), m < 128 ^ k → m < 9223372036854775808 → out.length + k ≤ 1000 → R02_num_l0 (out, (m : Int)) = some (pre m ++ out)
  | 0, m, out, h, h2, hl => by
    have : m = 0 := by simpa using h
    subst this
    rw [pre_zero]
    exact loopO_out (by simp [R02_num_b0, lt_eq])
  | k + 1, m, out, h, h2, hl => by
    by_cases h0 : m = 0
    · subst h0
      rw [pre_zero]
      exact loopO_out (by simp [R02_num_b0, lt_eq])
    · have hb : R02_num_b0 out (m : Int) = some (.inl (BitVec.ofNat 8 (m % 128 + 128) :: out, ((m / 128 : Nat) : Int))) := by
        simp only [R02_num_b0, lt_eq]
        rw [if_pos (by simp; omega)]
        have e1 : Int.tmod (m : Int) 128 = ((m % 128 : Nat) : Int) := tmod_nat m 128
        have e2 : quo64 (m : Int) 128 = ((m / 128 : Nat) : Int) := quo64_nat h2
        rw [e1, e2, w64_eq (by omega) (by omega), app_eq (by simp; omega)]
        rw [show (((m % 128 : Nat) : Int) + 128) = ((m % 128 + 128 : Nat) : Int) by omega, byte_int]
        rfl
      have := loopO_in (body := fun s => R02_num_b0 s.1 s.2) (s := (out, (m : Int))) hb
      rw [R02_num_l0, this]
      have ih := refnum_l k (m / 128) (BitVec.ofNat 8 (m % 128 + 128) :: out) (by rw [Nat.div_lt_iff_lt_mul (by decide)]; rw [Nat.pow_succ] at h; exact h) (by omega) (by simp; omega)
      rw [R02_num_l0] at ih
      rw [ih, pre_pos (m := m) (by omega)]
      simp
theorem refnum_eq {n : Nat} (h : n < 9223372036854775808) : R02_num (n : Int) = some (num7 n) := by
  simp only [R02_num, lt_eq]
  have e1 : Int.tmod (n : Int) 128 = ((n % 128 : Nat) : Int) := tmod_nat n 128
  have e2 : quo64 (n : Int) 128 = ((n / 128 : Nat) : Int) := quo64_nat h
  rw [e1, e2, byte_int, refnum_l 9 (n / 128) _ (by omega) (by omega) (by simp)]
  rfl
def nums (l : List Int) : List (BitVec 8) := l.flatMap fun n => num7 n.toNat
def okN (l : List Int) : Prop := l.length ≤ 1000 ∧ ∀ n ∈ l, 0 ≤ n ∧ n ≤ 9223372036854775807
theorem nums_len : ∀ {l : List Int}, (∀ n ∈ l, 0 ≤ n ∧ n ≤ 9223372036854775807) → (nums l).length ≤ 9 * l.length
  | [], _ => Nat.le_refl _
  | n :: l, h => by
    have h1 := nums_len (l := l) (fun m hm => h m (List.mem_cons_of_mem _ hm))
    have h2 := h n List.mem_cons_self
    have h3 := num7_len (n := n.toNat) (by omega)
    simp only [nums, List.flatMap_cons, List.length_append, List.length_cons] at h1 ⊢
    omega
theorem nums_snoc (l : List Int) (n : Int) : nums (l ++ [n]) = nums l ++ num7 n.toNat := by simp [nums]
theorem refPut_eq (b : List (BitVec 8)) {l : List Int} (hb : b.length ≤ 1000000) (hl : okN l) : R02_Put b l = some (b ++ nums l) := by
  simp only [R02_Put]
  rw [app_eq (by simp; omega)]
  simp only [List.nil_append, Option.bind_some]
  have h := loopO_up (body := fun s => R02_Put_b0 l s.1 s.2) (fun i => (b ++ nums (l.take i), (i : Int))) l.length (x := b ++ nums l) (fun i hi => by
    obtain ⟨hn0, hn1⟩ := hl.2 _ (List.getElem_mem hi)
    have hn : R02_num l[i] = some (num7 l[i].toNat) := by
      have := refnum_eq (n := l[i].toNat) (by omega)
      rwa [Int.toNat_of_nonneg hn0] at this
    have h1 := nums_len (l := l.take i) (fun m hm => hl.2 m (List.mem_of_mem_take hm))
    have h2 := num7_len (n := l[i].toNat) (by omega)
    have h3 := hl.1
    simp only [List.length_take] at h1
    simp only [R02_Put_b0, lt_eq, ix_nat hi, Option.bind_some, hn]
    rw [if_pos (by simpa using hi), app_eq (by simp only [List.length_append]; omega), w64_nat (by omega)]
    simp only [Option.bind_some]
    rw [List.take_succ_eq_append_getElem hi, nums_snoc, List.append_assoc]) (by simp [R02_Put_b0, lt_eq])
  simp only [R02_Put_l0]
  have h0 : b ++ nums (l.take 0) = b := by simp [nums]
  rw [h0] at h
  rw [show ((0 : Nat) : Int) = 0 from rfl] at h
  rw [h]; rfl
theorem okN_one {n : Nat} (h : n < 9223372036854775808) : okN [(n : Int)] := ⟨by simp, fun m hm => by simp at hm; omega⟩
theorem refBytes_eq (b t : List (BitVec 8)) (hb : b.length ≤ 1000000) (ht : t.length ≤ 1000000) : R02_Bytes b t = some (b ++ num7 t.length ++ t) := by
  have h2 := num7_len (n := t.length) (by omega)
  simp only [R02_Bytes, lt_eq, refPut_eq b hb (okN_one (n := t.length) (by omega)), Option.bind_some, nums, List.flatMap_cons, List.flatMap_nil, List.append_nil, Int.toNat_natCast]
  rw [app_eq (by simp only [List.length_append]; omega)]; rfl
theorem shr35 {n : Nat} : shr64 (n : Int) 35 = ((n / 34359738368 : Nat) : Int) := by rw [shr64_nat (by omega)]
theorem octLen_n {n : Nat} (h : n < 9223372036854775808) : ∀ k, octets_Len_n (k + 3) (n : Int) = some (nlen n : Int) := by
  have hs : ∀ (rec : Int → Option Int) {n : Nat}, n < 34359738368 → octets_Len_F rec (n : Int) = some (nlen n : Int) := by
    intro rec n hn
    simp only [octets_Len_F, lt_eq]
    rw [if_neg (by rw [decide_eq_false (by omega)]; simp)]
    by_cases h4 : 268435456 ≤ n
    · rw [if_pos (decide_eq_true (by omega)), nlen_ge (by omega), nlen_ge (by omega), nlen_ge (by omega), nlen_ge (by omega), nlen_lt (by omega)]; rfl
    rw [if_neg (by rw [decide_eq_false (by omega)]; simp)]
    by_cases h3 : 2097152 ≤ n
    · rw [if_pos (decide_eq_true (by omega)), nlen_ge (by omega), nlen_ge (by omega), nlen_ge (by omega), nlen_lt (by omega)]; rfl
    rw [if_neg (by rw [decide_eq_false (by omega)]; simp)]
    by_cases h2 : 16384 ≤ n
    · rw [if_pos (decide_eq_true (by omega)), nlen_ge (by omega), nlen_ge (by omega), nlen_lt (by omega)]; rfl
    rw [if_neg (by rw [decide_eq_false (by omega)]; simp)]
    by_cases h1 : 128 ≤ n
    · rw [if_pos (decide_eq_true (by omega)), nlen_ge (by omega), nlen_lt (by omega)]; rfl
    rw [if_neg (by rw [decide_eq_false (by omega)]; simp), nlen_lt (by omega)]; rfl
  intro k
  by_cases hn : n < 34359738368
  · exact hs (octets_Len_n (k + 2)) hn
  · show octets_Len_F (octets_Len_n (k + 2)) (n : Int) = _
    simp only [octets_Len_F, lt_eq]
    rw [if_pos (decide_eq_true (by omega)), shr35]
    have : octets_Len_n (k + 2) ((n / 34359738368 : Nat) : Int) = _ := hs (octets_Len_n (k + 1)) (by omega)
    rw [this, Option.bind_some]
    have hq : nlen n = nlen (n / 34359738368) + 5 := by
      rw [nlen_ge (n := n) (by omega), nlen_ge (n := n / 128) (by omega), nlen_ge (n := n / 128 / 128) (by omega), nlen_ge (n := n / 128 / 128 / 128) (by omega), nlen_ge (n := n / 128 / 128 / 128 / 128) (by omega)]
      rw [show n / 128 / 128 / 128 / 128 / 128 = n / 34359738368 by omega]
    have hb : nlen (n / 34359738368) ≤ 10 := by
      have : n / 34359738368 < 268435456 := by omega
      generalize n / 34359738368 = m at this
      rcases Nat.lt_or_ge m 128 with h1 | h1
      · rw [nlen_lt h1]; omega
      rw [nlen_ge h1]
      rcases Nat.lt_or_ge (m / 128) 128 with h2 | h2
      · rw [nlen_lt h2]; omega
      rw [nlen_ge h2]
      rcases Nat.lt_or_ge (m / 128 / 128) 128 with h3 | h3
      · rw [nlen_lt h3]; omega
      rw [nlen_ge h3, nlen_lt (by omega)]; omega
    rw [w64_eq (by omega) (by omega), hq]
    congr 1; omega
theorem octLen_eq {n : Nat} (h : n < 9223372036854775808) : octets_Len (n : Int) = some (nlen n : Int) := octLen_n h 999997
theorem key_eq (x : List (BitVec 8)) : octets_Key x = R02_Key x := by
  simp only [octets_Key, R02_Key, lt_eq]
  cases x with
  | nil => rfl
  | cons a x => rw [if_neg (show ¬ ((((a :: x).length : Int) == 0) = true) by simp; omega), if_neg (show ¬ ((a :: x == []) = true) by simp)]
def ckK (k : List (BitVec 8)) : Int := if k.length = 0 then 1 else if 40 < k.length then 3 else 0
def ckE (x : aEn) : Int :=
  if ckK x.Key ≠ 0 then ckK x.Key else
  if (x.Version < 1 ∨ x.Version > 1099511627776) ∨ (x.AsOf < x.Version ∨ x.AsOf > 1099511627776) ∨ (x.Ends < 0 ∨ x.Ends > 1099511627776) then 2 else
  if 4096 < x.Value.length then 3 else 0
theorem octKey_eq (k : List (BitVec 8)) : octets_Key k = some (ckK k) := by
  unfold octets_Key ckK
  simp only [lt_eq]
  by_cases h0 : k.length = 0
  · rw [if_pos h0, if_pos (by simp [h0])]
  · rw [if_neg h0, if_neg (by simp; intro h; subst h; simp at h0)]
    by_cases h1 : 40 < k.length
    · rw [if_pos h1, if_pos (decide_eq_true (by omega))]
    · rw [if_neg h1, if_neg (by rw [decide_eq_false (by omega)]; simp)]
theorem refKey_eq (k : List (BitVec 8)) : R02_Key k = some (ckK k) := by rw [← key_eq, octKey_eq]
theorem new_eq (op : List (BitVec 8)) (n c : Int) (hc : c ≠ 0) : trouble_New op n c = some (.fault op n c .nil) := by
  simp [trouble_New, lt_eq, hc]
theorem wrap_eq (op : List (BitVec 8)) (n : Int) (e : Err) (he : e.isNil = false) : trouble_Wrap op n e = some (.fault op n 0 e) := by
  simp [trouble_Wrap, lt_eq, he]
theorem num_ck (op : List (BitVec 8)) (n low : Int) (e : Err) : ∃ e', item_Check_1_c op n low e = some e' ∧ (e.isNil = false → e' = e) ∧ (e = .nil → (n < low ∨ n > 1099511627776) → ∃ o a, e' = .fault o a 2 .nil) ∧ (e = .nil → ¬ (n < low ∨ n > 1099511627776) → e' = .nil) := by
  unfold item_Check_1_c
  simp only [lt_eq]
  cases e with
  | fault o a c u => exact ⟨_, rfl, fun _ => rfl, (fun h => by cases h), (fun h => by cases h)⟩
  | nil =>
    simp only [Err.isNil, if_true]
    by_cases h1 : n < low
    · rw [if_pos (decide_eq_true h1)]
      exact ⟨_, rfl, (fun h => by cases h), fun _ _ => ⟨_, _, rfl⟩, fun _ h => absurd (.inl h1) h⟩
    · rw [if_neg (by rw [decide_eq_false h1]; simp)]
      by_cases h2 : n > 1099511627776
      · rw [decide_eq_true h2]
        exact ⟨_, rfl, (fun h => by cases h), fun _ _ => ⟨_, _, rfl⟩, fun _ h => absurd (.inr h2) h⟩
      · rw [decide_eq_false h2]
        exact ⟨_, rfl, (fun h => by cases h), fun _ h => absurd h (by omega), fun _ _ => rfl⟩
theorem check_eq (x : aEn) : ∃ e, item_Check x = some e ∧ codeOf e = ckE x ∧ e.isNil = decide (ckE x = 0) := by
  unfold item_Check ckE
  rw [octKey_eq]
  simp only [Option.bind_some, lt_eq]
  by_cases hk : ckK x.Key = 0
  · rw [if_neg (show ¬ ((ckK x.Key != 0) = true) by simpa using hk), if_neg (show ¬ (ckK x.Key ≠ 0) by simpa using hk)]
    obtain ⟨e1, a1, a2, a3, a4⟩ := num_ck [118#8, 101#8, 114#8, 115#8, 105#8, 111#8, 110#8] x.Version 1 .nil
    obtain ⟨e2, b1, b2, b3, b4⟩ := num_ck [97#8, 115#8, 111#8, 102#8] x.AsOf x.Version e1
    obtain ⟨e3, c1, c2, c3, c4⟩ := num_ck [101#8, 110#8, 100#8, 115#8] x.Ends 0 e2
    simp only [a1, b1, c1, Option.bind_some]
    by_cases h : (x.Version < 1 ∨ x.Version > 1099511627776) ∨ (x.AsOf < x.Version ∨ x.AsOf > 1099511627776) ∨ (x.Ends < 0 ∨ x.Ends > 1099511627776)
    · rw [if_pos h]
      have key : ∃ o a, e3 = .fault o a 2 .nil := by
        by_cases h1 : x.Version < 1 ∨ x.Version > 1099511627776
        · obtain ⟨o, a, rfl⟩ := a3 rfl h1
          have := b2 rfl; subst this
          have := c2 rfl; subst this
          exact ⟨o, a, rfl⟩
        · have := a4 rfl h1; subst this
          by_cases h2 : x.AsOf < x.Version ∨ x.AsOf > 1099511627776
          · obtain ⟨o, a, rfl⟩ := b3 rfl h2
            have := c2 rfl; subst this
            exact ⟨o, a, rfl⟩
          · have := b4 rfl h2; subst this
            have h3 : x.Ends < 0 ∨ x.Ends > 1099511627776 := by
              rcases h with h | h | h
              · exact absurd h h1
              · exact absurd h h2
              · exact h
            exact c3 rfl h3
      obtain ⟨o, a, rfl⟩ := key
      exact ⟨_, rfl, rfl, rfl⟩
    · rw [if_neg h]
      simp only [not_or] at h
      have := a4 rfl (by omega); subst this
      have := b4 rfl (by omega); subst this
      have := c4 rfl (by omega); subst this
      simp only [Err.isNil, if_true, Option.bind_some]
      by_cases hv : 4096 < x.Value.length
      · rw [if_pos (decide_eq_true (by omega)), if_pos hv, new_eq _ _ _ (by decide)]
        exact ⟨_, rfl, rfl, rfl⟩
      · rw [if_neg (by rw [decide_eq_false (by omega)]; simp), if_neg hv]
        exact ⟨_, rfl, rfl, rfl⟩
  · rw [if_pos (by simpa using hk), if_pos hk, new_eq _ _ _ hk]
    exact ⟨_, rfl, by simp [codeOf, hk], by simp [Err.isNil, hk]⟩
theorem refCheck_eq (x : aEn) : R06_Check x = some (ckE x) := by
  unfold R06_Check ckE
  rw [refKey_eq]
  simp only [Option.bind_some, lt_eq]
  by_cases hk : ckK x.Key = 0
  · rw [if_neg (show ¬ ((ckK x.Key != 0) = true) by simpa using hk), if_neg (show ¬ (ckK x.Key ≠ 0) by simpa using hk)]
    have hb : (if decide (x.Version < 1) = true then some true else if decide (x.Version > 1099511627776) = true then some true else if decide (x.AsOf < x.Version) = true then some true else if decide (x.AsOf > 1099511627776) = true then some true else if decide (x.Ends < 0) = true then some true else some (decide (x.Ends > 1099511627776))) = some (decide ((x.Version < 1 ∨ x.Version > 1099511627776) ∨ (x.AsOf < x.Version ∨ x.AsOf > 1099511627776) ∨ (x.Ends < 0 ∨ x.Ends > 1099511627776))) := by
      by_cases h1 : x.Version < 1
      · simp [h1]
      by_cases h2 : x.Version > 1099511627776
      · simp [h1, h2]
      by_cases h3 : x.AsOf < x.Version
      · simp [h1, h2, h3]
      by_cases h4 : x.AsOf > 1099511627776
      · simp [h1, h2, h3, h4]
      by_cases h5 : x.Ends < 0
      · simp [h1, h2, h3, h4, h5]
      · simp [h1, h2, h3, h4, h5]
    rw [hb]
    simp only [Option.bind_some, decide_eq_true_eq]
    split
    · rfl
    · by_cases hv : 4096 < x.Value.length
      · rw [if_pos (by omega), if_pos hv]
      · rw [if_neg (by omega), if_neg hv]
  · rw [if_pos (show (ckK x.Key != 0) = true by simpa using hk), if_pos (show ckK x.Key ≠ 0 from hk)]
theorem ck_ok {x : aEn} (h : ckE x = 0) : 1 ≤ x.Key.length ∧ x.Key.length ≤ 40 ∧ 1 ≤ x.Version ∧ x.Version ≤ 1099511627776 ∧ x.Version ≤ x.AsOf ∧ x.AsOf ≤ 1099511627776 ∧ 0 ≤ x.Ends ∧ x.Ends ≤ 1099511627776 ∧ x.Value.length ≤ 4096 := by
  unfold ckE ckK at h
  by_cases h1 : x.Key.length = 0
  · simp [h1] at h
  by_cases h2 : 40 < x.Key.length
  · simp [h1, h2] at h
  simp only [if_neg h1, if_neg h2] at h
  rw [if_neg (by simp)] at h
  by_cases h3 : (x.Version < 1 ∨ x.Version > 1099511627776) ∨ (x.AsOf < x.Version ∨ x.AsOf > 1099511627776) ∨ (x.Ends < 0 ∨ x.Ends > 1099511627776)
  · rw [if_pos h3] at h; cases h
  rw [if_neg h3] at h
  by_cases h4 : 4096 < x.Value.length
  · rw [if_pos h4] at h; cases h
  omega
def encE (x : aEn) : List (BitVec 8) := num7 x.Key.length ++ (x.Key ++ (num7 x.Version.toNat ++ (num7 x.AsOf.toNat ++ (num7 x.Ends.toNat ++ (num7 x.Value.length ++ x.Value)))))
theorem okN_ck {x : aEn} (h : ckE x = 0) : okN [x.Version, x.AsOf, x.Ends] := by
  obtain ⟨h1, h2, h3, h4, h5, h6, h7, h8, h9⟩ := ck_ok h
  refine ⟨by simp, fun n hn => ?_⟩
  simp only [List.mem_cons, List.not_mem_nil, or_false] at hn
  rcases hn with rfl | rfl | rfl <;> omega
theorem refPutE_eq {b : List (BitVec 8)} {x : aEn} (hb : b.length ≤ 900000) (h : ckE x = 0) : R06_Put b x = some (b ++ encE x) := by
  obtain ⟨h1, h2, h3, h4, h5, h6, h7, h8, h9⟩ := ck_ok h
  have a1 := num7_len (n := x.Key.length) (by omega)
  have a2 := num7_len (n := x.Version.toNat) (by omega)
  have a3 := num7_len (n := x.AsOf.toNat) (by omega)
  have a4 := num7_len (n := x.Ends.toNat) (by omega)
  unfold R06_Put
  rw [show toBytes x.Key = some x.Key by unfold toBytes; rw [if_pos (by omega)]]
  simp only [Option.bind_some, lt_eq]
  rw [refBytes_eq _ _ (by omega) (by omega)]
  simp only [Option.bind_some]
  rw [refPut_eq _ (by simp only [List.length_append]; omega) (okN_ck h)]
  simp only [Option.bind_some]
  rw [refBytes_eq _ _ (by simp only [List.length_append, nums, List.flatMap_cons, List.flatMap_nil, List.length_nil]; omega) (by omega)]
  simp [encE, nums]
theorem nlen_num7 : ∀ (k n : Nat), n < 128 ^ k → (num7 n).length = nlen n
  | 0, n, h => by
    have : n = 0 := by simpa using h
    subst this
    rw [num7_small (by omega), nlen_lt (by omega)]; rfl
  | k + 1, n, h => by
    by_cases h1 : n < 128
    · rw [num7_small h1, nlen_lt h1]; rfl
    · rw [nlen_ge (by omega), ← nlen_num7 k (n / 128) (by rw [Nat.div_lt_iff_lt_mul (by decide)]; rw [Nat.pow_succ] at h; exact h)]
      simp only [num7, List.length_append, List.length_cons, List.length_nil]
      rw [pre_pos (m := n / 128) (by omega)]
      simp
theorem nlen_eq {n : Nat} (h : n < 9223372036854775808) : (num7 n).length = nlen n := nlen_num7 9 n (by omega)
theorem size_eq6 {x : aEn} (h : ckE x = 0) : item_Size x = some ((encE x).length : Int) := by
  obtain ⟨h1, h2, h3, h4, h5, h6, h7, h8, h9⟩ := ck_ok h
  have a1 := num7_len (n := x.Key.length) (by omega)
  have a2 := num7_len (n := x.Version.toNat) (by omega)
  have a3 := num7_len (n := x.AsOf.toNat) (by omega)
  have a4 := num7_len (n := x.Ends.toNat) (by omega)
  have a5 := num7_len (n := x.Value.length) (by omega)
  have e2 : x.Version = (x.Version.toNat : Int) := by omega
  have e3 : x.AsOf = (x.AsOf.toNat : Int) := by omega
  have e4 : x.Ends = (x.Ends.toNat : Int) := by omega
  have hl : (encE x).length = (num7 x.Key.length).length + (x.Key.length + ((num7 x.Version.toNat).length + ((num7 x.AsOf.toNat).length + ((num7 x.Ends.toNat).length + ((num7 x.Value.length).length + x.Value.length))))) := by simp [encE]
  rw [hl]
  rw [nlen_eq (by omega), nlen_eq (by omega), nlen_eq (by omega), nlen_eq (by omega), nlen_eq (by omega)] at *
  unfold item_Size
  rw [e2, e3, e4]
  simp only [lt_eq, octLen_eq (n := x.Key.length) (by omega), octLen_eq (n := x.Value.length) (by omega), octLen_eq (n := x.Version.toNat) (by omega), octLen_eq (n := x.AsOf.toNat) (by omega), octLen_eq (n := x.Ends.toNat) (by omega), Option.bind_some, Int.toNat_natCast]
  generalize nlen x.Key.length = n1 at *
  generalize nlen x.Value.length = n2 at *
  generalize nlen x.Version.toNat = n3 at *
  generalize nlen x.AsOf.toNat = n4 at *
  generalize nlen x.Ends.toNat = n5 at *
  rw [w64_eq (n := (n1 : Int) + (x.Key.length : Int)) (by omega) (by omega), w64_eq (n := (n1 : Int) + (x.Key.length : Int) + (n2 : Int)) (by omega) (by omega), w64_eq (n := (n1 : Int) + (x.Key.length : Int) + (n2 : Int) + (x.Value.length : Int)) (by omega) (by omega)]
  rw [w64_eq (n := (n1 : Int) + (x.Key.length : Int) + (n2 : Int) + (x.Value.length : Int) + (n3 : Int)) (by omega) (by omega), w64_eq (n := (n1 : Int) + (x.Key.length : Int) + (n2 : Int) + (x.Value.length : Int) + (n3 : Int) + (n4 : Int)) (by omega) (by omega), w64_eq (n := (n1 : Int) + (x.Key.length : Int) + (n2 : Int) + (x.Value.length : Int) + (n3 : Int) + (n4 : Int) + (n5 : Int)) (by omega) (by omega)]
  congr 1
  omega
theorem refSize_eq6 {x : aEn} (h : ckE x = 0) : R06_Size x = some ((encE x).length : Int) := by
  unfold R06_Size
  rw [refPutE_eq (b := []) (by simp) h]
  simp [lt_eq]
def zeroE : aEn := ⟨[], 0, 0, 0, []⟩
theorem same_eq6 (x y : aEn) (hx : x.Value.length < 9223372036854775807) : R06_Same x y = some (decide (x = y)) := by
  obtain ⟨k, v, a, n, w⟩ := x
  obtain ⟨k', v', a', n', w'⟩ := y
  simp only at hx
  simp only [R06_Same, lt_eq, same_eq _ _ hx, Option.bind_some, beq_iff_eq, aEn.mk.injEq]
  by_cases h1 : k = k'
  · by_cases h2 : v = v'
    · by_cases h3 : a = a'
      · by_cases h4 : n = n'
        · simp [h1, h2, h3, h4]
        · simp [h1, h2, h3, h4]
      · simp [h1, h2, h3]
    · simp [h1, h2]
  · simp [h1]
theorem sameAll_refl {l : List aEn} (hl : l.length ≤ 1000000) (h : ∀ x ∈ l, x.Value.length < 9223372036854775807) : R06_SameAll l l = some true := by
  have k := loopO_up (body := fun s => R06_SameAll_b0 l l s) (fun i : Nat => (i : Int)) l.length (x := .inl ()) (fun i hi => by
    simp only [R06_SameAll_b0, lt_eq]
    rw [if_pos (decide_eq_true (by omega)), ix_nat hi]
    simp only [Option.bind_some]
    rw [same_eq6 _ _ (h _ (List.getElem_mem hi))]
    simp only [Option.bind_some, decide_true, Bool.not_true, Bool.false_eq_true, if_false]
    rw [w64_nat (by omega)]) (by
    simp only [R06_SameAll_b0, lt_eq]
    rw [if_neg (by rw [decide_eq_false (by omega)]; simp)])
  have k' : R06_SameAll_l0 l l 0 = some (.inl ()) := k
  simp only [R06_SameAll, lt_eq, bne_self_eq_false, Bool.false_eq_true, if_false, k', Option.bind_some, Sum.elim_inl]
theorem copy_eq6 {x : aEn} (h : x.Value.length ≤ 100000) : item_Copy x = some x := by
  unfold item_Copy
  rw [app_eq (by simp; omega)]
  simp [lt_eq]
theorem light_l {l : List aEn} (hl : l.length ≤ 40) : ∀ (k i : Nat) (n : Nat), k + i = l.length → n ≤ 12000 → ∃ y, L06_Light_l0 l ((n : Int), (i : Int)) = some y ∧ (y = .inr 1 ∨ (y = .inl () ∧ ∀ j, i ≤ j → (h : j < l.length) → l[j].Key.length ≤ 200 ∧ l[j].Value.length ≤ 5000))
  | 0, i, n, hk, hn => by
    refine ⟨.inl (), loopO_out ?_, .inr ⟨rfl, fun j h1 h2 => by omega⟩⟩
    simp only [L06_Light_b0, lt_eq]
    rw [if_neg (by rw [decide_eq_false (by omega)]; simp)]
  | k + 1, i, n, hk, hn => by
    have hi : i < l.length := by omega
    by_cases h1 : l[i].Key.length > 200
    · refine ⟨.inr 1, loopO_out ?_, .inl rfl⟩
      simp only [L06_Light_b0, lt_eq, ix_nat hi, Option.bind_some]
      rw [if_pos (decide_eq_true (by omega)), if_pos (decide_eq_true (by omega))]
      rfl
    · by_cases h2 : l[i].Value.length > 5000
      · refine ⟨.inr 1, loopO_out ?_, .inl rfl⟩
        simp only [L06_Light_b0, lt_eq, ix_nat hi, Option.bind_some]
        rw [if_pos (decide_eq_true (by omega)), if_neg (by rw [decide_eq_false (by omega)]; simp), decide_eq_true (by omega)]
        rfl
      · have hw : w64 ((n : Int) + (l[i].Value.length : Int)) = ((n + l[i].Value.length : Nat) : Int) := by rw [w64_eq (by omega) (by omega)]; omega
        by_cases h3 : n + l[i].Value.length > 12000
        · refine ⟨.inr 1, loopO_out ?_, .inl rfl⟩
          simp only [L06_Light_b0, lt_eq, ix_nat hi, Option.bind_some]
          rw [if_pos (decide_eq_true (by omega)), if_neg (by rw [decide_eq_false (by omega)]; simp), decide_eq_false (by omega)]
          simp only [Option.bind_some, Bool.false_eq_true, if_false, hw]
          rw [if_pos (decide_eq_true (by omega))]
        · obtain ⟨y, i1, i2⟩ := light_l hl k (i + 1) (n + l[i].Value.length) (by omega) (by omega)
          have e : L06_Light_l0 l ((n : Int), (i : Int)) = L06_Light_l0 l (((n + l[i].Value.length : Nat) : Int), ((i + 1 : Nat) : Int)) := by
            refine loopO_in (body := fun s => L06_Light_b0 l s.1 s.2) ?_
            simp only [L06_Light_b0, lt_eq, ix_nat hi, Option.bind_some]
            rw [if_pos (decide_eq_true (by omega)), if_neg (by rw [decide_eq_false (by omega)]; simp), decide_eq_false (by omega)]
            simp only [Option.bind_some, Bool.false_eq_true, if_false, hw]
            rw [if_neg (by rw [decide_eq_false (by omega)]; simp), w64_nat (by omega)]
          refine ⟨y, by rw [e]; exact i1, ?_⟩
          rcases i2 with rfl | ⟨rfl, i3⟩
          · exact .inl rfl
          · refine .inr ⟨rfl, fun j h4 h5 => ?_⟩
            by_cases hj : j = i
            · subst hj; omega
            · exact i3 j (by omega) h5
theorem light_eq (l : List aEn) : L06_Light l = some 1 ∨ (L06_Light l = some 0 ∧ l.length ≤ 40 ∧ ∀ x ∈ l, x.Key.length ≤ 200 ∧ x.Value.length ≤ 5000) := by
  unfold L06_Light
  simp only [lt_eq]
  by_cases h : l.length > 40
  · left; rw [if_pos (decide_eq_true (by omega))]
  · rw [if_neg (by rw [decide_eq_false (by omega)]; simp)]
    obtain ⟨y, h1, h2⟩ := light_l (l := l) (by omega) l.length 0 0 (by omega) (by omega)
    have h1' : L06_Light_l0 l (0, 0) = some y := h1
    rw [h1']
    rcases h2 with rfl | ⟨rfl, h3⟩
    · exact .inl rfl
    · refine .inr ⟨rfl, by omega, fun x hx => ?_⟩
      obtain ⟨j, hj, rfl⟩ := List.mem_iff_getElem.1 hx
      exact h3 j (by omega) hj
end Go.Proofs.YtggeboakilalhaaGreatDoor
