/- Nothing that has ended is got; behind a sweep there is nothing that has ended, and all else is as it was. (part 5 of 8) -/
import Derived.Test.YtggeboakilalhaaDoorKRamEnds4
import Derived.OrdersIn
import Derived.RangeFuncRecord
namespace Go.Proofs.YtggeboakilalhaaDoor
open Go Go.Va
set_option linter.unusedVariables false
set_option linter.unusedSimpArgs false
set_option maxRecDepth 20000
theorem R06_Find_ok {x0 : List aEn} {x1 : List (BitVec 8)} {r : Int} (H : R06_Find x0 x1 = some r) (σ : St)  : ACall Tryd.prog 15 [((eL 5 e_aEn) x0), (eS x1)] σ (fun a τ => a = eI r ∧ τ = σ) := by
 unfold R06_Find at H
 refine ACall.pure (acall_start tk Tryd.func15 (by decide) rfl (nb rfl) ?_)
 have hH := Holds.init σ
 refine sr rfl (ma tk (eI (0 : Int)) rfl rfl (wpo_nil (awp_seq (sr rfl (ma tk (eI (0 : Int)) rfl rfl (wpo_nil (awp_block ?_)))))))
 obtain ⟨o2, hs3, hj4⟩ := ob H
 refine awp_cutx 0 (fun fr τ => ∃ s9 : Unit, o2 = .inl s9 ∧ WkF fr (fm []) ∧ Holds σ [] [] τ) ?_ ?_
 ·rintro fr τ ⟨s9, rfl, hfr, hH⟩
  have H24 := hj4
  simp only [Sum.elim_inl] at H24
  refine AWP.fm [] hfr ?_
  refine sr rfl (ma tk (eI (-1 : Int)) rfl rfl (wpo_nil (awp_ret ?_)))
  obtain rfl := oi H24
  exact ⟨_, (eI (-1 : Int)), rfl, wr, .of_eq ((enc_i64 td3 sz3).cut _ _ _), hH.noT⟩
 ·refine awp_loopO (body := fun s => R06_Find_b0 x0 x1 s) hs3 (fun (s : Int) fr τ => WkF fr (fm [(0, ((eL 5 e_aEn) x0)), (1, (eS x1)), (5, (eI s))]) ∧ Holds σ [] [] τ) ⟨(wc (wc (wc (wkf_nil _)))), hH⟩ ?_
  rintro c1 fr τ y5 ⟨hfr, hH⟩ hb7 hy8
  have H10 : R06_Find_b0 x0 x1 c1 = some y5 := hb7
  unfold R06_Find_b0 at H10
  refine AWP.fm [(0, ((eL 5 e_aEn) x0)), (1, (eS x1)), (5, (eI c1))] hfr ?_
  have hH : Holds σ [] [] τ := hH
  refine awp_seq (sr rfl (mm tk (eI c1) rfl rfl (mm tk ((eL 5 e_aEn) x0) rfl rfl ?_)))
  refine l_ H10 eI rfl (o_len tk td31 rfl) fun v12 H11 => ?_
  refine l_ H11 eB rfl (o_ar tk rfl rfl rfl) fun v14 H13 => ?_
  refine wpo_nil ?_
  refine awp_if H13 rfl (fun H15 => ?_) (fun H15 => ?_)
  ·refine awp_skip (awp_seq (awp_block (sr rfl (mm tk ((eL 5 e_aEn) x0) rfl rfl (mm tk (eI c1) rfl rfl ?_)))))
   refine b_ H15 (fun y => .fptr (e_aEn y).cells 0) rfl (fun v17 hv => o_ixa tk hv td31 enc39 rfl rfl) fun v17 hv17 H16 => ?_
   refine mc tk (.fptr (c_aEn v17) 0) rfl rfl (fun _ => rfl) (m_ (eS v17.Key) rfl (o_ld tk rfl rfl) (mm tk (eS x1) rfl rfl ?_))
   refine l_ H16 eB rfl (o_eql_s tk rfl rfl) fun v19 H18 => ?_
   refine wpo_nil ?_
   refine awp_if H18 rfl (fun H20 => ?_) (fun H20 => ?_)
   ·refine sr rfl (mm tk (eI c1) rfl rfl (ma tk (eI c1) rfl rfl (wpo_nil (awp_ret ?_))))
    have hz := hy8 _ (inj_inr H20)
    refine ⟨⟨_, inj_inr H20⟩, ?_⟩
    rw [← hz] at hj4
    have H21 := (show some _ = some _ from hj4)
    obtain rfl := oi H21
    exact ⟨_, (eI c1), rfl, wr, .of_eq ((enc_i64 td3 sz3).cut _ _ _), hH.noT⟩
   ·refine awp_skip (awp_region rfl (mm tk (eI c1) rfl rfl ?_))
    refine l_ H20 eI rfl (o_ar tk rfl rfl rfl) fun v23 H22 => ?_
    refine ma tk (eI v23) rfl rfl (wpo_nil ?_)
    exact ⟨v23, inj_inl H22, (wc (wc (wc (wkf_nil _)))), hH⟩
  ·refine awp_exit ?_
   have hz := hy8 _ (inj_inr H15)
   exact ⟨⟨_, inj_inr H15⟩, (), hz.symm, (wkf_nil _), hH⟩
theorem R06_SameAll_ok {x0 : List aEn} {x1 : List aEn} {r : Bool} (H : R06_SameAll x0 x1 = some r) (σ : St)  : ACall Tryd.prog 21 [((eL 5 e_aEn) x0), ((eL 5 e_aEn) x1)] σ (fun a τ => a = eB r ∧ τ = σ) := by
 unfold R06_SameAll at H
 refine ACall.pure (acall_start tk Tryd.func21 (by decide) rfl (nb rfl) ?_)
 have hH := Holds.init σ
 refine sr rfl (ma tk (eB false) rfl rfl (wpo_nil (awp_seq (sr rfl (mm tk ((eL 5 e_aEn) x0) rfl rfl ?_)))))
 refine l_ H eI rfl (o_len tk td31 rfl) fun v2 H1 => ?_
 refine mm tk ((eL 5 e_aEn) x1) rfl rfl ?_
 refine l_ H1 eI rfl (o_len tk td31 rfl) fun v4 H3 => ?_
 refine l_ H3 eB rfl (o_ar tk rfl rfl rfl) fun v6 H5 => ?_
 refine wpo_nil ?_
 refine awp_if H5 rfl (fun H7 => ?_) (fun H7 => ?_)
 ·refine sr rfl (ma tk (eB false) rfl rfl (wpo_nil (awp_ret ?_)))
  obtain rfl := oi H7
  exact ⟨_, (eB false), rfl, wr, .of_eq ((enc_b td4 sz4).cut _ _ _), hH.noT⟩
 ·refine awp_skip (awp_seq (sr rfl (ma tk (eI (0 : Int)) rfl rfl (wpo_nil (awp_block ?_)))))
  obtain ⟨o9, hs10, hj11⟩ := ob H7
  refine awp_cutx 0 (fun fr τ => ∃ s16 : Unit, o9 = .inl s16 ∧ WkF fr (fm []) ∧ Holds σ [] [] τ) ?_ ?_
  ·rintro fr τ ⟨s16, rfl, hfr, hH⟩
   have H35 := hj11
   simp only [Sum.elim_inl] at H35
   refine AWP.fm [] hfr ?_
   refine sr rfl (ma tk (eB true) rfl rfl (wpo_nil (awp_ret ?_)))
   obtain rfl := oi H35
   exact ⟨_, (eB true), rfl, wr, .of_eq ((enc_b td4 sz4).cut _ _ _), hH.noT⟩
  ·refine awp_loopO (body := fun s => R06_SameAll_b0 x0 x1 s) hs10 (fun (s : Int) fr τ => WkF fr (fm [(0, ((eL 5 e_aEn) x0)), (1, ((eL 5 e_aEn) x1)), (5, (eI s))]) ∧ Holds σ [] [] τ) ⟨(wc (wc (wc (wkf_nil _)))), hH⟩ ?_
   rintro c8 fr τ y12 ⟨hfr, hH⟩ hb14 hy15
   have H17 : R06_SameAll_b0 x0 x1 c8 = some y12 := hb14
   unfold R06_SameAll_b0 at H17
   refine AWP.fm [(0, ((eL 5 e_aEn) x0)), (1, ((eL 5 e_aEn) x1)), (5, (eI c8))] hfr ?_
   have hH : Holds σ [] [] τ := hH
   refine awp_seq (sr rfl (mm tk (eI c8) rfl rfl (mm tk ((eL 5 e_aEn) x0) rfl rfl ?_)))
   refine l_ H17 eI rfl (o_len tk td31 rfl) fun v19 H18 => ?_
   refine l_ H18 eB rfl (o_ar tk rfl rfl rfl) fun v21 H20 => ?_
   refine wpo_nil ?_
   refine awp_if H20 rfl (fun H22 => ?_) (fun H22 => ?_)
   ·refine awp_skip (awp_seq (awp_block (awp_seq ?_)))
    refine awp_drawS mixed [] rfl (by decide +kernel) rfl rfl ?_
    refine wpdS_mv (a := ((eL 5 e_aEn) x0)) rfl rfl rfl (o_mv tk rfl (Wk.refl _)) (wpdS_mv (a := (eI c8)) rfl rfl rfl (o_mv tk rfl (Wk.refl _)) ?_)
    refine wpdS_bd H22 (fun y => .fptr (e_aEn y).cells 0) rfl rfl rfl (fun v24 hv => o_ixa tk hv td31 enc39 rfl rfl) fun v24 hv24 H23 => ?_
    refine wpdS_mv (a := (e_aEn v24)) rfl rfl rfl (o_ld_e tk enc39 rfl rfl) (wpdS_mv (a := ((eL 5 e_aEn) x1)) rfl rfl rfl (o_mv tk rfl (Wk.refl _)) (wpdS_mv (a := (eI c8)) rfl rfl rfl (o_mv tk rfl (Wk.refl _)) ?_))
    refine wpdS_bd H23 (fun y => .fptr (e_aEn y).cells 0) rfl rfl rfl (fun v26 hv => o_ixa tk hv td31 enc39 rfl rfl) fun v26 hv26 H25 => ?_
    refine wpdS_mv (a := (e_aEn v26)) rfl rfl rfl (o_ld_e tk enc39 rfl rfl) ?_
    refine wpdS_bd H25 eB rfl rfl rfl (fun v28 hv => OpP.of_call rfl rfl (.cons wr (.cons wr .nil)) (R06_Same_ok hv)) fun v28 hv28 H27 => ?_
    refine wpdS_lt H27 eB rfl rfl rfl (o_un tk rfl rfl) fun v30 H29 => ?_
    refine wpdS_nil ?_
    refine awp_if H29 rfl (fun H31 => ?_) (fun H31 => ?_)
    ·refine sr rfl (ma tk (eB false) rfl rfl (wpo_nil (awp_ret ?_)))
     have hz := hy15 _ (inj_inr H31)
     refine ⟨⟨_, inj_inr H31⟩, ?_⟩
     rw [← hz] at hj11
     have H32 := (show some _ = some _ from hj11)
     obtain rfl := oi H32
     exact ⟨_, (eB false), rfl, wr, .of_eq ((enc_b td4 sz4).cut _ _ _), hH.noT⟩
    ·refine awp_skip (awp_region rfl (mm tk (eI c8) rfl rfl ?_))
     refine l_ H31 eI rfl (o_ar tk rfl rfl rfl) fun v34 H33 => ?_
     refine ma tk (eI v34) rfl rfl (wpo_nil ?_)
     exact ⟨v34, inj_inl H33, (wc (wc (wc (wkf_nil _)))), hH⟩
   ·refine awp_exit ?_
    have hz := hy15 _ (inj_inr H22)
    exact ⟨⟨_, inj_inr H22⟩, (), hz.symm, (wkf_nil _), hH⟩
theorem lists_Lists_Touch_ok {x0 : lists_Lists} {x1 : Int} {r : Err × lists_Lists} (H : lists_Lists_Touch x0 x1 = some r) (σ : St) {p0 p0_nodes p0_first_ p0_last_ p0_count : Nat} (h0 : σ.objs[p0]? = some [(.vec p0_nodes 4 (x0.nodes).length), (.vec p0_first_ 1 (x0.first_).length), (.vec p0_last_ 1 (x0.last_).length), (.vec p0_count 1 (x0.count).length), (eI x0.free), (eI x0.clock)]) (h0_nodes : σ.objs[p0_nodes]? = some (cL e_lists_link x0.nodes)) (h0_first_ : σ.objs[p0_first_]? = some (cL eI x0.first_)) (h0_last_ : σ.objs[p0_last_]? = some (cL eI x0.last_)) (h0_count : σ.objs[p0_count]? = some (cL eI x0.count)) (hd : [p0, p0_nodes, p0_first_, p0_last_, p0_count].Pairwise fun a b => a ≠ b) : ACall Tryd.prog 56 [(.ref p0 0), (eI x1)] σ (fun a τ => a = eErr r.1 ∧ τ = σ.puts [(p0, [(.vec p0_nodes 4 (r.2.nodes).length), (.vec p0_first_ 1 (r.2.first_).length), (.vec p0_last_ 1 (r.2.last_).length), (.vec p0_count 1 (r.2.count).length), (eI r.2.free), (eI r.2.clock)]), (p0_nodes, (cL e_lists_link r.2.nodes)), (p0_first_, (cL eI r.2.first_)), (p0_last_, (cL eI r.2.last_)), (p0_count, (cL eI r.2.count))]) := by
 unfold lists_Lists_Touch at H
 refine ACall.outB [(p0, [(.vec p0_nodes 4 (r.2.nodes).length), (.vec p0_first_ 1 (r.2.first_).length), (.vec p0_last_ 1 (r.2.last_).length), (.vec p0_count 1 (r.2.count).length), (eI r.2.free), (eI r.2.clock)]), (p0_nodes, (cL e_lists_link r.2.nodes)), (p0_first_, (cL eI r.2.first_)), (p0_last_, (cL eI r.2.last_)), (p0_count, (cL eI r.2.count))] (by simp only [List.mem_cons, List.not_mem_nil, or_false]; rintro _ (rfl | rfl | rfl | rfl | rfl) <;> first | exact cut_cL enc106.cut _ _ _ | exact cut_cL (enc_i64 td3 sz3).cut _ _ _ | (simp only [cutL, cut_vec_id (idl_get h0_nodes), cut_vec_id (idl_get h0_first_), cut_vec_id (idl_get h0_last_), cut_vec_id (idl_get h0_count), (enc_i64 td3 sz3).cut _ _]; done)) (acall_start tk Tryd.func56 (by decide) rfl (nb rfl) ?_)
 have hH := Holds.brings (σ := σ) [(p0, [(.vec p0_nodes 4 (x0.nodes).length), (.vec p0_first_ 1 (x0.first_).length), (.vec p0_last_ 1 (x0.last_).length), (.vec p0_count 1 (x0.count).length), (eI x0.free), (eI x0.clock)]), (p0_nodes, (cL e_lists_link x0.nodes)), (p0_first_, (cL eI x0.first_)), (p0_last_, (cL eI x0.last_)), (p0_count, (cL eI x0.count))] (by simp only [List.mem_cons, List.not_mem_nil, or_false]; rintro _ (rfl | rfl | rfl | rfl | rfl) <;> assumption) hd
 refine sr rfl (ma tk (eErr Err.nil) rfl rfl (wpo_nil (awp_seq (sr rfl (mm tk (.ref p0 0) rfl rfl (mm tk (eI x1) rfl rfl ?_))))))
 refine wpo_bdr H eErr rfl rfl rfl (fun v2 hv => h_callr rfl rfl (.cons wr (.cons wr (.cons wr .nil))) (lists_Lists_at_ok hv _ (hH.at_ 0 rfl) (hH.at_ 1 rfl) (hH.at_ 2 rfl) (hH.at_ 3 rfl) (hH.at_ 4 rfl) (hH.pw [0, 1, 2, 3, 4] rfl (by decide)))) fun v2 hv2 H1 => ?_
 refine ma tk (eErr v2) rfl rfl (wpo_nil (sr rfl (mm tk (eErr v2) rfl rfl ?_)))
 refine l_ H1 eB rfl (o_err_neq tk rfl rfl rfl) fun v4 H3 => ?_
 refine wpo_nil ?_
 refine awp_if H3 rfl (fun H5 => ?_) (fun H5 => ?_)
 ·refine sr rfl (mm tk (eErr v2) rfl rfl (ma tk (eErr v2) rfl rfl (wpo_nil (awp_ret ?_))))
  obtain rfl := oi H5
  exact ⟨_, (eErr v2), rfl, wr, .of_eq (encErr.cut _ _ _), hH.noT⟩
 ·refine awp_skip (sr rfl (mm tk (.ref p0 0) rfl rfl (mc tk (.ref p0 0) rfl rfl (fun _ => rfl) (mc tk (.ref p0 0) rfl rfl (fun _ => rfl) (wpo_rd (a := (.vec p0_nodes 4 (x0.nodes).length)) rfl rfl rfl (h_ld tk hH 0 rfl rfl rfl) (mm tk (eI x1) rfl rfl ?_))))))
  refine b_ H5 (fun _ => .ref p0_nodes (0 + (x1 : Int).toNat * 4 + 0)) rfl (fun v7 hv => o_vecx tk hv td102 sz106 (by decide) rfl rfl) fun v7 hv7 H6 => ?_
  refine mc tk (.ref p0_nodes (0 + (x1 : Int).toNat * 4 + 2)) rfl rfl (fun _ => rfl) ?_
  refine wpo_bdr H6 (fun y => eI y.list) rfl rfl rfl (fun v9 hv => h_ldx tk hH 1 hv rfl enc106 rfl (by decide) rfl) fun v9 hv9 H8 => ?_
  refine ma tk (eI v9.list) rfl rfl (wpo_nil (sr rfl (mm tk (.ref p0 0) rfl rfl (mm tk (eI x1) rfl rfl ?_))))
  refine wpo_cb H8 (fun x _ => .tup []) rfl rfl rfl (fun v11 hv => h_call1 hH [(0, (p0, [(.vec p0_nodes 4 (v11.nodes).length), (.vec p0_first_ 1 (v11.first_).length), (.vec p0_last_ 1 (v11.last_).length), (.vec p0_count 1 (v11.count).length), (eI v11.free), (eI v11.clock)])), (1, (p0_nodes, (cL e_lists_link v11.nodes))), (2, (p0_first_, (cL eI v11.first_))), (3, (p0_last_, (cL eI v11.last_))), (4, (p0_count, (cL eI v11.count)))] ⟨⟨_, rfl⟩, ⟨⟨_, rfl⟩, ⟨⟨_, rfl⟩, ⟨⟨_, rfl⟩, ⟨⟨_, rfl⟩, trivial⟩⟩⟩⟩⟩ rfl rfl (.cons wr (.cons wr .nil)) (lists_Lists_pull_ok hv _ (hH.at_ 0 rfl) (hH.at_ 1 rfl) (hH.at_ 2 rfl) (hH.at_ 3 rfl) (hH.at_ 4 rfl) (hH.pw [0, 1, 2, 3, 4] rfl (by decide)))) fun v11 _ τ hv11 H10 (hH : Holds σ [(p0, [(.vec p0_nodes 4 (v11.nodes).length), (.vec p0_first_ 1 (v11.first_).length), (.vec p0_last_ 1 (v11.last_).length), (.vec p0_count 1 (v11.count).length), (eI v11.free), (eI v11.clock)]), (p0_nodes, (cL e_lists_link v11.nodes)), (p0_first_, (cL eI v11.first_)), (p0_last_, (cL eI v11.last_)), (p0_count, (cL eI v11.count))] [] τ) => ?_
  refine wpo_nil (sr rfl (mm tk (.ref p0 0) rfl rfl (mm tk (eI x1) rfl rfl (mm tk (eI v9.list) rfl rfl ?_))))
  refine wpo_cb H10 (fun x _ => .tup []) rfl rfl rfl (fun v13 hv => h_call1 hH [(0, (p0, [(.vec p0_nodes 4 (v13.nodes).length), (.vec p0_first_ 1 (v13.first_).length), (.vec p0_last_ 1 (v13.last_).length), (.vec p0_count 1 (v13.count).length), (eI v13.free), (eI v13.clock)])), (1, (p0_nodes, (cL e_lists_link v13.nodes))), (2, (p0_first_, (cL eI v13.first_))), (3, (p0_last_, (cL eI v13.last_))), (4, (p0_count, (cL eI v13.count)))] ⟨⟨_, rfl⟩, ⟨⟨_, rfl⟩, ⟨⟨_, rfl⟩, ⟨⟨_, rfl⟩, ⟨⟨_, rfl⟩, trivial⟩⟩⟩⟩⟩ rfl rfl (.cons wr (.cons wr (.cons wr .nil))) (lists_Lists_push_ok hv _ (hH.at_ 0 rfl) (hH.at_ 1 rfl) (hH.at_ 2 rfl) (hH.at_ 3 rfl) (hH.at_ 4 rfl) (hH.pw [0, 1, 2, 3, 4] rfl (by decide)))) fun v13 _ τ hv13 H12 (hH : Holds σ [(p0, [(.vec p0_nodes 4 (v13.nodes).length), (.vec p0_first_ 1 (v13.first_).length), (.vec p0_last_ 1 (v13.last_).length), (.vec p0_count 1 (v13.count).length), (eI v13.free), (eI v13.clock)]), (p0_nodes, (cL e_lists_link v13.nodes)), (p0_first_, (cL eI v13.first_)), (p0_last_, (cL eI v13.last_)), (p0_count, (cL eI v13.count))] [] τ) => ?_
  refine wpo_nil (sr rfl (ma tk (eErr Err.nil) rfl rfl (wpo_nil (awp_ret ?_))))
  obtain rfl := oi H12
  exact ⟨_, (eErr Err.nil), rfl, wr, .of_eq (encErr.cut _ _ _), hH.noT⟩
theorem ram_Ram_Get_ok {x0 : ram_Ram} {x1 : List (BitVec 8)} {x2 : Int} {r : aEn × Bool × ram_Ram} (H : ram_Ram_Get x0 x1 x2 = some r) (σ : St) {p0 p0B p0I p0N p0F p0L p0C p0H p0X p0G : Nat} (h0 : σ.objs[p0]? = some [(.ref p0B 0), (.ref p0I 0), (.vec p0H 1 (x0.heads).length), (.vec p0X 1 (x0.next_).length), (.vec p0G 5 (x0.things).length), (eI x0.count)]) (h0_budget : σ.objs[p0B]? = some (c_slab_Budget x0.budget)) (h0_lists : σ.objs[p0I]? = some [(.vec p0N 4 (x0.lists.nodes).length), (.vec p0F 1 (x0.lists.first_).length), (.vec p0L 1 (x0.lists.last_).length), (.vec p0C 1 (x0.lists.count).length), (eI x0.lists.free), (eI x0.lists.clock)]) (h0_lists_nodes : σ.objs[p0N]? = some (cL e_lists_link x0.lists.nodes)) (h0_lists_first_ : σ.objs[p0F]? = some (cL eI x0.lists.first_)) (h0_lists_last_ : σ.objs[p0L]? = some (cL eI x0.lists.last_)) (h0_lists_count : σ.objs[p0C]? = some (cL eI x0.lists.count)) (h0_heads : σ.objs[p0H]? = some (cL eI x0.heads)) (h0_next_ : σ.objs[p0X]? = some (cL eI x0.next_)) (h0_things : σ.objs[p0G]? = some (cL e_aEn x0.things)) (hd : [p0, p0B, p0I, p0N, p0F, p0L, p0C, p0H, p0X, p0G].Pairwise fun a b => a ≠ b) : ACall Tryd.prog 23 [(.ref p0 0), (eS x1), (eI x2)] σ (fun a τ => a = .tup [e_aEn r.1, eB r.2.1] ∧ τ = σ.puts [(p0, [(.ref p0B 0), (.ref p0I 0), (.vec p0H 1 (r.2.2.heads).length), (.vec p0X 1 (r.2.2.next_).length), (.vec p0G 5 (r.2.2.things).length), (eI r.2.2.count)]), (p0B, (c_slab_Budget r.2.2.budget)), (p0I, [(.vec p0N 4 (r.2.2.lists.nodes).length), (.vec p0F 1 (r.2.2.lists.first_).length), (.vec p0L 1 (r.2.2.lists.last_).length), (.vec p0C 1 (r.2.2.lists.count).length), (eI r.2.2.lists.free), (eI r.2.2.lists.clock)]), (p0N, (cL e_lists_link r.2.2.lists.nodes)), (p0F, (cL eI r.2.2.lists.first_)), (p0L, (cL eI r.2.2.lists.last_)), (p0C, (cL eI r.2.2.lists.count)), (p0H, (cL eI r.2.2.heads)), (p0X, (cL eI r.2.2.next_)), (p0G, (cL e_aEn r.2.2.things))]) := by
 unfold ram_Ram_Get at H
 refine ACall.outB [(p0, [(.ref p0B 0), (.ref p0I 0), (.vec p0H 1 (r.2.2.heads).length), (.vec p0X 1 (r.2.2.next_).length), (.vec p0G 5 (r.2.2.things).length), (eI r.2.2.count)]), (p0B, (c_slab_Budget r.2.2.budget)), (p0I, [(.vec p0N 4 (r.2.2.lists.nodes).length), (.vec p0F 1 (r.2.2.lists.first_).length), (.vec p0L 1 (r.2.2.lists.last_).length), (.vec p0C 1 (r.2.2.lists.count).length), (eI r.2.2.lists.free), (eI r.2.2.lists.clock)]), (p0N, (cL e_lists_link r.2.2.lists.nodes)), (p0F, (cL eI r.2.2.lists.first_)), (p0L, (cL eI r.2.2.lists.last_)), (p0C, (cL eI r.2.2.lists.count)), (p0H, (cL eI r.2.2.heads)), (p0X, (cL eI r.2.2.next_)), (p0G, (cL e_aEn r.2.2.things))] (by simp only [List.mem_cons, List.not_mem_nil, or_false]; rintro _ (rfl | rfl | rfl | rfl | rfl | rfl | rfl | rfl | rfl | rfl) <;> first | exact c_slab_Budget_cut _ _ _ | exact cut_cL enc106.cut _ _ _ | exact cut_cL (enc_i64 td3 sz3).cut _ _ _ | exact cut_cL enc39.cut _ _ _ | (simp only [cutL, cut_ref_id (idl_get h0_budget), cut_ref_id (idl_get h0_lists), cut_vec_id (idl_get h0_heads), cut_vec_id (idl_get h0_next_), cut_vec_id (idl_get h0_things), (enc_i64 td3 sz3).cut _ _]; done) | (simp only [cutL, cut_vec_id (idl_get h0_lists_nodes), cut_vec_id (idl_get h0_lists_first_), cut_vec_id (idl_get h0_lists_last_), cut_vec_id (idl_get h0_lists_count), (enc_i64 td3 sz3).cut _ _]; done)) (acall_start tk Tryd.func23 (by decide) rfl (nb rfl) ?_)
 have hH := Holds.brings (σ := σ) [(p0, [(.ref p0B 0), (.ref p0I 0), (.vec p0H 1 (x0.heads).length), (.vec p0X 1 (x0.next_).length), (.vec p0G 5 (x0.things).length), (eI x0.count)]), (p0B, (c_slab_Budget x0.budget)), (p0I, [(.vec p0N 4 (x0.lists.nodes).length), (.vec p0F 1 (x0.lists.first_).length), (.vec p0L 1 (x0.lists.last_).length), (.vec p0C 1 (x0.lists.count).length), (eI x0.lists.free), (eI x0.lists.clock)]), (p0N, (cL e_lists_link x0.lists.nodes)), (p0F, (cL eI x0.lists.first_)), (p0L, (cL eI x0.lists.last_)), (p0C, (cL eI x0.lists.count)), (p0H, (cL eI x0.heads)), (p0X, (cL eI x0.next_)), (p0G, (cL e_aEn x0.things))] (by simp only [List.mem_cons, List.not_mem_nil, or_false]; rintro _ (rfl | rfl | rfl | rfl | rfl | rfl | rfl | rfl | rfl | rfl) <;> assumption) hd
 refine sr rfl ?_
 refine wpo_a (av := fun id => .ref id 0) rfl rfl rfl (h_alloc tk hH ty39 [(eS z_aEn.Key), (eI z_aEn.Version), (eI z_aEn.AsOf), (eI z_aEn.Ends), AV.nils] rfl) fun id1 τ ⟨hH, n2⟩ => ?_
 refine ma tk (eB false) rfl rfl (wpo_nil (sr rfl (mm tk (.ref p0 0) rfl rfl (mm tk (eS x1) rfl rfl ?_))))
 refine wpo_bdr H eI rfl rfl rfl (fun v4 hv => h_callr rfl rfl (.cons wr (.cons wr .nil)) (ram_Ram_find_ok hv _ (hH.at_ 1 rfl) (hH.at_ 2 rfl) (hH.at_ 3 rfl) (hH.at_ 4 rfl) (hH.at_ 5 rfl) (hH.at_ 6 rfl) (hH.at_ 7 rfl) (hH.at_ 8 rfl) (hH.at_ 9 rfl) (hH.at_ 10 rfl) (hH.pw [1, 2, 3, 4, 5, 6, 7, 8, 9, 10] rfl (by decide)))) fun v4 hv4 H3 => ?_
 refine ma tk (eI v4) rfl rfl (wpo_nil (awp_seq (sr rfl (mm tk (eI v4) rfl rfl ?_))))
 refine l_ H3 eB rfl (o_ar tk rfl rfl rfl) fun v6 H5 => ?_
 refine wpo_nil ?_
 refine awp_if H5 rfl (fun H7 => ?_) (fun H7 => ?_)
 ·refine sr rfl (mc tk (.agg [(eS (⟨[], 0, 0, 0, []⟩ : aEn).Key), (eI (⟨[], 0, 0, 0, []⟩ : aEn).Version), (eI (⟨[], 0, 0, 0, []⟩ : aEn).AsOf), (eI (⟨[], 0, 0, 0, []⟩ : aEn).Ends), AV.nils]) rfl rfl (fun _ => rfl) ?_)
  refine wpo_z rfl rfl (h_st (y := (.agg [(eS (⟨[], 0, 0, 0, []⟩ : aEn).Key), (eI (⟨[], 0, 0, 0, []⟩ : aEn).Version), (eI (⟨[], 0, 0, 0, []⟩ : aEn).AsOf), (eI (⟨[], 0, 0, 0, []⟩ : aEn).Ends), AV.nils])) tk hH 0 rfl ty39 (by simp) rfl rfl wr (b := (.agg [(eS (⟨[], 0, 0, 0, []⟩ : aEn).Key), (eI (⟨[], 0, 0, 0, []⟩ : aEn).Version), (eI (⟨[], 0, 0, 0, []⟩ : aEn).AsOf), (eI (⟨[], 0, 0, 0, []⟩ : aEn).Ends), AV.nils])) rfl rfl (nb rfl) [(eS ((⟨[], 0, 0, 0, []⟩ : aEn) : aEn).Key), (eI ((⟨[], 0, 0, 0, []⟩ : aEn) : aEn).Version), (eI ((⟨[], 0, 0, 0, []⟩ : aEn) : aEn).AsOf), (eI ((⟨[], 0, 0, 0, []⟩ : aEn) : aEn).Ends), AV.nils] rfl) fun τ hH => ?_
  refine ma tk (eB false) rfl rfl (wpo_nil (awp_ret ?_))
  obtain rfl := oi H7
  exact ⟨_, (.tup [(e_aEn ((⟨[], 0, 0, 0, []⟩ : aEn) : aEn)), (eB false)]), (ares_2 (ares_cell hH 0 rfl rfl rfl) rfl), (wk_tup (.cons (wk_agg (.cons wr (.cons wr (.cons wr (.cons wr (.cons (wk_nils _) .nil)))))) (.cons wr .nil))), .of_eq (by simp only [cutAV, cutL, enc39.cut _ _ _, (enc_b td4 sz4).cut _ _ _]), (hH.noT.drop n2)⟩
 ·refine awp_skip (awp_seq (sr rfl (mm tk (.ref p0 0) rfl rfl (mc tk (.ref p0 0) rfl rfl (fun _ => rfl) (mc tk (.ref p0 4) rfl rfl (fun _ => rfl) (wpo_rd (a := (.vec p0G 5 (x0.things).length)) rfl rfl rfl (h_ld tk hH 1 rfl rfl rfl) (mm tk (eI v4) rfl rfl ?_)))))))
  refine b_ H7 (fun _ => .ref p0G (0 + (v4 : Int).toNat * 5 + 0)) rfl (fun v10 hv => o_vecx tk hv td31 sz39 (by decide) rfl rfl) fun v10 hv10 H9 => ?_
  refine wpo_bdr H9 (fun y => e_aEn y) rfl rfl rfl (fun v12 hv => h_ldx tk hH 10 hv rfl enc39 (acut_enc enc39 rfl _) (by decide) rfl) fun v12 hv12 H11 => ?_
  refine mm tk (eI x2) rfl rfl ?_
  refine b_ H11 eB rfl (fun v14 hv => OpP.of_call rfl rfl (.cons wr (.cons wr .nil)) (item_Live_ok hv)) fun v14 hv14 H13 => ?_
  refine l_ H13 eB rfl (o_un tk rfl rfl) fun v16 H15 => ?_
  refine wpo_nil ?_
  refine awp_if H15 rfl (fun H17 => ?_) (fun H17 => ?_)
  ·refine sr rfl (mm tk (.ref p0 0) rfl rfl (mm tk (eI v4) rfl rfl ?_))
   refine wpo_cb H17 (fun x _ => e_aEn x.1) rfl rfl rfl (fun v19 hv => h_call1 hH [(1, (p0, [(.ref p0B 0), (.ref p0I 0), (.vec p0H 1 (v19.2.heads).length), (.vec p0X 1 (v19.2.next_).length), (.vec p0G 5 (v19.2.things).length), (eI v19.2.count)])), (2, (p0B, (c_slab_Budget v19.2.budget))), (3, (p0I, [(.vec p0N 4 (v19.2.lists.nodes).length), (.vec p0F 1 (v19.2.lists.first_).length), (.vec p0L 1 (v19.2.lists.last_).length), (.vec p0C 1 (v19.2.lists.count).length), (eI v19.2.lists.free), (eI v19.2.lists.clock)])), (4, (p0N, (cL e_lists_link v19.2.lists.nodes))), (5, (p0F, (cL eI v19.2.lists.first_))), (6, (p0L, (cL eI v19.2.lists.last_))), (7, (p0C, (cL eI v19.2.lists.count))), (8, (p0H, (cL eI v19.2.heads))), (9, (p0X, (cL eI v19.2.next_))), (10, (p0G, (cL e_aEn v19.2.things)))] ⟨⟨_, rfl⟩, ⟨⟨_, rfl⟩, ⟨⟨_, rfl⟩, ⟨⟨_, rfl⟩, ⟨⟨_, rfl⟩, ⟨⟨_, rfl⟩, ⟨⟨_, rfl⟩, ⟨⟨_, rfl⟩, ⟨⟨_, rfl⟩, ⟨⟨_, rfl⟩, trivial⟩⟩⟩⟩⟩⟩⟩⟩⟩⟩ rfl rfl (.cons wr (.cons wr .nil)) (ram_Ram_remove_ok hv _ (hH.at_ 1 rfl) (hH.at_ 2 rfl) (hH.at_ 3 rfl) (hH.at_ 4 rfl) (hH.at_ 5 rfl) (hH.at_ 6 rfl) (hH.at_ 7 rfl) (hH.at_ 8 rfl) (hH.at_ 9 rfl) (hH.at_ 10 rfl) (hH.pw [1, 2, 3, 4, 5, 6, 7, 8, 9, 10] rfl (by decide)))) fun v19 _ τ hv19 H18 (hH : Holds σ [(id1, [(eS z_aEn.Key), (eI z_aEn.Version), (eI z_aEn.AsOf), (eI z_aEn.Ends), AV.nils]), (p0, [(.ref p0B 0), (.ref p0I 0), (.vec p0H 1 (v19.2.heads).length), (.vec p0X 1 (v19.2.next_).length), (.vec p0G 5 (v19.2.things).length), (eI v19.2.count)]), (p0B, (c_slab_Budget v19.2.budget)), (p0I, [(.vec p0N 4 (v19.2.lists.nodes).length), (.vec p0F 1 (v19.2.lists.first_).length), (.vec p0L 1 (v19.2.lists.last_).length), (.vec p0C 1 (v19.2.lists.count).length), (eI v19.2.lists.free), (eI v19.2.lists.clock)]), (p0N, (cL e_lists_link v19.2.lists.nodes)), (p0F, (cL eI v19.2.lists.first_)), (p0L, (cL eI v19.2.lists.last_)), (p0C, (cL eI v19.2.lists.count)), (p0H, (cL eI v19.2.heads)), (p0X, (cL eI v19.2.next_)), (p0G, (cL e_aEn v19.2.things))] [] τ) => ?_
   refine wpo_nil (sr rfl (mc tk (.agg [(eS (⟨[], 0, 0, 0, []⟩ : aEn).Key), (eI (⟨[], 0, 0, 0, []⟩ : aEn).Version), (eI (⟨[], 0, 0, 0, []⟩ : aEn).AsOf), (eI (⟨[], 0, 0, 0, []⟩ : aEn).Ends), AV.nils]) rfl rfl (fun _ => rfl) ?_))
   refine wpo_z rfl rfl (h_st (y := (.agg [(eS (⟨[], 0, 0, 0, []⟩ : aEn).Key), (eI (⟨[], 0, 0, 0, []⟩ : aEn).Version), (eI (⟨[], 0, 0, 0, []⟩ : aEn).AsOf), (eI (⟨[], 0, 0, 0, []⟩ : aEn).Ends), AV.nils])) tk hH 0 rfl ty39 (by simp) rfl rfl wr (b := (.agg [(eS (⟨[], 0, 0, 0, []⟩ : aEn).Key), (eI (⟨[], 0, 0, 0, []⟩ : aEn).Version), (eI (⟨[], 0, 0, 0, []⟩ : aEn).AsOf), (eI (⟨[], 0, 0, 0, []⟩ : aEn).Ends), AV.nils])) rfl rfl (nb rfl) [(eS ((⟨[], 0, 0, 0, []⟩ : aEn) : aEn).Key), (eI ((⟨[], 0, 0, 0, []⟩ : aEn) : aEn).Version), (eI ((⟨[], 0, 0, 0, []⟩ : aEn) : aEn).AsOf), (eI ((⟨[], 0, 0, 0, []⟩ : aEn) : aEn).Ends), AV.nils] rfl) fun τ hH => ?_
   refine ma tk (eB false) rfl rfl (wpo_nil (awp_ret ?_))
   obtain rfl := oi H18
   exact ⟨_, (.tup [(e_aEn ((⟨[], 0, 0, 0, []⟩ : aEn) : aEn)), (eB false)]), (ares_2 (ares_cell hH 0 rfl rfl rfl) rfl), (wk_tup (.cons (wk_agg (.cons wr (.cons wr (.cons wr (.cons wr (.cons (wk_nils _) .nil)))))) (.cons wr .nil))), .of_eq (by simp only [cutAV, cutL, enc39.cut _ _ _, (enc_b td4 sz4).cut _ _ _]), (hH.noT.drop n2)⟩
  ·refine awp_skip (sr rfl (mm tk (.ref p0 0) rfl rfl (mc tk (.ref p0 0) rfl rfl (fun _ => rfl) (mc tk (.ref p0 1) rfl rfl (fun _ => rfl) (wpo_rd (a := (.ref p0I 0)) rfl rfl rfl (h_ld tk hH 1 rfl rfl rfl) (mm tk (eI v4) rfl rfl ?_))))))
   refine wpo_cb H17 (fun x _ => eErr x.1) rfl rfl rfl (fun v22 hv => h_call1 hH [(3, (p0I, [(.vec p0N 4 (v22.2.nodes).length), (.vec p0F 1 (v22.2.first_).length), (.vec p0L 1 (v22.2.last_).length), (.vec p0C 1 (v22.2.count).length), (eI v22.2.free), (eI v22.2.clock)])), (4, (p0N, (cL e_lists_link v22.2.nodes))), (5, (p0F, (cL eI v22.2.first_))), (6, (p0L, (cL eI v22.2.last_))), (7, (p0C, (cL eI v22.2.count)))] ⟨⟨_, rfl⟩, ⟨⟨_, rfl⟩, ⟨⟨_, rfl⟩, ⟨⟨_, rfl⟩, ⟨⟨_, rfl⟩, trivial⟩⟩⟩⟩⟩ rfl rfl (.cons wr (.cons wr .nil)) (lists_Lists_Touch_ok hv _ (hH.at_ 3 rfl) (hH.at_ 4 rfl) (hH.at_ 5 rfl) (hH.at_ 6 rfl) (hH.at_ 7 rfl) (hH.pw [3, 4, 5, 6, 7] rfl (by decide)))) fun v22 _ τ hv22 H21 (hH : Holds σ [(id1, [(eS z_aEn.Key), (eI z_aEn.Version), (eI z_aEn.AsOf), (eI z_aEn.Ends), AV.nils]), (p0, [(.ref p0B 0), (.ref p0I 0), (.vec p0H 1 (x0.heads).length), (.vec p0X 1 (x0.next_).length), (.vec p0G 5 (x0.things).length), (eI x0.count)]), (p0B, (c_slab_Budget x0.budget)), (p0I, [(.vec p0N 4 (v22.2.nodes).length), (.vec p0F 1 (v22.2.first_).length), (.vec p0L 1 (v22.2.last_).length), (.vec p0C 1 (v22.2.count).length), (eI v22.2.free), (eI v22.2.clock)]), (p0N, (cL e_lists_link v22.2.nodes)), (p0F, (cL eI v22.2.first_)), (p0L, (cL eI v22.2.last_)), (p0C, (cL eI v22.2.count)), (p0H, (cL eI x0.heads)), (p0X, (cL eI x0.next_)), (p0G, (cL e_aEn x0.things))] [] τ) => ?_
   refine wpo_nil (sr rfl (mm tk (.ref p0 0) rfl rfl (mc tk (.ref p0 0) rfl rfl (fun _ => rfl) (mc tk (.ref p0 4) rfl rfl (fun _ => rfl) (wpo_rd (a := (.vec p0G 5 (x0.things).length)) rfl rfl rfl (h_ld tk hH 1 rfl rfl rfl) (mm tk (eI v4) rfl rfl ?_))))))
   refine b_ H21 (fun _ => .ref p0G (0 + (v4 : Int).toNat * 5 + 0)) rfl (fun v24 hv => o_vecx tk hv td31 sz39 (by decide) rfl rfl) fun v24 hv24 H23 => ?_
   refine wpo_bdr H23 (fun y => e_aEn y) rfl rfl rfl (fun v26 hv => h_ldx tk hH 10 hv rfl enc39 (acut_enc enc39 rfl _) (by decide) rfl) fun v26 hv26 H25 => ?_
   refine b_ H25 e_aEn rfl (fun v28 hv => OpP.of_call rfl rfl (.cons wr .nil) (item_Copy_ok hv)) fun v28 hv28 H27 => ?_
   refine wpo_z rfl rfl (h_st tk hH 0 rfl ty39 (by simp) rfl rfl wr (b := (e_aEn v28)) (enc39.flat _) rfl (nb rfl) (c_aEn (v28 : aEn)) rfl) fun τ hH => ?_
   refine ma tk (eB true) rfl rfl (wpo_nil (awp_ret ?_))
   obtain rfl := oi H27
   exact ⟨_, (.tup [(e_aEn (v28 : aEn)), (eB true)]), (ares_2 (ares_cell hH 0 rfl rfl rfl) rfl), (wk_tup (.cons wr (.cons wr .nil))), .of_eq (by simp only [cutAV, cutL, enc39.cut _ _ _, (enc_b td4 sz4).cut _ _ _]), (hH.noT.drop n2)⟩
end Go.Proofs.YtggeboakilalhaaDoor
namespace Go.Va
open Go Go.RowKit
set_option linter.unusedVariables false
set_option linter.unusedSimpArgs false
section
variable {P : Program} {Ty : TypeId → Option TI} {n : Nat} {fr : Nat → AV} {σ : St}

def wideR (ro : Option Nat) : Fence := { Fence.wide with round := ro }
theorem callsR {ro : Option Nat} {m : Nat} {f : FuncId} {args : Array Value} {w : World} {R : Ending → World → Prop} (h : Calls P f args w R) : CallsIn (wideR ro) m P f args w R :=
  (callsIn_wide (n := m)).2 h
theorem rowsR {ro : Option Nat} {m : Nat} {row : String} {args : Array Value} {w : World} {R : Value → World → Prop} (h : Rows P row args w R) : RowsIn (wideR ro) m P row args w R :=
  fun c cs _ => let ⟨v, w', r, s⟩ := h c cs; ⟨v, w', r, stepsIn_wide.2 s⟩
def noDefer (o : Oper) : Bool := match o.op with
  | .defer _ => false
  | _ => true
theorem noDefer_ne {o : Oper} (h : noDefer o = true) : ∀ c, o.op ≠ .defer c := by
  intro c hc
  unfold noDefer at h
  rw [hc] at h
  cases h
theorem opR {ro : Option Nat} {m : Nat} {o : Oper} {act : Act} {w : World} {K : Act → World → Prop} {Q : Exit → Act → World → Prop} (hd : noDefer o = true) (h : o.wp P act w K Q) : o.wpIn (wideR ro) m P act w K Q := by
  unfold Oper.wpIn
  refine ⟨fun _ _ => trivial, ?_⟩
  rw [Oper.semAt_eq _ _ _ (noDefer_ne hd)]
  unfold Oper.wp at h
  generalize (execOp act.eval o).run P w = r at *
  have hdep : ∀ {X : Prop}, ((wideR ro).depth.isSome = true → X) := fun h => by cases h
  cases r with
  | ok x w' =>
    cases x <;> simp only [Oper.upon, Oper.uponIn] at h ⊢ <;>
      first
        | exact h
        | exact ⟨hdep, callsR h⟩
        | exact ⟨hdep, rowsR h⟩
        | exact h.elim
  | halt x w' => cases x <;> simp only [Oper.upon, Oper.uponIn] at h ⊢ <;> exact h

structure SimD (w0 : World) (G : Ghost) (n : Nat) (a : Act) (w : World) (fr : Nat → AV) (σ : St) (ds : List Deferred) : Prop where
  inv : Inv w0 G w σ
  frm : FrameRel G a.tmps fr
  size : a.tmps.size = n
  defers : a.defers = ds
theorem Sim.d {w0 : World} {G : Ghost} {a : Act} {w : World} (h : Sim w0 G n a w fr σ) : SimD w0 G n a w fr σ [] := ⟨h.inv, h.frm, h.size, h.defers⟩
theorem SimD.s {w0 : World} {G : Ghost} {a : Act} {w : World} (h : SimD w0 G n a w fr σ []) : Sim w0 G n a w fr σ := ⟨h.inv, h.frm, h.size, h.defers⟩
theorem SimD.put {w0 : World} {G : Ghost} {a : Act} {w : World} {ds : List Deferred} (h : SimD w0 G n a w fr σ ds) {G' : Ghost} (hG : G.Le G') {w' : World} {σ' : St} (hI : Inv w0 G' w' σ') {d : Option Tmp} (hd : dstOk n d) {v : Value} {x : AV} (hv : Rel G' v x) :
    SimD w0 G' n (a.put d v) w' (putO fr d x) σ' ds := by
  cases d with
  | none => exact ⟨hI, h.frm.mono hG, h.size, h.defers⟩
  | some t => exact ⟨hI, (h.frm.mono hG).put (by rw [h.size]; exact hd) hv, by simp [Act.put, h.size], h.defers⟩

theorem wpo_soundR {ro : Option Nat} {m : Nat} {w0 : World} {ds : List Deferred} {ops : Array Oper} {Q : Exit → Act → World → Prop} {K : (Nat → AV) → St → Prop} (hnd : ops.toList.all noDefer = true) (rest : List Nat) :
    ∀ (k i : Nat) (G : Ghost) (a : Act) (w : World) (fr : Nat → AV) (σ : St), i + k ≤ ops.size → SimD w0 G n a w fr σ ds → wpo P n ops K ((ops.toList.drop i).take k) fr σ →
      (hdst : ∀ (j : Nat) (o : Oper), ops[j]? = some o → dstOk n o.dst) →
      (∀ G' a' w' fr' σ', G.Le G' → SimD w0 G' n a' w' fr' σ' ds → K fr' σ' → wpOpsIn (wideR ro) m P ops Q rest a' w') → wpOpsIn (wideR ro) m P ops Q (List.range' i k ++ rest) a w
  | 0, i, G, a, w, fr, σ, hi, hS, h, _, hQ => by
    rw [List.take_zero] at h
    exact hQ G a w fr σ (.refl G) hS h
  | k + 1, i, G, a, w, fr, σ, hi, hS, h, hdst, hQ => by
    have hlt : i < ops.size := by omega
    have ho : ops[i]? = some ops[i] := Array.getElem?_eq_getElem hlt
    have hdf : noDefer ops[i] = true := List.all_eq_true.1 hnd _ (by simp)
    rw [List.drop_eq_getElem_cons (by simpa using hlt), List.take_succ_cons] at h
    simp only [Array.getElem_toList] at h
    obtain ⟨hd, h⟩ := h
    rw [List.range'_succ, List.cons_append]
    simp only [wpOpsIn, ho]
    have hgd : ∀ (b : Bool), guardOf ops ops[i] fr = some b → Region.wanted ops[i] (yielded ops a.tmps) = b := fun b hb =>
      wanted_of (n := n) hS.frm (fun t ht => by rw [hS.size]; exact ht) hb (fun j want t _ ht => by
        cases hj : ops[j]? with
        | none => rw [hj] at ht; cases ht
        | some oj =>
          rw [hj] at ht
          have := hdst j oj hj
          simp only [Option.bind_some] at ht
          rw [ht] at this
          rw [hS.size]; exact this)
    split at h
    · rename_i hg
      rw [if_pos (hgd true hg)]
      refine opR hdf (h w0 G a w Q _ hS.inv (fun x _ => rel_aeval hS.frm x) fun v x σ' w' G' hk hG hI hr => ?_)
      exact wpo_soundR hnd rest k (i + 1) G' _ w' _ σ' (by omega) (hS.put hG hI hd hr) hk hdst (fun G2 a2 w2 fr2 σ2 h1 h2 h3 => hQ G2 a2 w2 fr2 σ2 (hG.trans h1) h2 h3)
    · rename_i hg
      rw [if_neg (by rw [hgd false hg]; simp)]
      exact ⟨fun _ _ => trivial, wpo_soundR hnd rest k (i + 1) G _ w _ σ (by omega) (hS.put (.refl G) hS.inv hd (rel_undef _)) h hdst hQ⟩
    · exact h.elim

def RPost (w0 : World) (G : Ghost) (n : Nat) (Q : AExit → (Nat → AV) → St → Prop) : Exit → Act → World → Prop := fun e a' w' => ∃ ae fr' σ' G', ExitRel e ae ∧ G.Le G' ∧ Sim w0 G' n a' w' fr' σ' ∧ Q ae fr' σ'
def AWPI (P : Program) (n : Nat) (c : Code) (Q : AExit → (Nat → AV) → St → Prop) (fr : Nat → AV) (σ : St) : Prop :=
  ∀ (l : Nat) w0 G a w, Sim w0 G n a w fr σ → c.wpIn (wideR (some l)) 0 P (RPost w0 G n Q) a w
theorem AWPI.wk {c : Code} {Q : AExit → (Nat → AV) → St → Prop} {g : Nat → AV} (h : AWPI P n c Q g σ) (k : WkF fr g) : AWPI P n c Q fr σ :=
  fun l w0 G a w hS => h l w0 G a w ⟨hS.inv, hS.frm.wk k, hS.size, hS.defers⟩
theorem awpi_region {Q : AExit → (Nat → AV) → St → Prop} {id : Nat} {ops : Array Oper} (hd : allDst n ops = true) (hnd : ops.toList.all noDefer = true) (h : wpo P n ops (Q .normal) ops.toList fr σ) : AWPI P n (.region id ops false) Q fr σ := by
  intro l w0 G a w hS
  refine wpIn_region ?_
  rw [List.range_eq_range', ← List.append_nil (List.range' 0 ops.size)]
  refine wpo_soundR (w0 := w0) (ds := []) hnd [] ops.size 0 G a w fr σ (by omega) hS.d (by rw [List.drop_zero, List.take_of_length_le (by simp)]; exact h) (allDst_spec hd) ?_
  intro G' a' w' fr' σ' h1 h2 h3
  exact ⟨.normal, fr', σ', G', trivial, h1, h2.s, h3⟩
theorem awpi_block {id : Nat} {c : Code} {Q : AExit → (Nat → AV) → St → Prop} (h : AWPI P n c (blockQ id Q) fr σ) : AWPI P n (.block id c) Q fr σ := fun l w0 G a w hS => by
  refine wpIn_block (wpIn_mono (h l w0 G a w hS) ?_)
  rintro e a' w' ⟨ae, fr', σ', G', hr, hG, hS', hq⟩
  cases e <;> cases ae <;> simp only [ExitRel] at hr
  · exact ⟨.normal, fr', σ', G', trivial, hG, hS', hq⟩
  · subst hr
    simp only [Exit.inBlock]
    simp only [blockQ] at hq
    split
    · rename_i he; subst he; rw [show Nat.beq _ _ = true from Nat.beq_refl _] at hq; exact ⟨.normal, fr', σ', G', trivial, hG, hS', hq⟩
    · rename_i he
      rw [show Nat.beq _ id = false from by cases hx : Nat.beq _ id with | false => rfl | true => exact absurd (Nat.eq_of_beq_eq_true hx) he] at hq
      exact ⟨.exit _, fr', σ', G', rfl, hG, hS', hq⟩
  · exact ⟨.ret, fr', σ', G', trivial, hG, hS', hq⟩
theorem wpOp_R {ro : Option Nat} {m : Nat} {ops : Array Oper} (hnd : ops.toList.all noDefer = true) {Q : Exit → Act → World → Prop} (hl : ¬ LetsOut Q) {i : Nat} {K : Act → World → Prop} {a : Act} {w : World} (h : wpOp P ops Q i K a w) : wpOpIn (wideR ro) m P ops Q i K a w := by
  unfold wpOp at h
  unfold wpOpIn
  cases ho : ops[i]? with
  | none => rw [ho] at h; exact h
  | some o =>
    rw [ho] at h
    simp only at h ⊢
    have hdf : noDefer o = true := List.all_eq_true.1 hnd _ (Array.mem_toList_iff.2 (Array.mem_of_getElem? ho))
    split at h
    · rename_i hw
      rw [if_pos hw]
      rcases h with h | ⟨_, h⟩
      · exact opR hdf h
      · exact absurd h hl
    · rename_i hw
      rw [if_neg hw]
      exact ⟨fun _ _ => trivial, h⟩
theorem wpAny_R {ro : Option Nat} {m : Nat} {md : Region.Mode} {ops : Array Oper} (hnd : ops.toList.all noDefer = true) {Q : Exit → Act → World → Prop} (hl : ¬ LetsOut Q) : ∀ (fuel : Nat) (listed : Array Bool) (a : Act) (w : World), wpAny P md ops Q fuel listed a w → wpAnyIn (wideR ro) m P md ops Q fuel listed a w
  | 0, listed, a, w, h => h
  | fuel + 1, listed, a, w, h => ⟨h.1, fun i hi => wpOpIn_mono (fun a w k => wpAny_R hnd hl fuel _ a w k) (wpOp_R hnd hl (h.2 i hi))⟩
theorem rpost_out {w0 : World} {G : Ghost} {Q : AExit → (Nat → AV) → St → Prop} : ¬ LetsOut (RPost w0 G n Q) := by
  rintro ⟨a, w, ae, fr', σ', G', hr, _⟩
  cases ae <;> cases hr
theorem awpi_drawS (hm : P.follows .mixedOrders = true) {id : Nat} {ops : Array Oper} {Q : AExit → (Nat → AV) → St → Prop} (S : List Nat) (hd : allDst n ops = true) (hnd : ops.toList.all noDefer = true) (hchk : drawChk ops S = true) (hs : srt S ops.size = true) (hl : cnt S ops.size = S.length) (h : wpdS P ops S (Q .normal) 0 ops.toList fr σ) : AWPI P n (.region id ops true) Q fr σ :=
  fun l w0 G a w hS => wpIn_region_any hm (wpAny_R hnd rpost_out _ _ _ _ (areg_drawS S hd hchk hs hl h w0 G a w hS))

def St.setSp (σ : St) (id : Nat) (a : AV) : St := ⟨σ.objs.set id [a], σ.opn, σ.gl⟩
theorem Holds.setSp {σ0 : St} {O : List (Nat × List AV)} {A : List Nat} (h : Holds σ0 O A σ) (k : Nat) {id : Nat} {c : List AV} (hk : O[k]? = some (id, c)) (a : AV) : Holds σ0 (O.set k (id, [a])) A (σ.setSp id a) := by
  have hid : id < σ.objs.length := (List.getElem?_eq_some_iff.1 (h.obj _ (List.mem_of_getElem? hk))).1
  have hkl := (List.getElem?_eq_some_iff.1 hk).1
  have hd : ∀ (j : Nat) (q : Nat × List AV), O[j]? = some q → j ≠ k → q.1 ≠ id := fun j q hq hj he => by
    have hp := List.pairwise_iff_getElem.1 h.dist
    have hjl := (List.getElem?_eq_some_iff.1 hq).1
    have e1 := (List.getElem?_eq_some_iff.1 hq).2
    have e2 := (List.getElem?_eq_some_iff.1 hk).2
    rcases Nat.lt_or_gt_of_ne hj with hlt | hgt
    · exact hp j k hjl hkl hlt (by rw [e1, e2]; exact he)
    · exact hp k j hkl hjl hgt (by rw [e1, e2]; exact he.symm)
  refine ⟨fun i c' hc hn => ?_, h.opn, by simpa [St.setSp] using h.olen, h.tlen, fun p hp => ?_, ?_, h.tok, h.tdist, h.gl⟩
  · have hne : id ≠ i := fun he => hn (id, [a]) (List.mem_iff_getElem?.2 ⟨k, List.getElem?_set_self hkl⟩) he
    simp only [St.setSp]
    rw [List.getElem?_set_ne hne]
    refine h.base i c' hc fun p hp he => ?_
    obtain ⟨j, hj⟩ := List.mem_iff_getElem?.1 hp
    by_cases hjk : j = k
    · subst hjk; rw [hk] at hj; cases hj; exact hne he
    · exact hn p (List.mem_iff_getElem?.2 ⟨j, by rw [List.getElem?_set_ne (Ne.symm hjk)]; exact hj⟩) he
  · obtain ⟨j, hj⟩ := List.mem_iff_getElem?.1 hp
    rw [List.getElem?_set] at hj
    simp only [St.setSp]
    split at hj
    · rename_i he
      cases hj
      simp [hid]
    · rename_i he
      rw [List.getElem?_set_ne (fun e => hd j p hj (Ne.symm he) e.symm)]
      exact h.obj p (List.mem_of_getElem? hj)
  · rw [List.pairwise_iff_getElem]
    intro i j hi hj hij
    have hp := List.pairwise_iff_getElem.1 h.dist i j (by simpa using hi) (by simpa using hj) hij
    rw [List.getElem_set, List.getElem_set]
    have e2 := (List.getElem?_eq_some_iff.1 hk).2
    split <;> split
    · omega
    · rename_i he _; subst he; rw [e2] at hp; exact hp
    · rename_i _ he; subst he; rw [e2] at hp; exact hp
    · exact hp

theorem Inv.set_lp {w0 : World} {G : Ghost} {w : World} (h : Inv w0 G w σ) {id b : Nat} {st st' : LoopState} {avs : List AV} {ps : Array Tmp} {asg bd : Code} (hc : σ.objs[id]? = some [.lpc st avs ps asg bd]) (hl : G.loc id = some b) :
    ∃ r, w.heap[b]? = some (.loop r) ∧ r.state = st ∧ r.pending = none ∧ RelL G r.tmps.toList avs ∧ r.params = ps ∧ r.assign = asg ∧ r.body = bd ∧
      Inv w0 G (w.putObj b (.loop { r with state := st' })) (σ.setSp id (.lpc st' avs ps asg bd)) := by
  obtain ⟨b1, o, k1, k2, k3, k4⟩ := h.sp id _ hc rfl
  rw [hl] at k1
  injection k1 with k1
  subst k1
  cases k4 with
  | lp r avs' h1 hp => exact ⟨r, k3, rfl, hp, h1, rfl, rfl, rfl, h.set_sp hc rfl hl rfl (.lp { r with state := st' } avs h1 hp)⟩

def OpY (P : Program) (o : Oper) (fr : Nat → AV) (σ : St) (K : AV → St → Prop) : Prop :=
  ∀ (w0 : World) (G : Ghost) (act : Act) (w : World) (Q : Exit → Act → World → Prop) (K' : Act → World → Prop), Inv w0 G w σ → (∀ x ∈ o.op.operands, Rel G (act.eval x) (aeval fr x)) →
    (∀ v a σ' w' G', K a σ' → G.Le G' → Inv w0 G' w' σ' → Rel G' v a → K' (act.put o.dst v) w') → o.wpIn (wideR none) 0 P act w K' Q
theorem OpY.mono {o : Oper} {K K2 : AV → St → Prop} (h : OpY P o fr σ K) (hk : ∀ a σ', K a σ' → K2 a σ') : OpY P o fr σ K2 :=
  fun w0 G act w Q K' hI hr hK => h w0 G act w Q K' hI hr fun v a σ' w' G' k => hK v a σ' w' G' (hk _ _ k)
theorem yield_run {o : Oper} {f x : Operand} (hc : callOf o = some (f, [x])) {ρ : Operand → Value} {b : Nat} (hf : ρ f = .func (.yield b) #[] #[]) (w : World) : (execOp ρ o).run P w = (Instr.yield b #[ρ x]).run P w := by
  unfold callOf at hc
  split at hc
  case h_2 => cases hc
  rename_i c ho
  split at hc
  case h_2 => cases hc
  rename_i f' hcal
  simp at hc
  obtain ⟨rfl, hx⟩ := hc
  have hargs : c.args.map ρ = #[ρ x] := by
    apply Array.ext'
    simp [hx]
  simp [execOp, ho, resolve, hcal, Deferred.ofValue, hf, invoke, callFunc, Sem.run, hargs]
theorem call_nd {o : Oper} {f : Operand} {xs : List Operand} (hc : callOf o = some (f, xs)) : noDefer o = true := by
  unfold callOf at hc
  split at hc
  case h_2 => cases hc
  rename_i c ho
  unfold noDefer
  rw [ho]
theorem opy_round {o : Oper} {f x : Operand} {lp : Nat} {avs : List AV} {p : Tmp} {asg bd : Code} {K : St → Prop} (hc : callOf o = some (f, [x])) (hf : aeval fr f = .yld lp) (ho : σ.objs[lp]? = some [.lpc .ready avs #[p] asg bd]) (hp : p < avs.length)
    (h : AWPI P avs.length asg (fun e fr1 σ1 => e = .normal ∧ σ1.objs[lp]? = some [.lpc .ready avs #[p] asg bd] ∧
      AWPI P avs.length bd (fun e fr2 σ2 => e = .normal ∧ σ2.objs[lp]? = some [.lpc .busy avs #[p] asg bd] ∧ K (σ2.setSp lp (.lpc .ready avs #[p] asg bd))) fr1 (σ1.setSp lp (.lpc .busy avs #[p] asg bd))) (upd (frame0 avs) p (aeval fr x)) σ) :
    OpY P o fr σ (fun a σ' => a = .bool true ∧ K σ') := by
  have hmem : f ∈ o.op.operands ∧ x ∈ o.op.operands := by
    unfold callOf at hc
    split at hc
    case h_2 => cases hc
    rename_i c ho
    split at hc
    case h_2 => cases hc
    rename_i f' hcal
    simp at hc
    obtain ⟨rfl, hx⟩ := hc
    rw [ho]
    simp only [Op.operands, Call.operands, hcal]
    exact ⟨by simp, Array.mem_append.2 (.inr (Array.mem_toList_iff.1 (by rw [hx]; simp)))⟩
  intro w0 G act w Q K' hI hr hK
  have hrf := hr f hmem.1
  rw [hf] at hrf
  cases hfv : act.eval f <;> rw [hfv] at hrf <;> cases hrf
  rename_i b hb
  obtain ⟨r, k1, k2, k3, k4, k5, k6, k7, _⟩ := hI.set_lp (st' := .busy) ho hb
  unfold Oper.wpIn
  refine ⟨fun _ _ => trivial, ?_⟩
  rw [Oper.semAt_eq _ _ _ (noDefer_ne (call_nd hc)), yield_run hc hfv w, run_yield k1 (by rw [k5]; rfl), Oper.uponIn_round]
  refine ⟨fun h => (by cases h), ?_⟩
  rw [k5, k6, k7]
  have hlen : r.tmps.size = avs.length := by simpa using k4.len
  refine roundIn_of_wpIn trivial (wpIn_mono (h b w0 G _ w ⟨hI, ?_, by simp [hlen], rfl⟩) ?_)
  · have h0 : FrameRel G r.tmps (frame0 avs) := fun t => by
      unfold frame0
      by_cases ht : t < avs.length
      · obtain ⟨v, hv, hrv⟩ := k4.get (List.getElem?_eq_getElem ht)
        rw [List.getD_eq_getElem?_getD, List.getElem?_eq_getElem ht, Option.getD_some, Array.getD_eq_getD_getElem?]
        rw [Array.getElem?_toList] at hv
        rw [hv]
        exact hrv
      · rw [List.getD_eq_getElem?_getD, List.getElem?_eq_none (by omega)]
        exact .junk _
    have h1 := h0.put (d := p) (by rw [hlen]; exact hp) (hr x hmem.2)
    simpa using h1
  · rintro e a1 w1 ⟨ae, fr1, σ1, G1, hrel, hG1, hS1, hq1, ho1, hb1⟩
    subst hq1
    cases e <;> simp only [ExitRel] at hrel
    obtain ⟨r1, m1, m2, m3, m4, m5, m6, m7, hI1⟩ := hS1.inv.set_lp (st' := .busy) ho1 (hG1.loc _ _ hb)
    refine ⟨_, run_beginRound m1 m2, wpIn_mono (hb1 b w0 G1 a1 _ ⟨hI1, hS1.frm, hS1.size, hS1.defers⟩) ?_⟩
    rintro e a2 w2 ⟨ae, fr2, σ2, G2, hrel, hG2, hS2, hq2, ho2, hk2⟩
    subst hq2
    cases e <;> simp only [ExitRel] at hrel
    obtain ⟨r2, n1, n2, n3, n4, n5, n6, n7, hI2⟩ := hS2.inv.set_lp (st' := .ready) ho2 ((hG1.trans hG2).loc _ _ hb)
    refine ⟨_, _, run_endRound none n1, ?_⟩
    have e2 : ({ r2 with state := LoopState.ready, pending := none } : Loop) = { r2 with state := .ready } := by rw [← n3]
    simp only [Option.isNone_none, if_true, e2]
    exact hK (.bool true) _ _ _ _ ⟨rfl, hk2⟩ (hG1.trans hG2) hI2 (.bool true)

theorem wpo_put {ops : Array Oper} {K : (Nat → AV) → St → Prop} {rest : List Oper} {l : List (Nat × AV)} {t : Tmp} {a : AV} (h : wpo P n ops K rest (fm ((t, a) :: l)) σ) : wpo P n ops K rest (putO (fm l) (some t) a) σ := h
theorem awp_regionY {Q : AExit → (Nat → AV) → St → Prop} {id : Nat} {ops : Array Oper} (k : Nat) {oy : Oper} (hd : allDst n ops = true) (hnd : ops.toList.all noDefer = true) (hk : ops[k]? = some oy) (hg : oy.guard = none)
    (h : wpo P n ops (fun fr1 σ1 => OpY P oy fr1 σ1 (fun a σ2 => wpo P n ops (Q .normal) (ops.toList.drop (k + 1)) (putO fr1 oy.dst a) σ2)) (ops.toList.take k) fr σ) : AWP P n (.region id ops false) Q fr σ := by
  intro w0 G a w hS
  refine (wpIn_wide (n := 0)).1 (wpIn_region ?_)
  have hlt : k < ops.size := (Array.getElem?_eq_some_iff.1 hk).1
  have hr : List.range ops.size = List.range' 0 k ++ (k :: (List.range' (k + 1) (ops.size - (k + 1)) ++ [])) := by
    have h1 := List.range'_append_1 (s := 0) (m := k) (n := ops.size - k)
    rw [Nat.zero_add] at h1
    rw [List.range_eq_range', List.append_nil, ← List.range'_succ, show ops.size - (k + 1) + 1 = ops.size - k by omega, h1]
    congr 1
    omega
  rw [hr]
  refine wpo_soundR (ro := none) (w0 := w0) (ds := []) hnd _ k 0 G a w fr σ (by omega) hS.d (by rw [List.drop_zero]; exact h) (allDst_spec hd) ?_
  intro G1 a1 w1 fr1 σ1 hG1 hS1 hy
  simp only [wpOpsIn, hk]
  rw [if_pos (by unfold Region.wanted; rw [hg])]
  refine hy w0 G1 a1 w1 _ _ hS1.inv (fun x _ => rel_aeval hS1.frm x) fun v x σ2 w2 G2 hx hG2 hI2 hr2 => ?_
  refine wpo_soundR (ro := none) (w0 := w0) (ds := []) hnd [] (ops.size - (k + 1)) (k + 1) G2 _ w2 _ σ2 (by omega) (hS1.put hG2 hI2 (allDst_spec hd k oy hk) hr2) (by rw [List.take_of_length_le (by simp)]; exact hx) (allDst_spec hd) ?_
  intro G3 a3 w3 fr3 σ3 hG3 hS3 h3
  exact ⟨.normal, fr3, σ3, G3, trivial, (hG1.trans hG2).trans hG3, hS3.s, h3⟩

def QM (P : Program) (fn : Func) (K : AV → St → Prop) (w0 : World) (G : Ghost) : Exit → Act → World → Prop :=
  bodyPostM (wideR none) 0 P fn (fun e w' => ∃ v a σ' G', e = .returned v ∧ G.Le G' ∧ Inv w0 G' w' σ' ∧ Rel G' v a ∧ K a σ')
def AX (P : Program) (n : Nat) (c : Code) (fn : Func) (K : AV → St → Prop) (fr : Nat → AV) (σ : St) : Prop :=
  ∀ w0 G G0 a w, G0.Le G → Sim w0 G n a w fr σ → c.wp P (QM P fn K w0 G0) a w
theorem ax_seq {x y : Code} {fn : Func} {K : AV → St → Prop} (h : AWP P n x (fun e fr σ => e = .normal ∧ AX P n y fn K fr σ) fr σ) : AX P n (.seq x y) fn K fr σ := fun w0 G G0 a w h0 hS => by
  refine wp_seq (wp_mono (h w0 G a w hS) ?_)
  rintro e a' w' ⟨ae, fr', σ', G', hr, hG, hS', he, hq⟩
  subst he
  cases e <;> simp only [ExitRel] at hr
  exact hq w0 G' G0 a' w' (h0.trans hG) hS'
def AXT (P : Program) (n : Nat) (c d : Code) (fn : Func) (K : AV → St → Prop) (fr : Nat → AV) (σ : St) : Prop :=
  ∀ w0 G G0 a w, G0.Le G → Sim w0 G n a w fr σ → c.wp P (Exit.then (d.wp P (QM P fn K w0 G0)) (QM P fn K w0 G0)) a w
theorem ax_seq2 {x y z : Code} {fn : Func} {K : AV → St → Prop} (h : AWP P n x (fun e fr σ => e = .normal ∧ AXT P n y z fn K fr σ) fr σ) : AX P n (.seq (.seq x y) z) fn K fr σ := fun w0 G G0 a w h0 hS => by
  refine wp_seq (wp_seq (wp_mono (h w0 G a w hS) ?_))
  rintro e a' w' ⟨ae, fr', σ', G', hr, hG, hS', he, hq⟩
  subst he
  cases e <;> simp only [ExitRel] at hr
  exact hq w0 G' G0 a' w' (h0.trans hG) hS'
theorem Holds.two {σ0 : St} {O : List (Nat × List AV)} {A : List Nat} (h : Holds σ0 O A σ) (c1 c2 : List AV) : Holds σ0 ((σ.objs.length + 1, c2) :: (σ.objs.length, c1) :: O) A ⟨σ.objs ++ [c1] ++ [c2], σ.opn, σ.gl⟩ := by
  have h2 := (h.add c1).add c2
  rw [show (σ.objs ++ [c1]).length = σ.objs.length + 1 by simp] at h2
  exact h2
theorem acall_marks {g : FuncId} {fn : Func} {c : Code} {args : List AV} {K : AV → St → Prop} (hf : P.funcs[g]? = some fn) (hn : fn.name ≠ "runtime.NumGoroutine") (hb : fn.body = some c) (hl : args.length ≤ fn.ntmps)
    (h : AX P fn.ntmps c fn K (fm (fmArgs 0 args)) σ) : ACall P g args σ K := by
  rw [← frame0_fm] at h
  refine ⟨⟨fn, hf, hn, by rw [hb]; rfl⟩, fun w0 G w vs hI hr => ?_⟩
  have hvl : vs.size = args.length := by simpa using hr.len
  refine (callsIn_wide (n := 0)).1 (callsIn_of_wp_marks hf hb trivial ((wpIn_wide (n := 0)).2 (h w0 G G { tmps := vs ++ Array.replicate (fn.ntmps - vs.size) undef, defers := [] } w (.refl G) ⟨hI, fun t => ?_, by simp; omega, rfl⟩)) rfl)
  unfold frame0
  by_cases ht : t < args.length
  · rw [List.getD_eq_getElem?_getD, List.getElem?_eq_getElem ht, Option.getD_some, Array.getD_eq_getD_getElem?, Array.getElem?_append_left (by omega)]
    obtain ⟨v, hv, hrv⟩ := hr.get (List.getElem?_eq_getElem ht)
    rw [Array.getElem?_toList] at hv
    rw [hv]
    exact hrv
  · rw [List.getD_eq_getElem?_getD, List.getElem?_eq_none (by omega)]
    exact .junk _
theorem enters {g : FuncId} (h : FnOk P g) (args : Array Value) (w : World) : (callFunc g args).run P w = .ok (.enter g args) w := by
  obtain ⟨fn, h1, h2, h3⟩ := h
  have hb : ¬ fn.body = none := fun hb => by rw [hb] at h3; cases h3
  simp [callFunc, program, Sem.run, h1, h2, hb]

theorem range_post {d D : Nat} {id : Nat} {ops : Array Oper} {fn : Func} {K : AV → St → Prop} {σ3 : St} (hT : TyOk P Ty) (hd : allDst n ops = true) (hnd : ops.toList.all noDefer = true)
    (hpost : wpo P n ops (fun fr' σ' => σ'.objs[d]? = some [.dfc true] ∧ ∃ x y, ares Ty fr' (σ'.setSp d (.dfc false)) fn.results.toList = some x ∧ Wk x y ∧ K y (σ'.setSp d (.dfc false))) ops.toList fr σ3)
    {w0 : World} {G0 G2 : Ghost} {a : Act} {w : World} (h0 : G0.Le G2) (hl : G2.loc d = some D) (hS : SimD w0 G2 n a w fr σ3 [{ target := .collected D, args := #[] }]) :
    (Code.seq (.region id ops false) .ret).wp P (QM P fn K w0 G0) a w := by
  refine wp_seq ((wpIn_wide (n := 0)).1 (wpIn_region ?_))
  rw [List.range_eq_range', ← List.append_nil (List.range' 0 ops.size)]
  refine wpo_soundR (ro := none) hnd [] ops.size 0 G2 _ _ fr _ (by omega) hS (by rw [List.drop_zero, List.take_of_length_le (by simp)]; exact hpost) (allDst_spec hd) ?_
  rintro G4 a4 w4 fr4 σ4 hG4 hS4 ⟨hod, x', y', hx, hw, hk⟩
  refine wp_ret ?_
  have hloc4 := hG4.loc _ _ hl
  obtain ⟨b1, o, m1, m2, m3, m4⟩ := hS4.inv.sp _ _ hod rfl
  rw [hloc4] at m1
  injection m1 with m1
  subst m1
  cases m4
  have hI5 : Inv w0 G4 (w4.putObj D (.deferred none)) (σ4.setSp d (.dfc false)) := hS4.inv.set_sp hod rfl hloc4 rfl (.df false)
  obtain ⟨v', q1, q2⟩ := ares_sound hT (fn := fn) (a := { a4 with defers := [] }) (n := n) ⟨hI5, hS4.frm, hS4.size, rfl⟩ hx
  simp only [QM, bodyPostM, hS4.defers, LeavesInM]
  refine ⟨by simp, .inl ⟨_, _, rfl, run_takeDeferred m3, ?_⟩⟩
  exact ⟨v', q1, v', y', _, G4, rfl, h0.trans hG4, hI5, hw _ _ q2, hk⟩

theorem ax_range {bid : Nat} {g : Operand} {gf : FuncId} {cap : AV} {p : Tmp} {asg bd : Code} {id : Nat} {ops : Array Oper} {fn : Func} {K : AV → St → Prop} {KR : St → Prop} (hg : aeval fr g = .fn (.func gf) [] [cap]) (hfn : fn.ntmps = n) (avs : List AV) (ha : avs = (List.range n).map fr)
    (hit : ACall P gf [.yld (σ.objs.length + 1), cap] ⟨σ.objs ++ [[.dfc true]] ++ [[.lpc .ready avs #[p] asg bd]], σ.opn, σ.gl⟩
      (fun _ σ2 => σ2.objs[σ.objs.length + 1]? = some [.lpc .ready avs #[p] asg bd] ∧ σ2.objs[σ.objs.length]? = some [.dfc true] ∧ KR (σ2.setSp (σ.objs.length + 1) (.lpc .exhausted avs #[p] asg bd))))
    (hT : TyOk P Ty) (hd : allDst n ops = true) (hnd : ops.toList.all noDefer = true)
    (hpost : ∀ σ3, KR σ3 → wpo P n ops (fun fr' σ' => σ'.objs[σ.objs.length]? = some [.dfc true] ∧ ∃ x y, ares Ty fr' (σ'.setSp σ.objs.length (.dfc false)) fn.results.toList = some x ∧ Wk x y ∧ K y (σ'.setSp σ.objs.length (.dfc false))) ops.toList fr σ3) :
    AXT P n (.block bid (.rangeFunc g #[p] asg bd)) (.seq (.region id ops false) .ret) fn K fr σ := by
  intro w0 G G0 a w hG0 hS
  -- the two blocks
  obtain ⟨hGa, hIa⟩ := hS.inv.alloc_sp (o := .deferred (some [])) (a := .dfc true) rfl (.df true)
  have hfr : ∀ (fnid : FuncId), SpO (G.addLoc σ.objs.length w.heap.size 0) (.loop { state := .ready, pending := none, fn := fnid, tmps := a.tmps, params := #[p], assign := asg, body := bd, defers := w.heap.size }) (.lpc .ready avs #[p] asg bd) := fun fnid => by
    refine SpO.lp { state := .ready, pending := none, fn := fnid, tmps := a.tmps, params := #[p], assign := asg, body := bd, defers := w.heap.size } avs ⟨by rw [ha]; simp [hS.size], fun i v x h1 h2 => ?_⟩ rfl
    rw [ha, List.getElem?_map, Option.map_eq_some_iff] at h2
    obtain ⟨j, hj, rfl⟩ := h2
    obtain rfl : i = j := by
      have := (List.getElem?_eq_some_iff.1 hj).2
      simpa using this
    have := (hS.frm.mono hGa) i
    rw [Array.getD_eq_getD_getElem?] at this
    rw [Array.getElem?_toList] at h1
    rw [h1] at this
    exact this
  refine (wpIn_wide (n := 0)).1 ?_
  refine wpIn_block (wpIn_rangeFunc ?_)
  intro fnid _
  obtain ⟨hGb, hIb⟩ := hIa.alloc_sp (a := .lpc .ready avs #[p] asg bd) rfl (hfr fnid)
  have hrg := rel_aeval hS.frm g
  rw [hg] at hrg
  cases hgv : a.eval g <;> rw [hgv] at hrg <;> cases hrg
  rename_i fs cs e1 e3 e2 e4
  obtain rfl : fs = #[] := by apply Array.ext'; simpa using e1
  have hsz : (w.alloc (.deferred (some []))).heap.size = w.heap.size + 1 := by simp
  have hlen : (σ.objs ++ [[AV.dfc true]]).length = σ.objs.length + 1 := by simp
  rw [hsz, hlen] at hGb hIb
  have hG2 := hGa.trans hGb
  have hloc1 : ((G.addLoc σ.objs.length w.heap.size 0).addLoc (σ.objs.length + 1) (w.heap.size + 1) 0).loc (σ.objs.length + 1) = some (w.heap.size + 1) := by simp [Ghost.addLoc]
  have hloc0 : ((G.addLoc σ.objs.length w.heap.size 0).addLoc (σ.objs.length + 1) (w.heap.size + 1) 0).loc σ.objs.length = some w.heap.size := by simp [Ghost.addLoc]
  obtain ⟨W1, hW1⟩ : ∃ W1, (w.alloc (.deferred (some []))).alloc (.loop { state := .ready, pending := none, fn := fnid, tmps := a.tmps, params := #[p], assign := asg, body := bd, defers := w.heap.size }) = W1 := ⟨_, rfl⟩
  rw [hW1] at hIb
  refine ⟨w.heap.size + 1, [{ target := .collected w.heap.size, args := #[] }], W1, { target := .fn (.func gf) cs, args := #[.func (.yield (w.heap.size + 1)) #[] #[]] }, W1, gf, #[.func (.yield (w.heap.size + 1)) #[] #[]] ++ cs, W1, by rw [← hW1]; exact run_enterLoop_outer _ _ _ _ _, ?_, fun _ _ => trivial, ?_, fun h => (by cases h), callsR (ro := none) ?_⟩
  · simp only [resolve, hgv]
    simp [go_sem]
  · simp [invoke, go_sem, enters hit.1]
  have hcs : RelL ((G.addLoc σ.objs.length w.heap.size 0).addLoc (σ.objs.length + 1) (w.heap.size + 1) 0) cs.toList [cap] := ⟨by simpa using e2, fun i v x h1 h2 => (e4 i v x (by simpa using h1) h2).mono hG2⟩
  have hIc : Inv w0 ((G.addLoc σ.objs.length w.heap.size 0).addLoc (σ.objs.length + 1) (w.heap.size + 1) 0) W1 ⟨σ.objs ++ [[.dfc true]] ++ [[.lpc .ready avs #[p] asg bd]], σ.opn, σ.gl⟩ := hIb
  have hargs : RelL ((G.addLoc σ.objs.length w.heap.size 0).addLoc (σ.objs.length + 1) (w.heap.size + 1) 0) (#[Value.func (.yield (w.heap.size + 1)) #[] #[]] ++ cs).toList [.yld (σ.objs.length + 1), cap] := by
    rw [Array.toList_append]
    exact hcs.cons (.yld _ _ hloc1)
  have hcall := hit.2 w0 _ W1 (#[.func (.yield (w.heap.size + 1)) #[] #[]] ++ cs) hIc hargs
  clear hit hIb
  refine hcall.mono ?_
  rintro e w3 ⟨v, x, σ2, G2, rfl, hGc, hI2, hv, ho1, ho0, hkr⟩
  obtain ⟨r, k1, k2, k3, k4, k5, k6, k7, hI3⟩ := hI2.set_lp (st' := .exhausted) ho1 (hGc.loc _ _ hloc1)
  have hGz : G.Le G2 := hG2.trans hGc
  obtain ⟨r1, r2, r3, r4, r5, r6, r7, r8⟩ := r
  simp only at k2 k3
  subst k3
  have hend := run_endLoop (P := P) k1 (by rw [k2]; simp)
  have hfin := range_post hT hd hnd (hpost _ hkr) (hG0.trans hGz) (hGc.loc _ _ hloc0) (a := { a with defers := [{ target := .collected w.heap.size, args := #[] }] ++ a.defers }) ⟨hI3, hS.frm.mono hGz, hS.size, by simp [hS.defers]⟩ (id := id)
  exact ⟨none, _, hend, hfin⟩
end
end Go.Va
namespace Go.Proofs.YtggeboakilalhaaDoor
open Go Go.Va
set_option linter.unusedVariables false
set_option linter.unusedSimpArgs false
set_option maxRecDepth 20000
theorem ram_Ram_each_ok {x0 : ram_Ram} {r : Unit} (H : ram_Ram_each x0 = some r) (σ : St) {p0 p0B p0I p0N p0F p0L p0C p0H p0X p0G : Nat} (h0 : σ.objs[p0]? = some [(.ref p0B 0), (.ref p0I 0), (.vec p0H 1 (x0.heads).length), (.vec p0X 1 (x0.next_).length), (.vec p0G 5 (x0.things).length), (eI x0.count)]) (h0_budget : σ.objs[p0B]? = some (c_slab_Budget x0.budget)) (h0_lists : σ.objs[p0I]? = some [(.vec p0N 4 (x0.lists.nodes).length), (.vec p0F 1 (x0.lists.first_).length), (.vec p0L 1 (x0.lists.last_).length), (.vec p0C 1 (x0.lists.count).length), (eI x0.lists.free), (eI x0.lists.clock)]) (h0_lists_nodes : σ.objs[p0N]? = some (cL e_lists_link x0.lists.nodes)) (h0_lists_first_ : σ.objs[p0F]? = some (cL eI x0.lists.first_)) (h0_lists_last_ : σ.objs[p0L]? = some (cL eI x0.lists.last_)) (h0_lists_count : σ.objs[p0C]? = some (cL eI x0.lists.count)) (h0_heads : σ.objs[p0H]? = some (cL eI x0.heads)) (h0_next_ : σ.objs[p0X]? = some (cL eI x0.next_)) (h0_things : σ.objs[p0G]? = some (cL e_aEn x0.things)) (hd : [p0, p0B, p0I, p0N, p0F, p0L, p0C, p0H, p0X, p0G].Pairwise fun a b => a ≠ b) : ACall Tryd.prog 50 [(.ref p0 0)] σ (fun a τ => a = (.fn (.func 71) [] [(.fptr [(.ref p0 0)] 0)]) ∧ τ = σ) := by
 unfold ram_Ram_each at H
 refine ACall.pure (acall_start tk Tryd.func50 (by decide) rfl (nb rfl) ?_)
 have hH := Holds.brings (σ := σ) [(p0, [(.ref p0B 0), (.ref p0I 0), (.vec p0H 1 (x0.heads).length), (.vec p0X 1 (x0.next_).length), (.vec p0G 5 (x0.things).length), (eI x0.count)]), (p0B, (c_slab_Budget x0.budget)), (p0I, [(.vec p0N 4 (x0.lists.nodes).length), (.vec p0F 1 (x0.lists.first_).length), (.vec p0L 1 (x0.lists.last_).length), (.vec p0C 1 (x0.lists.count).length), (eI x0.lists.free), (eI x0.lists.clock)]), (p0N, (cL e_lists_link x0.lists.nodes)), (p0F, (cL eI x0.lists.first_)), (p0L, (cL eI x0.lists.last_)), (p0C, (cL eI x0.lists.count)), (p0H, (cL eI x0.heads)), (p0X, (cL eI x0.next_)), (p0G, (cL e_aEn x0.things))] (by simp only [List.mem_cons, List.not_mem_nil, or_false]; rintro _ (rfl | rfl | rfl | rfl | rfl | rfl | rfl | rfl | rfl | rfl) <;> assumption) hd
 refine sr rfl (m_ (.fptr [(.ref p0 0)] 0) rfl (o_boxf tk rfl wr (b := (.ref p0 0)) rfl) (ma tk .nilf rfl rfl (wpo_nil (sr rfl (mc tk (.fn (.func 71) [] [(.fptr [(.ref p0 0)] 0)]) rfl rfl (fun _ => rfl) (ma tk (.fn (.func 71) [] [(.fptr [(.ref p0 0)] 0)]) rfl rfl (wpo_nil (awp_ret ?_))))))))
 obtain rfl := oi H
 exact ⟨_, (.fn (.func 71) [] [(.fptr [(.ref p0 0)] 0)]), rfl, wr, .of_eq (by simp only [cutAV, cutL, idl_get h0]), ((((((((((hH.noT.unbring h0).unbring h0_budget).unbring h0_lists).unbring h0_lists_nodes).unbring h0_lists_first_).unbring h0_lists_last_).unbring h0_lists_count).unbring h0_heads).unbring h0_next_).unbring h0_things)⟩
theorem lists_Lists_Order_ok {x0 : lists_Lists} {x1 : Int} {r : (List Int)} (H : lists_Lists_Order x0 x1 = some r) (σ : St) {p0 p0_nodes p0_first_ p0_last_ p0_count : Nat} (h0 : σ.objs[p0]? = some [(.vec p0_nodes 4 (x0.nodes).length), (.vec p0_first_ 1 (x0.first_).length), (.vec p0_last_ 1 (x0.last_).length), (.vec p0_count 1 (x0.count).length), (eI x0.free), (eI x0.clock)]) (h0_nodes : σ.objs[p0_nodes]? = some (cL e_lists_link x0.nodes)) (h0_first_ : σ.objs[p0_first_]? = some (cL eI x0.first_)) (h0_last_ : σ.objs[p0_last_]? = some (cL eI x0.last_)) (h0_count : σ.objs[p0_count]? = some (cL eI x0.count)) (hd : [p0, p0_nodes, p0_first_, p0_last_, p0_count].Pairwise fun a b => a ≠ b) : ACall Tryd.prog 72 [(.ref p0 0), (eI x1)] σ (fun a τ => a = (eL 1 eI) r ∧ τ = σ) := by
 unfold lists_Lists_Order at H
 refine ACall.pure (acall_start tk Tryd.func72 (by decide) rfl (nb rfl) ?_)
 have hH := Holds.brings (σ := σ) [(p0, [(.vec p0_nodes 4 (x0.nodes).length), (.vec p0_first_ 1 (x0.first_).length), (.vec p0_last_ 1 (x0.last_).length), (.vec p0_count 1 (x0.count).length), (eI x0.free), (eI x0.clock)]), (p0_nodes, (cL e_lists_link x0.nodes)), (p0_first_, (cL eI x0.first_)), (p0_last_, (cL eI x0.last_)), (p0_count, (cL eI x0.count))] (by simp only [List.mem_cons, List.not_mem_nil, or_false]; rintro _ (rfl | rfl | rfl | rfl | rfl) <;> assumption) hd
 refine sr rfl (ma tk AV.nils rfl rfl (wpo_nil (awp_seq (awp_seq ?_))))
 obtain ⟨s1, hs3, hj4⟩ := ob H
 refine awp_cutn (fun fr τ => WkF fr (fm [(0, (.ref p0 0)), (1, (eI x1)), (17, (eB s1))]) ∧ Holds σ [(p0, [(.vec p0_nodes 4 (x0.nodes).length), (.vec p0_first_ 1 (x0.first_).length), (.vec p0_last_ 1 (x0.last_).length), (.vec p0_count 1 (x0.count).length), (eI x0.free), (eI x0.clock)]), (p0_nodes, (cL e_lists_link x0.nodes)), (p0_first_, (cL eI x0.first_)), (p0_last_, (cL eI x0.last_)), (p0_count, (cL eI x0.count))] [] τ) ?_ ?_
 ·rintro fr τ ⟨hfr, hH⟩
  have H12 := hj4
  refine AWP.fm [(0, (.ref p0 0)), (1, (eI x1)), (17, (eB s1))] hfr ?_
  refine awp_if H12 rfl (fun H13 => ?_) (fun H13 => ?_)
  ·refine sr rfl (ma tk AV.nils rfl rfl (wpo_nil (awp_ret ?_)))
   obtain rfl := oi H13
   exact ⟨_, ((eL 1 eI) []), rfl, (wk_nils _), .of_eq ((enc_l td70 sz70 (enc_i64 td3 sz3).cut).cut _ _ _), (((((hH.noT.unbring h0).unbring h0_nodes).unbring h0_first_).unbring h0_last_).unbring h0_count)⟩
  ·refine awp_skip (sr rfl (ma tk AV.nils rfl rfl (wpo_nil (awp_seq (sr rfl (mm tk (.ref p0 0) rfl rfl (mc tk (.ref p0 0) rfl rfl (fun _ => rfl) (mc tk (.ref p0 1) rfl rfl (fun _ => rfl) ?_))))))))
   refine wpo_rd (a := (.vec p0_first_ 1 (x0.first_).length)) rfl rfl rfl (h_ld tk hH 0 rfl rfl rfl) (mm tk (eI x1) rfl rfl ?_)
   refine b_ H13 (fun _ => .ref p0_first_ (0 + (x1 : Int).toNat * 1 + 0)) rfl (fun v15 hv => o_vecx tk hv td70 sz3 (by decide) rfl rfl) fun v15 hv15 H14 => ?_
   refine wpo_bdr H14 (fun y => eI y) rfl rfl rfl (fun v17 hv => h_ldx tk hH 2 hv rfl (enc_i64 td3 sz3) (acut_enc (enc_i64 td3 sz3) rfl _) (by decide) rfl) fun v17 hv17 H16 => ?_
   refine ma tk (eI v17) rfl rfl (wpo_nil (awp_block ?_))
   refine AWP.tokN hH 5 1 rfl fun tk20 τ hH => ?_
   obtain ⟨s28, hs22, hj23⟩ := ob H16
   refine awp_cutx 0 (fun fr τ => ∃ tk_5, WkF fr (fm [(5, (eT tk_5 1 eI s28))]) ∧ Holds σ [(p0, [(.vec p0_nodes 4 (x0.nodes).length), (.vec p0_first_ 1 (x0.first_).length), (.vec p0_last_ 1 (x0.last_).length), (.vec p0_count 1 (x0.count).length), (eI x0.free), (eI x0.clock)]), (p0_nodes, (cL e_lists_link x0.nodes)), (p0_first_, (cL eI x0.first_)), (p0_last_, (cL eI x0.last_)), (p0_count, (cL eI x0.count))] [tk_5] τ) ?_ ?_
   ·rintro fr τ ⟨tk_5, hfr, hH⟩
    have H43 := hj23
    refine AWP.fm [(5, (eT tk_5 1 eI s28))] hfr ?_
    refine sr rfl (mm tk (eT tk_5 1 eI s28) rfl rfl (ma tk (eT tk_5 1 eI s28) rfl rfl (wpo_nil (awp_ret ?_))))
    obtain rfl := oi H43
    exact ⟨_, ((eL 1 eI) s28), rfl, wk_no, .of_eq ((enc_l td70 sz70 (enc_i64 td3 sz3).cut).cut _ _ _), (((((hH.noT.unbring h0).unbring h0_nodes).unbring h0_first_).unbring h0_last_).unbring h0_count)⟩
   ·refine awp_loopO (body := fun s => lists_Lists_Order_b0 x0 s.1 s.2) hs22 (fun (s : (List Int) × Int) fr τ => ∃ tk_5, WkF fr (fm [(0, (.ref p0 0)), (5, (eT tk_5 1 eI s.1)), (6, (eI s.2))]) ∧ Holds σ [(p0, [(.vec p0_nodes 4 (x0.nodes).length), (.vec p0_first_ 1 (x0.first_).length), (.vec p0_last_ 1 (x0.last_).length), (.vec p0_count 1 (x0.count).length), (eI x0.free), (eI x0.clock)]), (p0_nodes, (cL e_lists_link x0.nodes)), (p0_first_, (cL eI x0.first_)), (p0_last_, (cL eI x0.last_)), (p0_count, (cL eI x0.count))] [tk_5] τ) ⟨tk20, (wc (wc (wc (wkf_nil _)))), hH⟩ ?_
    rintro ⟨c18, c19⟩ fr τ y24 ⟨tk_5, hfr, hH⟩ hb26 hy27
    have H29 : lists_Lists_Order_b0 x0 c18 c19 = some y24 := hb26
    unfold lists_Lists_Order_b0 at H29
    refine AWP.fm [(0, (.ref p0 0)), (5, (eT tk_5 1 eI c18)), (6, (eI c19))] hfr ?_
    have hH : Holds σ [(p0, [(.vec p0_nodes 4 (x0.nodes).length), (.vec p0_first_ 1 (x0.first_).length), (.vec p0_last_ 1 (x0.last_).length), (.vec p0_count 1 (x0.count).length), (eI x0.free), (eI x0.clock)]), (p0_nodes, (cL e_lists_link x0.nodes)), (p0_first_, (cL eI x0.first_)), (p0_last_, (cL eI x0.last_)), (p0_count, (cL eI x0.count))] [tk_5] τ := hH
    refine awp_seq (sr rfl (mm tk (eI c19) rfl rfl ?_))
    refine l_ H29 eB rfl (o_ar tk rfl rfl rfl) fun v31 H30 => ?_
    refine wpo_nil ?_
    refine awp_if H30 rfl (fun H32 => ?_) (fun H32 => ?_)
    ·refine awp_skip (awp_seq (awp_block (awp_region rfl (mm tk (eT tk_5 1 eI c18) rfl rfl (mm tk (eI c19) rfl rfl ?_)))))
     refine l_ H32 (eF 1 eI) rfl (o_c tk false rfl (fun _ => rfl)) fun v34 H33 => ?_
     obtain ⟨v36, hv37, H35⟩ := ob H33
     refine wpo_a (av := fun t => eT t 1 eI v36) rfl rfl rfl (h_app tk hH 0 hv37 rfl td70 ty3 rfl (by decide) rfl (src_l td70 rfl)) fun tk38 τ hH => ?_
     refine ma tk (eT tk38 1 eI v36) rfl rfl (wpo_nil (awp_region rfl (mm tk (.ref p0 0) rfl rfl (mc tk (.ref p0 0) rfl rfl (fun _ => rfl) (mc tk (.ref p0 0) rfl rfl (fun _ => rfl) (wpo_rd (a := (.vec p0_nodes 4 (x0.nodes).length)) rfl rfl rfl (h_ld tk hH 0 rfl rfl rfl) (mm tk (eI c19) rfl rfl ?_)))))))
     refine b_ H35 (fun _ => .ref p0_nodes (0 + (c19 : Int).toNat * 4 + 0)) rfl (fun v40 hv => o_vecx tk hv td102 sz106 (by decide) rfl rfl) fun v40 hv40 H39 => ?_
     refine mc tk (.ref p0_nodes (0 + (c19 : Int).toNat * 4 + 1)) rfl rfl (fun _ => rfl) ?_
     refine wpo_bdr H39 (fun y => eI y.behind) rfl rfl rfl (fun v42 hv => h_ldx tk hH 1 hv rfl enc106 rfl (by decide) rfl) fun v42 hv42 H41 => ?_
     refine ma tk (eI v42.behind) rfl rfl (wpo_nil ?_)
     exact ⟨(v36, v42.behind), inj_inl H41, tk38, (wc (wc (wc (wkf_nil _)))), hH⟩
    ·refine awp_exit ?_
     have hz := hy27 _ (inj_inr H32)
     subst hz
     exact ⟨⟨_, inj_inr H32⟩, tk_5, (wc (wkf_nil _)), hH⟩
 ·refine awp_region rfl (mm tk (eI x1) rfl rfl ?_)
  refine l_ hs3 eB rfl (o_ar tk rfl rfl rfl) fun v6 H5 => ?_
  refine mm tk (eB v6) rfl rfl ?_
  refine if_split H5 (fun hb H7 => ?_) (fun hb H7 => ?_)
  ·subst hb
   refine k_ rfl (k_ rfl (k_ rfl (k_ rfl (k_ rfl (k_ rfl (k_ rfl (pt tk (eB true) rfl rfl rfl (wpo_nil ?_))))))))
   have e := oi H7
   subst e
   exact ⟨(wc (wc (wc (wkf_nil _)))), hH⟩
  ·subst hb
   refine mm tk (eI x1) rfl rfl (mm tk (.ref p0 0) rfl rfl (mc tk (.ref p0 0) rfl rfl (fun _ => rfl) (mc tk (.ref p0 1) rfl rfl (fun _ => rfl) (wpo_rd (a := (.vec p0_first_ 1 (x0.first_).length)) rfl rfl rfl (h_ld tk hH 0 rfl rfl rfl) ?_))))
   refine l_ H7 eI rfl (o_vlen tk td70 rfl) fun v9 H8 => ?_
   refine l_ H8 eB rfl (o_ar tk rfl rfl rfl) fun v11 H10 => ?_
   refine pf tk (eB v11) rfl rfl rfl (wpo_nil ?_)
   have e := oi H10
   subst e
   exact ⟨(wc (wc (wc (wkf_nil _)))), hH⟩
theorem ram_Ram_All_y_ok {x0 : ram_Ram} {l0 : List aEn} {x1 : aEn} {r : List aEn} (H : ram_Ram_All_y l0 x1 = some r) {σ0 σ : St} {q0 lp0 df0 tk0 : Nat} {p0 p0B p0I p0N p0F p0L p0C p0H p0X p0G : Nat} {avs : List AV} (hlen : avs.length = 14) (h3 : avs[3]? = some (.ref q0 0)) (hH : Holds σ0 [(lp0, [.lpc .ready avs #[7] ram_Ram_All_asg ram_Ram_All_bd]), (df0, [.dfc true]), (q0, [(eT tk0 5 e_aEn l0)]), (p0, [(.ref p0B 0), (.ref p0I 0), (.vec p0H 1 (x0.heads).length), (.vec p0X 1 (x0.next_).length), (.vec p0G 5 (x0.things).length), (eI x0.count)]), (p0B, (c_slab_Budget x0.budget)), (p0I, [(.vec p0N 4 (x0.lists.nodes).length), (.vec p0F 1 (x0.lists.first_).length), (.vec p0L 1 (x0.lists.last_).length), (.vec p0C 1 (x0.lists.count).length), (eI x0.lists.free), (eI x0.lists.clock)]), (p0N, (cL e_lists_link x0.lists.nodes)), (p0F, (cL eI x0.lists.first_)), (p0L, (cL eI x0.lists.last_)), (p0C, (cL eI x0.lists.count)), (p0H, (cL eI x0.heads)), (p0X, (cL eI x0.next_)), (p0G, (cL e_aEn x0.things))] [tk0] σ) :
  AWPI Tryd.prog avs.length ram_Ram_All_asg (fun e fr1 σ1 => e = .normal ∧ σ1.objs[lp0]? = some [.lpc .ready avs #[7] ram_Ram_All_asg ram_Ram_All_bd] ∧ AWPI Tryd.prog avs.length ram_Ram_All_bd (fun e fr2 σ2 => e = .normal ∧ σ2.objs[lp0]? = some [.lpc .busy avs #[7] ram_Ram_All_asg ram_Ram_All_bd] ∧ (fun τ => ∃ tk, Holds σ0 [(lp0, [.lpc .ready avs #[7] ram_Ram_All_asg ram_Ram_All_bd]), (df0, [.dfc true]), (q0, [(eT tk 5 e_aEn r)]), (p0, [(.ref p0B 0), (.ref p0I 0), (.vec p0H 1 (x0.heads).length), (.vec p0X 1 (x0.next_).length), (.vec p0G 5 (x0.things).length), (eI x0.count)]), (p0B, (c_slab_Budget x0.budget)), (p0I, [(.vec p0N 4 (x0.lists.nodes).length), (.vec p0F 1 (x0.lists.first_).length), (.vec p0L 1 (x0.lists.last_).length), (.vec p0C 1 (x0.lists.count).length), (eI x0.lists.free), (eI x0.lists.clock)]), (p0N, (cL e_lists_link x0.lists.nodes)), (p0F, (cL eI x0.lists.first_)), (p0L, (cL eI x0.lists.last_)), (p0C, (cL eI x0.lists.count)), (p0H, (cL eI x0.heads)), (p0X, (cL eI x0.next_)), (p0G, (cL e_aEn x0.things))] [tk] τ) (σ2.setSp lp0 (.lpc .ready avs #[7] ram_Ram_All_asg ram_Ram_All_bd))) fr1 (σ1.setSp lp0 (.lpc .busy avs #[7] ram_Ram_All_asg ram_Ram_All_bd))) (upd (frame0 avs) 7 (e_aEn x1)) σ := by
 rw [hlen]
 unfold ram_Ram_All_y at H
 refine AWPI.wk (g := fm [(3, (.ref q0 0)), (7, (e_aEn x1))]) ?_ (wkf_cons (.of_eq (by simp [upd, frame0, List.getD_eq_getElem?_getD, h3])) (wkf_cons (.of_eq (by simp [upd])) (wkf_nil _)))
 refine awpi_region rfl rfl ?_
 refine wpo_a (av := fun id => .ref id 0) rfl rfl rfl (h_alloc tk hH ty39 [(eS z_aEn.Key), (eI z_aEn.Version), (eI z_aEn.AsOf), (eI z_aEn.Ends), AV.nils] rfl) fun id1 τ ⟨hH, n2⟩ => ?_
 refine wpo_z rfl rfl (h_st tk hH 0 rfl ty39 (by simp) rfl rfl wr (b := (e_aEn x1)) (enc39.flat _) rfl (nb rfl) (c_aEn (x1 : aEn)) rfl) fun τ hH => ?_
 refine wpo_nil ?_
 refine ⟨rfl, hH.at_ 1 rfl, ?_⟩
 have hH := hH.setSp 1 rfl (.lpc .busy avs #[7] ram_Ram_All_asg ram_Ram_All_bd)
 refine awpi_block ?_
 refine awpi_drawS mixed [4, 5] rfl rfl (by decide +kernel) rfl rfl ?_
 refine wpdS_rd (a := (eT tk0 5 e_aEn l0)) rfl (by decide +kernel) rfl rfl (h_ld tk hH 3 rfl rfl rfl) (wpdS_rd (a := (e_aEn (x1 : aEn))) rfl (by decide +kernel) rfl rfl (h_ld tk hH 0 rfl rfl rfl) ?_)
 refine wpdS_bd H e_aEn rfl rfl rfl (fun v5 hv => OpP.of_call rfl rfl (.cons wr .nil) (item_Copy_ok hv)) fun v5 hv5 H4 => ?_
 refine wpdS_lt H4 (eF 5 e_aEn) rfl rfl rfl (o_c tk false rfl (fun _ => rfl)) fun v7 H6 => ?_
 obtain ⟨v9, hv10, H8⟩ := ob H6
 refine wpdS_a (av := fun t => eT t 5 e_aEn v9) rfl rfl rfl (h_app tk hH 0 hv10 rfl td31 ty39 rfl (by decide) rfl (src_l td31 rfl)) fun tk11 τ hH => ?_
 refine wpdS_z rfl rfl rfl (h_st (y := (eT tk11 5 e_aEn v9)) tk hH 3 rfl ty31 (by simp) rfl rfl wr (b := (eT tk11 5 e_aEn v9)) rfl rfl (nb rfl) [(eT tk11 5 e_aEn (v9 : List aEn))] rfl) fun τ hH => ?_
 refine wpdS_nil ?_
 obtain rfl := oi H8
 exact ⟨rfl, hH.at_ 1 rfl, tk11, ((hH.setSp 1 rfl (.lpc .ready avs #[7] ram_Ram_All_asg ram_Ram_All_bd)).dropAt 0 rfl n2)⟩
theorem ram_Ram_each_1_ok {x0 : ram_Ram} {l0 : List aEn} {r : List aEn} (H : ram_Ram_each_1 x0 l0 = some r) {σ0 σ : St} {q0 lp0 df0 tk0 : Nat} {p0 p0B p0I p0N p0F p0L p0C p0H p0X p0G : Nat} {avs : List AV} (hlen : avs.length = 14) (h3 : avs[3]? = some (.ref q0 0)) (hH : Holds σ0 [(lp0, [.lpc .ready avs #[7] ram_Ram_All_asg ram_Ram_All_bd]), (df0, [.dfc true]), (q0, [(eT tk0 5 e_aEn l0)]), (p0, [(.ref p0B 0), (.ref p0I 0), (.vec p0H 1 (x0.heads).length), (.vec p0X 1 (x0.next_).length), (.vec p0G 5 (x0.things).length), (eI x0.count)]), (p0B, (c_slab_Budget x0.budget)), (p0I, [(.vec p0N 4 (x0.lists.nodes).length), (.vec p0F 1 (x0.lists.first_).length), (.vec p0L 1 (x0.lists.last_).length), (.vec p0C 1 (x0.lists.count).length), (eI x0.lists.free), (eI x0.lists.clock)]), (p0N, (cL e_lists_link x0.lists.nodes)), (p0F, (cL eI x0.lists.first_)), (p0L, (cL eI x0.lists.last_)), (p0C, (cL eI x0.lists.count)), (p0H, (cL eI x0.heads)), (p0X, (cL eI x0.next_)), (p0G, (cL e_aEn x0.things))] [tk0] σ) :
  ACall Tryd.prog 71 [.yld lp0, .fptr [.ref p0 0] 0] σ (fun _ τ => ∃ tk, Holds σ0 [(lp0, [.lpc .ready avs #[7] ram_Ram_All_asg ram_Ram_All_bd]), (df0, [.dfc true]), (q0, [(eT tk 5 e_aEn r)]), (p0, [(.ref p0B 0), (.ref p0I 0), (.vec p0H 1 (x0.heads).length), (.vec p0X 1 (x0.next_).length), (.vec p0G 5 (x0.things).length), (eI x0.count)]), (p0B, (c_slab_Budget x0.budget)), (p0I, [(.vec p0N 4 (x0.lists.nodes).length), (.vec p0F 1 (x0.lists.first_).length), (.vec p0L 1 (x0.lists.last_).length), (.vec p0C 1 (x0.lists.count).length), (eI x0.lists.free), (eI x0.lists.clock)]), (p0N, (cL e_lists_link x0.lists.nodes)), (p0F, (cL eI x0.lists.first_)), (p0L, (cL eI x0.lists.last_)), (p0C, (cL eI x0.lists.count)), (p0H, (cL eI x0.heads)), (p0X, (cL eI x0.next_)), (p0G, (cL e_aEn x0.things))] [tk] τ) := by
 unfold ram_Ram_each_1 at H
 refine acall_start tk Tryd.func71 (by decide) rfl (nb rfl) ?_
 refine sr rfl (mm tk (eI (0 : Int)) rfl rfl (wpo_nil (awp_block ?_)))
 obtain ⟨s10, hs4, hj5⟩ := ob H
 refine awp_cutx 0 (fun fr τ => ∃ tk_q0_None, WkF fr (fm []) ∧ Holds σ0 [(lp0, [.lpc .ready avs #[7] ram_Ram_All_asg ram_Ram_All_bd]), (df0, [.dfc true]), (q0, [(eT tk_q0_None 5 e_aEn s10)]), (p0, [(.ref p0B 0), (.ref p0I 0), (.vec p0H 1 (x0.heads).length), (.vec p0X 1 (x0.next_).length), (.vec p0G 5 (x0.things).length), (eI x0.count)]), (p0B, (c_slab_Budget x0.budget)), (p0I, [(.vec p0N 4 (x0.lists.nodes).length), (.vec p0F 1 (x0.lists.first_).length), (.vec p0L 1 (x0.lists.last_).length), (.vec p0C 1 (x0.lists.count).length), (eI x0.lists.free), (eI x0.lists.clock)]), (p0N, (cL e_lists_link x0.lists.nodes)), (p0F, (cL eI x0.lists.first_)), (p0L, (cL eI x0.lists.last_)), (p0C, (cL eI x0.lists.count)), (p0H, (cL eI x0.heads)), (p0X, (cL eI x0.next_)), (p0G, (cL e_aEn x0.things))] [tk_q0_None] τ) ?_ ?_
 ·rintro fr τ ⟨tk_q0_None, hfr, hH⟩
  have H48 := hj5
  obtain rfl := oi H48
  exact ⟨_, .tup [], rfl, .of_eq rfl, tk_q0_None, hH⟩
 ·refine awp_loopO (body := fun s => ram_Ram_each_1_b0 x0 s.1 s.2) hs4 (fun (s : Int × (List aEn)) fr τ => ∃ tk_q0_None, WkF fr (fm [(0, (.yld lp0)), (1, (.fptr [(.ref p0 0)] 0)), (6, (eI s.1))]) ∧ Holds σ0 [(lp0, [.lpc .ready avs #[7] ram_Ram_All_asg ram_Ram_All_bd]), (df0, [.dfc true]), (q0, [(eT tk_q0_None 5 e_aEn s.2)]), (p0, [(.ref p0B 0), (.ref p0I 0), (.vec p0H 1 (x0.heads).length), (.vec p0X 1 (x0.next_).length), (.vec p0G 5 (x0.things).length), (eI x0.count)]), (p0B, (c_slab_Budget x0.budget)), (p0I, [(.vec p0N 4 (x0.lists.nodes).length), (.vec p0F 1 (x0.lists.first_).length), (.vec p0L 1 (x0.lists.last_).length), (.vec p0C 1 (x0.lists.count).length), (eI x0.lists.free), (eI x0.lists.clock)]), (p0N, (cL e_lists_link x0.lists.nodes)), (p0F, (cL eI x0.lists.first_)), (p0L, (cL eI x0.lists.last_)), (p0C, (cL eI x0.lists.count)), (p0H, (cL eI x0.heads)), (p0X, (cL eI x0.next_)), (p0G, (cL e_aEn x0.things))] [tk_q0_None] τ) ⟨tk0, (wc (wc (wc (wkf_nil _)))), hH⟩ ?_
  rintro ⟨c1, c2⟩ fr τ y6 ⟨tk_q0_None, hfr, hH⟩ hb8 hy9
  have H11 : ram_Ram_each_1_b0 x0 c1 c2 = some y6 := hb8
  unfold ram_Ram_each_1_b0 at H11
  refine AWP.fm [(0, (.yld lp0)), (1, (.fptr [(.ref p0 0)] 0)), (6, (eI c1))] hfr ?_
  have hH : Holds σ0 [(lp0, [.lpc .ready avs #[7] ram_Ram_All_asg ram_Ram_All_bd]), (df0, [.dfc true]), (q0, [(eT tk_q0_None 5 e_aEn c2)]), (p0, [(.ref p0B 0), (.ref p0I 0), (.vec p0H 1 (x0.heads).length), (.vec p0X 1 (x0.next_).length), (.vec p0G 5 (x0.things).length), (eI x0.count)]), (p0B, (c_slab_Budget x0.budget)), (p0I, [(.vec p0N 4 (x0.lists.nodes).length), (.vec p0F 1 (x0.lists.first_).length), (.vec p0L 1 (x0.lists.last_).length), (.vec p0C 1 (x0.lists.count).length), (eI x0.lists.free), (eI x0.lists.clock)]), (p0N, (cL e_lists_link x0.lists.nodes)), (p0F, (cL eI x0.lists.first_)), (p0L, (cL eI x0.lists.last_)), (p0C, (cL eI x0.lists.count)), (p0H, (cL eI x0.heads)), (p0X, (cL eI x0.next_)), (p0G, (cL e_aEn x0.things))] [tk_q0_None] τ := hH
  refine sr rfl ?_
  refine l_ H11 eB rfl (o_ar tk rfl rfl rfl) fun v13 H12 => ?_
  refine wpo_nil (awp_seq ?_)
  refine awp_if H12 rfl (fun H14 => ?_) (fun H14 => ?_)
  ·refine awp_skip (awp_seq (awp_block (sr rfl (mm tk (eI c1) rfl rfl (ma tk (eI c1) rfl rfl (wpo_nil (sr rfl (m_ (.ref p0 0) rfl (o_ld tk rfl rfl) ?_))))))))
   refine mc tk (.ref p0 0) rfl rfl (fun _ => rfl) (mc tk (.ref p0 1) rfl rfl (fun _ => rfl) (wpo_rd (a := (.ref p0I 0)) rfl rfl rfl (h_ld tk hH 3 rfl rfl rfl) (mm tk (eI c1) rfl rfl ?_)))
   refine wpo_bdr H14 (eL 1 eI) rfl rfl rfl (fun v16 hv => h_callr rfl rfl (.cons wr (.cons wr .nil)) (lists_Lists_Order_ok hv _ (hH.at_ 5 rfl) (hH.at_ 6 rfl) (hH.at_ 7 rfl) (hH.at_ 8 rfl) (hH.at_ 9 rfl) (hH.pw [5, 6, 7, 8, 9] rfl (by decide)))) fun v16 hv16 H15 => ?_
   refine l_ H15 eI rfl (o_len tk td70 rfl) fun v18 H17 => ?_
   refine mm tk (eI (0 : Int)) rfl rfl (wpo_nil (awp_block ?_))
   obtain ⟨s28, hs22, hj23⟩ := ob H17
   refine awp_cutx 2 (fun fr τ => ∃ tk_q0_None, WkF fr (fm [(0, (.yld lp0)), (1, (.fptr [(.ref p0 0)] 0)), (6, (eI c1))]) ∧ Holds σ0 [(lp0, [.lpc .ready avs #[7] ram_Ram_All_asg ram_Ram_All_bd]), (df0, [.dfc true]), (q0, [(eT tk_q0_None 5 e_aEn s28)]), (p0, [(.ref p0B 0), (.ref p0I 0), (.vec p0H 1 (x0.heads).length), (.vec p0X 1 (x0.next_).length), (.vec p0G 5 (x0.things).length), (eI x0.count)]), (p0B, (c_slab_Budget x0.budget)), (p0I, [(.vec p0N 4 (x0.lists.nodes).length), (.vec p0F 1 (x0.lists.first_).length), (.vec p0L 1 (x0.lists.last_).length), (.vec p0C 1 (x0.lists.count).length), (eI x0.lists.free), (eI x0.lists.clock)]), (p0N, (cL e_lists_link x0.lists.nodes)), (p0F, (cL eI x0.lists.first_)), (p0L, (cL eI x0.lists.last_)), (p0C, (cL eI x0.lists.count)), (p0H, (cL eI x0.heads)), (p0X, (cL eI x0.next_)), (p0G, (cL e_aEn x0.things))] [tk_q0_None] τ) ?_ ?_
   ·rintro fr τ ⟨tk_q0_None, hfr, hH⟩
    have H45 := hj23
    refine AWP.fm [(0, (.yld lp0)), (1, (.fptr [(.ref p0 0)] 0)), (6, (eI c1))] hfr ?_
    refine awp_region rfl ?_
    refine l_ H45 eI rfl (o_ar tk rfl rfl rfl) fun v47 H46 => ?_
    refine mm tk (eI v47) rfl rfl (wpo_nil ?_)
    exact ⟨(v47, s28), inj_inl H46, tk_q0_None, (wc (wc (wc (wkf_nil _)))), hH⟩
   ·refine awp_loopO (body := fun s => ram_Ram_each_1_b1 x0 c1 v16 v18 s.1 s.2) hs22 (fun (s : Int × (List aEn)) fr τ => ∃ tk_q0_None, WkF fr (fm [(0, (.yld lp0)), (1, (.fptr [(.ref p0 0)] 0)), (6, (eI c1)), (14, ((eL 1 eI) v16)), (15, (eI v18)), (16, (eI s.1))]) ∧ Holds σ0 [(lp0, [.lpc .ready avs #[7] ram_Ram_All_asg ram_Ram_All_bd]), (df0, [.dfc true]), (q0, [(eT tk_q0_None 5 e_aEn s.2)]), (p0, [(.ref p0B 0), (.ref p0I 0), (.vec p0H 1 (x0.heads).length), (.vec p0X 1 (x0.next_).length), (.vec p0G 5 (x0.things).length), (eI x0.count)]), (p0B, (c_slab_Budget x0.budget)), (p0I, [(.vec p0N 4 (x0.lists.nodes).length), (.vec p0F 1 (x0.lists.first_).length), (.vec p0L 1 (x0.lists.last_).length), (.vec p0C 1 (x0.lists.count).length), (eI x0.lists.free), (eI x0.lists.clock)]), (p0N, (cL e_lists_link x0.lists.nodes)), (p0F, (cL eI x0.lists.first_)), (p0L, (cL eI x0.lists.last_)), (p0C, (cL eI x0.lists.count)), (p0H, (cL eI x0.heads)), (p0X, (cL eI x0.next_)), (p0G, (cL e_aEn x0.things))] [tk_q0_None] τ) ⟨tk_q0_None, (wc (wc (wc (wc (wc (wc (wkf_nil _))))))), hH⟩ ?_
    rintro ⟨c19, c20⟩ fr τ y24 ⟨tk_q0_None, hfr, hH⟩ hb26 hy27
    have H29 : ram_Ram_each_1_b1 x0 c1 v16 v18 c19 c20 = some y24 := hb26
    unfold ram_Ram_each_1_b1 at H29
    refine AWP.fm [(0, (.yld lp0)), (1, (.fptr [(.ref p0 0)] 0)), (6, (eI c1)), (14, ((eL 1 eI) v16)), (15, (eI v18)), (16, (eI c19))] hfr ?_
    have hH : Holds σ0 [(lp0, [.lpc .ready avs #[7] ram_Ram_All_asg ram_Ram_All_bd]), (df0, [.dfc true]), (q0, [(eT tk_q0_None 5 e_aEn c20)]), (p0, [(.ref p0B 0), (.ref p0I 0), (.vec p0H 1 (x0.heads).length), (.vec p0X 1 (x0.next_).length), (.vec p0G 5 (x0.things).length), (eI x0.count)]), (p0B, (c_slab_Budget x0.budget)), (p0I, [(.vec p0N 4 (x0.lists.nodes).length), (.vec p0F 1 (x0.lists.first_).length), (.vec p0L 1 (x0.lists.last_).length), (.vec p0C 1 (x0.lists.count).length), (eI x0.lists.free), (eI x0.lists.clock)]), (p0N, (cL e_lists_link x0.lists.nodes)), (p0F, (cL eI x0.lists.first_)), (p0L, (cL eI x0.lists.last_)), (p0C, (cL eI x0.lists.count)), (p0H, (cL eI x0.heads)), (p0X, (cL eI x0.next_)), (p0G, (cL e_aEn x0.things))] [tk_q0_None] τ := hH
    refine sr rfl ?_
    refine l_ H29 eB rfl (o_ar tk rfl rfl rfl) fun v31 H30 => ?_
    refine wpo_nil (awp_seq ?_)
    refine awp_if H30 rfl (fun H32 => ?_) (fun H32 => ?_)
    ·refine awp_skip (awp_seq (awp_block (sr rfl ?_)))
     refine b_ H32 (fun y => .fptr (eI y).cells 0) rfl (fun v34 hv => o_ixa tk hv td70 (enc_i64 td3 sz3) rfl rfl) fun v34 hv34 H33 => ?_
     refine m_ (eI v34) rfl (o_ld_e tk (enc_i64 td3 sz3) rfl rfl) (ma tk (eI v34) rfl rfl (wpo_nil (awp_seq ?_)))
     refine awp_regionY 8 rfl rfl rfl rfl ?_
     refine mm tk (.yld lp0) rfl rfl (m_ (.ref p0 0) rfl (o_ld tk rfl rfl) (mc tk (.ref p0 0) rfl rfl (fun _ => rfl) (mc tk (.ref p0 4) rfl rfl (fun _ => rfl) (wpo_rd (a := (.vec p0G 5 (x0.things).length)) rfl rfl rfl (h_ld tk hH 3 rfl rfl rfl) (mm tk (eI v34) rfl rfl ?_)))))
     refine b_ H33 (fun _ => .ref p0G (0 + (v34 : Int).toNat * 5 + 0)) rfl (fun v36 hv => o_vecx tk hv td31 sz39 (by decide) rfl rfl) fun v36 hv36 H35 => ?_
     refine wpo_bdr H35 (fun y => e_aEn y) rfl rfl rfl (fun v38 hv => h_ldx tk hH 12 hv rfl enc39 (acut_enc enc39 rfl _) (by decide) rfl) fun v38 hv38 H37 => ?_
     refine wpo_nil ?_
     obtain ⟨v40, hv41, H39⟩ := ob H37
     refine OpY.mono (opy_round (K := fun τ => ∃ tk42, Holds σ0 [(lp0, [.lpc .ready avs #[7] ram_Ram_All_asg ram_Ram_All_bd]), (df0, [.dfc true]), (q0, [(eT tk42 5 e_aEn v40)]), (p0, [(.ref p0B 0), (.ref p0I 0), (.vec p0H 1 (x0.heads).length), (.vec p0X 1 (x0.next_).length), (.vec p0G 5 (x0.things).length), (eI x0.count)]), (p0B, (c_slab_Budget x0.budget)), (p0I, [(.vec p0N 4 (x0.lists.nodes).length), (.vec p0F 1 (x0.lists.first_).length), (.vec p0L 1 (x0.lists.last_).length), (.vec p0C 1 (x0.lists.count).length), (eI x0.lists.free), (eI x0.lists.clock)]), (p0N, (cL e_lists_link x0.lists.nodes)), (p0F, (cL eI x0.lists.first_)), (p0L, (cL eI x0.lists.last_)), (p0C, (cL eI x0.lists.count)), (p0H, (cL eI x0.heads)), (p0X, (cL eI x0.next_)), (p0G, (cL e_aEn x0.things))] [tk42] τ) rfl rfl (hH.at_ 0 rfl) (by rw [hlen]; decide) (ram_Ram_All_y_ok hv41 hlen h3 (by exact hH))) ?_
     rintro _ τ ⟨rfl, tk42, hH⟩
     refine wpo_put ?_
     refine m_ (eB false) rfl (o_un tk rfl rfl) (wpo_nil ?_)
     refine awp_false rfl ?_
     refine awp_skip (awp_region rfl ?_)
     refine l_ H39 eI rfl (o_ar tk rfl rfl rfl) fun v44 H43 => ?_
     refine mm tk (eI v44) rfl rfl (wpo_nil ?_)
     exact ⟨(v44, v40), inj_inl H43, tk42, (wc (wc (wc (wc (wc (wc (wkf_nil _))))))), hH⟩
    ·refine awp_exit ?_
     have hz := hy27 _ (inj_inr H32)
     subst hz
     exact ⟨⟨_, inj_inr H32⟩, tk_q0_None, (wc (wc (wc (wkf_nil _)))), hH⟩
  ·refine awp_exit ?_
   have hz := hy9 _ (inj_inr H14)
   subst hz
   exact ⟨⟨_, inj_inr H14⟩, tk_q0_None, (wkf_nil _), hH⟩
theorem ram_Ram_All_app {x0 : ram_Ram} {r : List aEn} (H : ram_Ram_All x0 = some r) (σ : St) {p0 p0B p0I p0N p0F p0L p0C p0H p0X p0G : Nat} (h0 : σ.objs[p0]? = some [(.ref p0B 0), (.ref p0I 0), (.vec p0H 1 (x0.heads).length), (.vec p0X 1 (x0.next_).length), (.vec p0G 5 (x0.things).length), (eI x0.count)]) (h0_budget : σ.objs[p0B]? = some (c_slab_Budget x0.budget)) (h0_lists : σ.objs[p0I]? = some [(.vec p0N 4 (x0.lists.nodes).length), (.vec p0F 1 (x0.lists.first_).length), (.vec p0L 1 (x0.lists.last_).length), (.vec p0C 1 (x0.lists.count).length), (eI x0.lists.free), (eI x0.lists.clock)]) (h0_lists_nodes : σ.objs[p0N]? = some (cL e_lists_link x0.lists.nodes)) (h0_lists_first_ : σ.objs[p0F]? = some (cL eI x0.lists.first_)) (h0_lists_last_ : σ.objs[p0L]? = some (cL eI x0.lists.last_)) (h0_lists_count : σ.objs[p0C]? = some (cL eI x0.lists.count)) (h0_heads : σ.objs[p0H]? = some (cL eI x0.heads)) (h0_next_ : σ.objs[p0X]? = some (cL eI x0.next_)) (h0_things : σ.objs[p0G]? = some (cL e_aEn x0.things)) (hd : [p0, p0B, p0I, p0N, p0F, p0L, p0C, p0H, p0X, p0G].Pairwise fun a b => a ≠ b) : ACall Tryd.prog 14 [.ref p0 0] σ (fun a τ => a = .sl (.own σ.opn.length) 5 (r.map e_aEn) ∧ τ = σ.more) := by
 unfold ram_Ram_All at H
 refine ACall.app (fun ρ κ => cutL_enc enc39.cut ρ κ r) (acall_marks Tryd.func14 (by decide) rfl (nb rfl) ?_)
 have hH := Holds.brings (σ := σ) [(p0, [(.ref p0B 0), (.ref p0I 0), (.vec p0H 1 (x0.heads).length), (.vec p0X 1 (x0.next_).length), (.vec p0G 5 (x0.things).length), (eI x0.count)]), (p0B, (c_slab_Budget x0.budget)), (p0I, [(.vec p0N 4 (x0.lists.nodes).length), (.vec p0F 1 (x0.lists.first_).length), (.vec p0L 1 (x0.lists.last_).length), (.vec p0C 1 (x0.lists.count).length), (eI x0.lists.free), (eI x0.lists.clock)]), (p0N, (cL e_lists_link x0.lists.nodes)), (p0F, (cL eI x0.lists.first_)), (p0L, (cL eI x0.lists.last_)), (p0C, (cL eI x0.lists.count)), (p0H, (cL eI x0.heads)), (p0X, (cL eI x0.next_)), (p0G, (cL e_aEn x0.things))] (by simp only [List.mem_cons, List.not_mem_nil, or_false]; rintro _ (rfl | rfl | rfl | rfl | rfl | rfl | rfl | rfl | rfl | rfl) <;> assumption) hd
 refine ax_seq ?_
 refine awp_region rfl (ma tk AV.nils rfl rfl (wpo_nil ?_))
 refine ⟨rfl, ?_⟩
 refine ax_seq ?_
 refine awp_region rfl ?_
 refine wpo_a (av := fun id => .ref id 0) rfl rfl rfl (h_alloc tk hH ty31 [AV.nils] rfl) fun id1 τ ⟨hH, n2⟩ => ?_
 refine wpo_nil ?_
 refine ⟨rfl, ?_⟩
 refine ax_seq2 ?_
 refine AWP.tokO hH 0 rfl (c1 := fun tk3 => [(eT tk3 5 e_aEn ([] : List aEn))]) (fun _ => (.tok .nil)) fun tk3 τ (hH : Holds σ [(id1, [(eT tk3 5 e_aEn ([] : List aEn))]), (p0, [(.ref p0B 0), (.ref p0I 0), (.vec p0H 1 (x0.heads).length), (.vec p0X 1 (x0.next_).length), (.vec p0G 5 (x0.things).length), (eI x0.count)]), (p0B, (c_slab_Budget x0.budget)), (p0I, [(.vec p0N 4 (x0.lists.nodes).length), (.vec p0F 1 (x0.lists.first_).length), (.vec p0L 1 (x0.lists.last_).length), (.vec p0C 1 (x0.lists.count).length), (eI x0.lists.free), (eI x0.lists.clock)]), (p0N, (cL e_lists_link x0.lists.nodes)), (p0F, (cL eI x0.lists.first_)), (p0L, (cL eI x0.lists.last_)), (p0C, (cL eI x0.lists.count)), (p0H, (cL eI x0.heads)), (p0X, (cL eI x0.next_)), (p0G, (cL e_aEn x0.things))] [tk3] τ) => ?_
 refine awp_region rfl (mm tk (.ref p0 0) rfl rfl ?_)
 refine wpo_bdr H (fun _ => (.fn (.func 71) [] [(.fptr [(.ref p0 0)] 0)])) rfl rfl rfl (fun v5 hv => h_callr rfl rfl (.cons wr .nil) (ram_Ram_each_ok hv _ (hH.at_ 1 rfl) (hH.at_ 2 rfl) (hH.at_ 3 rfl) (hH.at_ 4 rfl) (hH.at_ 5 rfl) (hH.at_ 6 rfl) (hH.at_ 7 rfl) (hH.at_ 8 rfl) (hH.at_ 9 rfl) (hH.at_ 10 rfl) (hH.pw [1, 2, 3, 4, 5, 6, 7, 8, 9, 10] rfl (by decide)))) fun v5 hv5 H4 => ?_
 refine wpo_nil ?_
 refine ⟨rfl, ?_⟩
 obtain ⟨v7, hv8, H6⟩ := ob H4
 obtain rfl := oi H6
 have KL := hH.olen
 refine ax_range (KR := fun σ3 => ∃ tz, Holds σ [(τ.objs.length, [.dfc true]), (id1, [(eT tz 5 e_aEn v7)]), (p0, [(.ref p0B 0), (.ref p0I 0), (.vec p0H 1 (x0.heads).length), (.vec p0X 1 (x0.next_).length), (.vec p0G 5 (x0.things).length), (eI x0.count)]), (p0B, (c_slab_Budget x0.budget)), (p0I, [(.vec p0N 4 (x0.lists.nodes).length), (.vec p0F 1 (x0.lists.first_).length), (.vec p0L 1 (x0.lists.last_).length), (.vec p0C 1 (x0.lists.count).length), (eI x0.lists.free), (eI x0.lists.clock)]), (p0N, (cL e_lists_link x0.lists.nodes)), (p0F, (cL eI x0.lists.first_)), (p0L, (cL eI x0.lists.last_)), (p0C, (cL eI x0.lists.count)), (p0H, (cL eI x0.heads)), (p0X, (cL eI x0.next_)), (p0G, (cL e_aEn x0.things))] [tz] σ3) rfl rfl _ rfl ((ram_Ram_each_1_ok hv8 (by rfl) (by rfl) (hH.two [.dfc true] [.lpc .ready _ #[7] ram_Ram_All_asg ram_Ram_All_bd])).mono fun a τ3 ⟨tz, hH⟩ => ⟨hH.at_ 0 rfl, hH.at_ 1 rfl, tz, (hH.setSp 0 rfl (.lpc .exhausted _ #[7] ram_Ram_All_asg ram_Ram_All_bd)).dropAt 0 rfl (Nat.le_succ_of_le KL)⟩) tk rfl rfl ?_
 rintro σ3 ⟨tz, hH⟩
 refine wpo_rd (a := (eT tz 5 e_aEn v7)) rfl rfl rfl (h_ld tk hH 1 rfl rfl rfl) (ma tk (eT tz 5 e_aEn v7) rfl rfl (wpo_nil ?_))
 exact ⟨hH.at_ 0 rfl, _, (eT tz 5 e_aEn v7), rfl, .of_eq rfl, tz, rfl, (((((((((((((hH.setSp 0 rfl (.dfc false)).drop KL).drop n2).unbring h0).unbring h0_budget).unbring h0_lists).unbring h0_lists_nodes).unbring h0_lists_first_).unbring h0_lists_last_).unbring h0_lists_count).unbring h0_heads).unbring h0_next_).unbring h0_things)⟩
theorem ram_Ram_All_ok {x0 : ram_Ram} {r : List aEn} (H : ram_Ram_All x0 = some r) (σ : St) {p0 p0B p0I p0N p0F p0L p0C p0H p0X p0G : Nat} (h0 : σ.objs[p0]? = some [(.ref p0B 0), (.ref p0I 0), (.vec p0H 1 (x0.heads).length), (.vec p0X 1 (x0.next_).length), (.vec p0G 5 (x0.things).length), (eI x0.count)]) (h0_budget : σ.objs[p0B]? = some (c_slab_Budget x0.budget)) (h0_lists : σ.objs[p0I]? = some [(.vec p0N 4 (x0.lists.nodes).length), (.vec p0F 1 (x0.lists.first_).length), (.vec p0L 1 (x0.lists.last_).length), (.vec p0C 1 (x0.lists.count).length), (eI x0.lists.free), (eI x0.lists.clock)]) (h0_lists_nodes : σ.objs[p0N]? = some (cL e_lists_link x0.lists.nodes)) (h0_lists_first_ : σ.objs[p0F]? = some (cL eI x0.lists.first_)) (h0_lists_last_ : σ.objs[p0L]? = some (cL eI x0.lists.last_)) (h0_lists_count : σ.objs[p0C]? = some (cL eI x0.lists.count)) (h0_heads : σ.objs[p0H]? = some (cL eI x0.heads)) (h0_next_ : σ.objs[p0X]? = some (cL eI x0.next_)) (h0_things : σ.objs[p0G]? = some (cL e_aEn x0.things)) (hd : [p0, p0B, p0I, p0N, p0F, p0L, p0C, p0H, p0X, p0G].Pairwise fun a b => a ≠ b) : ACall Tryd.prog 14 [.ref p0 0] σ (fun a τ => a = (eL 5 e_aEn) r ∧ τ = σ) := (ram_Ram_All_app H σ h0 h0_budget h0_lists h0_lists_nodes h0_lists_first_ h0_lists_last_ h0_lists_count h0_heads h0_next_ h0_things hd).unapp (fun ρ κ => cutL_enc enc39.cut ρ κ r)
theorem ram_Ram_Sweep_ok {x0 : ram_Ram} {x1 : Int} {r : Int × ram_Ram} (H : ram_Ram_Sweep x0 x1 = some r) (σ : St) {p0 p0B p0I p0N p0F p0L p0C p0H p0X p0G : Nat} (h0 : σ.objs[p0]? = some [(.ref p0B 0), (.ref p0I 0), (.vec p0H 1 (x0.heads).length), (.vec p0X 1 (x0.next_).length), (.vec p0G 5 (x0.things).length), (eI x0.count)]) (h0_budget : σ.objs[p0B]? = some (c_slab_Budget x0.budget)) (h0_lists : σ.objs[p0I]? = some [(.vec p0N 4 (x0.lists.nodes).length), (.vec p0F 1 (x0.lists.first_).length), (.vec p0L 1 (x0.lists.last_).length), (.vec p0C 1 (x0.lists.count).length), (eI x0.lists.free), (eI x0.lists.clock)]) (h0_lists_nodes : σ.objs[p0N]? = some (cL e_lists_link x0.lists.nodes)) (h0_lists_first_ : σ.objs[p0F]? = some (cL eI x0.lists.first_)) (h0_lists_last_ : σ.objs[p0L]? = some (cL eI x0.lists.last_)) (h0_lists_count : σ.objs[p0C]? = some (cL eI x0.lists.count)) (h0_heads : σ.objs[p0H]? = some (cL eI x0.heads)) (h0_next_ : σ.objs[p0X]? = some (cL eI x0.next_)) (h0_things : σ.objs[p0G]? = some (cL e_aEn x0.things)) (hd : [p0, p0B, p0I, p0N, p0F, p0L, p0C, p0H, p0X, p0G].Pairwise fun a b => a ≠ b) : ACall Tryd.prog 24 [(.ref p0 0), (eI x1)] σ (fun a τ => a = eI r.1 ∧ τ = σ.puts [(p0, [(.ref p0B 0), (.ref p0I 0), (.vec p0H 1 (r.2.heads).length), (.vec p0X 1 (r.2.next_).length), (.vec p0G 5 (r.2.things).length), (eI r.2.count)]), (p0B, (c_slab_Budget r.2.budget)), (p0I, [(.vec p0N 4 (r.2.lists.nodes).length), (.vec p0F 1 (r.2.lists.first_).length), (.vec p0L 1 (r.2.lists.last_).length), (.vec p0C 1 (r.2.lists.count).length), (eI r.2.lists.free), (eI r.2.lists.clock)]), (p0N, (cL e_lists_link r.2.lists.nodes)), (p0F, (cL eI r.2.lists.first_)), (p0L, (cL eI r.2.lists.last_)), (p0C, (cL eI r.2.lists.count)), (p0H, (cL eI r.2.heads)), (p0X, (cL eI r.2.next_)), (p0G, (cL e_aEn r.2.things))]) := by
 unfold ram_Ram_Sweep at H
 refine ACall.outB [(p0, [(.ref p0B 0), (.ref p0I 0), (.vec p0H 1 (r.2.heads).length), (.vec p0X 1 (r.2.next_).length), (.vec p0G 5 (r.2.things).length), (eI r.2.count)]), (p0B, (c_slab_Budget r.2.budget)), (p0I, [(.vec p0N 4 (r.2.lists.nodes).length), (.vec p0F 1 (r.2.lists.first_).length), (.vec p0L 1 (r.2.lists.last_).length), (.vec p0C 1 (r.2.lists.count).length), (eI r.2.lists.free), (eI r.2.lists.clock)]), (p0N, (cL e_lists_link r.2.lists.nodes)), (p0F, (cL eI r.2.lists.first_)), (p0L, (cL eI r.2.lists.last_)), (p0C, (cL eI r.2.lists.count)), (p0H, (cL eI r.2.heads)), (p0X, (cL eI r.2.next_)), (p0G, (cL e_aEn r.2.things))] (by simp only [List.mem_cons, List.not_mem_nil, or_false]; rintro _ (rfl | rfl | rfl | rfl | rfl | rfl | rfl | rfl | rfl | rfl) <;> first | exact c_slab_Budget_cut _ _ _ | exact cut_cL enc106.cut _ _ _ | exact cut_cL (enc_i64 td3 sz3).cut _ _ _ | exact cut_cL enc39.cut _ _ _ | (simp only [cutL, cut_ref_id (idl_get h0_budget), cut_ref_id (idl_get h0_lists), cut_vec_id (idl_get h0_heads), cut_vec_id (idl_get h0_next_), cut_vec_id (idl_get h0_things), (enc_i64 td3 sz3).cut _ _]; done) | (simp only [cutL, cut_vec_id (idl_get h0_lists_nodes), cut_vec_id (idl_get h0_lists_first_), cut_vec_id (idl_get h0_lists_last_), cut_vec_id (idl_get h0_lists_count), (enc_i64 td3 sz3).cut _ _]; done)) (acall_start tk Tryd.func24 (by decide) rfl (nb rfl) ?_)
 have hH := Holds.brings (σ := σ) [(p0, [(.ref p0B 0), (.ref p0I 0), (.vec p0H 1 (x0.heads).length), (.vec p0X 1 (x0.next_).length), (.vec p0G 5 (x0.things).length), (eI x0.count)]), (p0B, (c_slab_Budget x0.budget)), (p0I, [(.vec p0N 4 (x0.lists.nodes).length), (.vec p0F 1 (x0.lists.first_).length), (.vec p0L 1 (x0.lists.last_).length), (.vec p0C 1 (x0.lists.count).length), (eI x0.lists.free), (eI x0.lists.clock)]), (p0N, (cL e_lists_link x0.lists.nodes)), (p0F, (cL eI x0.lists.first_)), (p0L, (cL eI x0.lists.last_)), (p0C, (cL eI x0.lists.count)), (p0H, (cL eI x0.heads)), (p0X, (cL eI x0.next_)), (p0G, (cL e_aEn x0.things))] (by simp only [List.mem_cons, List.not_mem_nil, or_false]; rintro _ (rfl | rfl | rfl | rfl | rfl | rfl | rfl | rfl | rfl | rfl) <;> assumption) hd
 refine sr rfl (ma tk (eI (0 : Int)) rfl rfl (wpo_nil (sr rfl (ma tk (eI (0 : Int)) rfl rfl (wpo_nil (awp_seq (sr rfl (mm tk (.ref p0 0) rfl rfl ?_))))))))
 refine wpo_bdr H (eL 5 e_aEn) rfl rfl rfl (fun v2 hv => h_callr rfl rfl (.cons wr .nil) (ram_Ram_All_ok hv _ (hH.at_ 0 rfl) (hH.at_ 1 rfl) (hH.at_ 2 rfl) (hH.at_ 3 rfl) (hH.at_ 4 rfl) (hH.at_ 5 rfl) (hH.at_ 6 rfl) (hH.at_ 7 rfl) (hH.at_ 8 rfl) (hH.at_ 9 rfl) (hH.pw [0, 1, 2, 3, 4, 5, 6, 7, 8, 9] rfl (by decide)))) fun v2 hv2 H1 => ?_
 refine l_ H1 eI rfl (o_len tk td31 rfl) fun v4 H3 => ?_
 refine mm tk (eI (0 : Int)) rfl rfl (wpo_nil (awp_block ?_))
 obtain ⟨s24, hs18, hj19⟩ := ob H3
 refine awp_cutx 0 (fun fr τ => WkF fr (fm [(5, (eI s24.1))]) ∧ Holds σ [(p0, [(.ref p0B 0), (.ref p0I 0), (.vec p0H 1 (s24.2.2.2.2.2.2.2.2.1).length), (.vec p0X 1 (s24.2.2.2.2.2.2.2.2.2.1).length), (.vec p0G 5 (s24.2.2.2.2.2.2.2.2.2.2).length), (eI s24.2.1.count)]), (p0B, (c_slab_Budget s24.2.2.1)), (p0I, [(.vec p0N 4 (s24.2.2.2.2.1).length), (.vec p0F 1 (s24.2.2.2.2.2.1).length), (.vec p0L 1 (s24.2.2.2.2.2.2.1).length), (.vec p0C 1 (s24.2.2.2.2.2.2.2.1).length), (eI s24.2.2.2.1.free), (eI s24.2.2.2.1.clock)]), (p0N, (cL e_lists_link s24.2.2.2.2.1)), (p0F, (cL eI s24.2.2.2.2.2.1)), (p0L, (cL eI s24.2.2.2.2.2.2.1)), (p0C, (cL eI s24.2.2.2.2.2.2.2.1)), (p0H, (cL eI s24.2.2.2.2.2.2.2.2.1)), (p0X, (cL eI s24.2.2.2.2.2.2.2.2.2.1)), (p0G, (cL e_aEn s24.2.2.2.2.2.2.2.2.2.2))] [] τ) ?_ ?_
 ·rintro fr τ ⟨hfr, hH⟩
  have H49 := hj19
  refine AWP.fm [(5, (eI s24.1))] hfr ?_
  refine sr rfl (mm tk (eI s24.1) rfl rfl (ma tk (eI s24.1) rfl rfl (wpo_nil (awp_ret ?_))))
  obtain rfl := oi H49
  exact ⟨_, (eI s24.1), rfl, wr, .of_eq ((enc_i64 td3 sz3).cut _ _ _), hH.noT⟩
 ·refine awp_loopO (body := fun s => ram_Ram_Sweep_b0 x1 v2 v4 s.1 s.2.1 s.2.2.1 s.2.2.2.1 s.2.2.2.2.1 s.2.2.2.2.2.1 s.2.2.2.2.2.2.1 s.2.2.2.2.2.2.2.1 s.2.2.2.2.2.2.2.2.1 s.2.2.2.2.2.2.2.2.2.1 s.2.2.2.2.2.2.2.2.2.2.1 s.2.2.2.2.2.2.2.2.2.2.2) hs18 (fun (s : Int × Int × ram_Ram × slab_Budget × lists_Lists × (List lists_link) × (List Int) × (List Int) × (List Int) × (List Int) × (List Int) × (List aEn)) fr τ => WkF fr (fm [(0, (.ref p0 0)), (1, (eI x1)), (5, (eI s.1)), (9, ((eL 5 e_aEn) v2)), (10, (eI v4)), (11, (eI s.2.1))]) ∧ Holds σ [(p0, [(.ref p0B 0), (.ref p0I 0), (.vec p0H 1 (s.2.2.2.2.2.2.2.2.2.1).length), (.vec p0X 1 (s.2.2.2.2.2.2.2.2.2.2.1).length), (.vec p0G 5 (s.2.2.2.2.2.2.2.2.2.2.2).length), (eI s.2.2.1.count)]), (p0B, (c_slab_Budget s.2.2.2.1)), (p0I, [(.vec p0N 4 (s.2.2.2.2.2.1).length), (.vec p0F 1 (s.2.2.2.2.2.2.1).length), (.vec p0L 1 (s.2.2.2.2.2.2.2.1).length), (.vec p0C 1 (s.2.2.2.2.2.2.2.2.1).length), (eI s.2.2.2.2.1.free), (eI s.2.2.2.2.1.clock)]), (p0N, (cL e_lists_link s.2.2.2.2.2.1)), (p0F, (cL eI s.2.2.2.2.2.2.1)), (p0L, (cL eI s.2.2.2.2.2.2.2.1)), (p0C, (cL eI s.2.2.2.2.2.2.2.2.1)), (p0H, (cL eI s.2.2.2.2.2.2.2.2.2.1)), (p0X, (cL eI s.2.2.2.2.2.2.2.2.2.2.1)), (p0G, (cL e_aEn s.2.2.2.2.2.2.2.2.2.2.2))] [] τ) ⟨(wc (wc (wc (wc (wc (wc (wkf_nil _))))))), hH⟩ ?_
  rintro ⟨c5, c6, c7, c8, c9, c10, c11, c12, c13, c14, c15, c16⟩ fr τ y20 ⟨hfr, hH⟩ hb22 hy23
  have H25 : ram_Ram_Sweep_b0 x1 v2 v4 c5 c6 c7 c8 c9 c10 c11 c12 c13 c14 c15 c16 = some y20 := hb22
  unfold ram_Ram_Sweep_b0 at H25
  refine AWP.fm [(0, (.ref p0 0)), (1, (eI x1)), (5, (eI c5)), (9, ((eL 5 e_aEn) v2)), (10, (eI v4)), (11, (eI c6))] hfr ?_
  have hH : Holds σ [(p0, [(.ref p0B 0), (.ref p0I 0), (.vec p0H 1 (c14).length), (.vec p0X 1 (c15).length), (.vec p0G 5 (c16).length), (eI c7.count)]), (p0B, (c_slab_Budget c8)), (p0I, [(.vec p0N 4 (c10).length), (.vec p0F 1 (c11).length), (.vec p0L 1 (c12).length), (.vec p0C 1 (c13).length), (eI c9.free), (eI c9.clock)]), (p0N, (cL e_lists_link c10)), (p0F, (cL eI c11)), (p0L, (cL eI c12)), (p0C, (cL eI c13)), (p0H, (cL eI c14)), (p0X, (cL eI c15)), (p0G, (cL e_aEn c16))] [] τ := hH
  refine sr rfl ?_
  refine l_ H25 eB rfl (o_ar tk rfl rfl rfl) fun v27 H26 => ?_
  refine wpo_nil (awp_seq ?_)
  refine awp_if H26 rfl (fun H28 => ?_) (fun H28 => ?_)
  ·refine awp_skip (awp_seq (awp_block (sr rfl ?_)))
   refine b_ H28 (fun y => .fptr (e_aEn y).cells 0) rfl (fun v30 hv => o_ixa tk hv td31 enc39 rfl rfl) fun v30 hv30 H29 => ?_
   refine m_ (e_aEn v30) rfl (o_ld_e tk enc39 rfl rfl) ?_
   refine wpo_a (av := fun id => .ref id 0) rfl rfl rfl (h_alloc tk hH ty39 [(eS z_aEn.Key), (eI z_aEn.Version), (eI z_aEn.AsOf), (eI z_aEn.Ends), AV.nils] rfl) fun id31 τ ⟨hH, n32⟩ => ?_
   refine wpo_z rfl rfl (h_st tk hH 0 rfl ty39 (by simp) rfl rfl wr (b := (e_aEn v30)) (enc39.flat _) rfl (nb rfl) (c_aEn (v30 : aEn)) rfl) fun τ hH => ?_
   refine wpo_nil (sr rfl (wpo_rd (a := (e_aEn (v30 : aEn))) rfl rfl rfl (h_ld tk hH 0 rfl rfl rfl) (mm tk (eI x1) rfl rfl ?_)))
   refine b_ H29 eB rfl (fun v35 hv => OpP.of_call rfl rfl (.cons wr (.cons wr .nil)) (item_Live_ok hv)) fun v35 hv35 H34 => ?_
   refine l_ H34 eB rfl (o_un tk rfl rfl) fun v37 H36 => ?_
   refine wpo_nil ?_
   refine awp_if H36 rfl (fun H38 => ?_) (fun H38 => ?_)
   ·refine sr rfl (mm tk (.ref p0 0) rfl rfl (mm tk (.ref p0 0) rfl rfl (mc tk (.ref id31 0) rfl rfl (fun _ => rfl) (wpo_rd (a := (eS (v30 : aEn).Key)) rfl rfl rfl (h_ld tk hH 0 rfl rfl rfl) ?_))))
    refine wpo_bdr H38 eI rfl rfl rfl (fun v40 hv => h_callr rfl rfl (.cons wr (.cons wr .nil)) (ram_Ram_find_ok hv _ (hH.at_ 1 rfl) (hH.at_ 2 rfl) (hH.at_ 3 rfl) (hH.at_ 4 rfl) (hH.at_ 5 rfl) (hH.at_ 6 rfl) (hH.at_ 7 rfl) (hH.at_ 8 rfl) (hH.at_ 9 rfl) (hH.at_ 10 rfl) (hH.pw [1, 2, 3, 4, 5, 6, 7, 8, 9, 10] rfl (by decide)))) fun v40 hv40 H39 => ?_
    refine wpo_cb H39 (fun x _ => e_aEn x.1) rfl rfl rfl (fun v42 hv => h_call1 hH [(1, (p0, [(.ref p0B 0), (.ref p0I 0), (.vec p0H 1 (v42.2.heads).length), (.vec p0X 1 (v42.2.next_).length), (.vec p0G 5 (v42.2.things).length), (eI v42.2.count)])), (2, (p0B, (c_slab_Budget v42.2.budget))), (3, (p0I, [(.vec p0N 4 (v42.2.lists.nodes).length), (.vec p0F 1 (v42.2.lists.first_).length), (.vec p0L 1 (v42.2.lists.last_).length), (.vec p0C 1 (v42.2.lists.count).length), (eI v42.2.lists.free), (eI v42.2.lists.clock)])), (4, (p0N, (cL e_lists_link v42.2.lists.nodes))), (5, (p0F, (cL eI v42.2.lists.first_))), (6, (p0L, (cL eI v42.2.lists.last_))), (7, (p0C, (cL eI v42.2.lists.count))), (8, (p0H, (cL eI v42.2.heads))), (9, (p0X, (cL eI v42.2.next_))), (10, (p0G, (cL e_aEn v42.2.things)))] ⟨⟨_, rfl⟩, ⟨⟨_, rfl⟩, ⟨⟨_, rfl⟩, ⟨⟨_, rfl⟩, ⟨⟨_, rfl⟩, ⟨⟨_, rfl⟩, ⟨⟨_, rfl⟩, ⟨⟨_, rfl⟩, ⟨⟨_, rfl⟩, ⟨⟨_, rfl⟩, trivial⟩⟩⟩⟩⟩⟩⟩⟩⟩⟩ rfl rfl (.cons wr (.cons wr .nil)) (ram_Ram_remove_ok hv _ (hH.at_ 1 rfl) (hH.at_ 2 rfl) (hH.at_ 3 rfl) (hH.at_ 4 rfl) (hH.at_ 5 rfl) (hH.at_ 6 rfl) (hH.at_ 7 rfl) (hH.at_ 8 rfl) (hH.at_ 9 rfl) (hH.at_ 10 rfl) (hH.pw [1, 2, 3, 4, 5, 6, 7, 8, 9, 10] rfl (by decide)))) fun v42 _ τ hv42 H41 (hH : Holds σ [(id31, (c_aEn (v30 : aEn))), (p0, [(.ref p0B 0), (.ref p0I 0), (.vec p0H 1 (v42.2.heads).length), (.vec p0X 1 (v42.2.next_).length), (.vec p0G 5 (v42.2.things).length), (eI v42.2.count)]), (p0B, (c_slab_Budget v42.2.budget)), (p0I, [(.vec p0N 4 (v42.2.lists.nodes).length), (.vec p0F 1 (v42.2.lists.first_).length), (.vec p0L 1 (v42.2.lists.last_).length), (.vec p0C 1 (v42.2.lists.count).length), (eI v42.2.lists.free), (eI v42.2.lists.clock)]), (p0N, (cL e_lists_link v42.2.lists.nodes)), (p0F, (cL eI v42.2.lists.first_)), (p0L, (cL eI v42.2.lists.last_)), (p0C, (cL eI v42.2.lists.count)), (p0H, (cL eI v42.2.heads)), (p0X, (cL eI v42.2.next_)), (p0G, (cL e_aEn v42.2.things))] [] τ) => ?_
    refine wpo_nil (awp_region rfl (mm tk (eI c5) rfl rfl ?_))
    refine l_ H41 eI rfl (o_ar tk rfl rfl rfl) fun v44 H43 => ?_
    refine ma tk (eI v44) rfl rfl (wpo_nil (awp_region rfl ?_))
    refine l_ H43 eI rfl (o_ar tk rfl rfl rfl) fun v46 H45 => ?_
    refine mm tk (eI v46) rfl rfl (wpo_nil ?_)
    exact ⟨(v44, v46, v42.2, v42.2.budget, v42.2.lists, v42.2.lists.nodes, v42.2.lists.first_, v42.2.lists.last_, v42.2.lists.count, v42.2.heads, v42.2.next_, v42.2.things), inj_inl H45, (wc (wc (wc (wc (wc (wc (wkf_nil _))))))), (hH.drop n32)⟩
   ·refine awp_skip (awp_region rfl ?_)
    refine l_ H38 eI rfl (o_ar tk rfl rfl rfl) fun v48 H47 => ?_
    refine mm tk (eI v48) rfl rfl (wpo_nil ?_)
    exact ⟨(c5, v48, c7, c8, c9, c10, c11, c12, c13, c14, c15, c16), inj_inl H47, (wc (wc (wc (wc (wc (wc (wkf_nil _))))))), (hH.drop n32)⟩
  ·refine awp_exit ?_
   have hz := hy23 _ (inj_inr H28)
   subst hz
   exact ⟨⟨_, inj_inr H28⟩, (wc (wkf_nil _)), hH⟩
theorem trouble_Of_ok {x0 : Err} {r : Int} (H : trouble_Of x0 = some r) (σ : St) (hg : σ.gl = gls) : ACall Tryd.prog 25 [eErr x0] σ (fun a τ => a = eI r ∧ τ = σ) := by
 obtain rfl := oi H
 refine ACall.pure (acall_start tk Tryd.func25 (by decide) rfl (nb rfl) ?_)
 have hH := Holds.init σ
 refine sr rfl (ma tk (eI (0 : Int)) rfl rfl (wpo_nil (awp_seq (awp_block ?_))))
 have hs := trouble_Of_l0 x0
 refine awp_cutx 0 (fun fr τ => codeOf x0 = 0 ∧ WkF fr (fm []) ∧ Holds σ [] [] τ) ?_ ?_
 ·rintro fr τ ⟨h0, hfr, hH⟩
  refine AWP.fm [] hfr ?_
  refine sr rfl (ma tk (eI 0) rfl rfl (wpo_nil (awp_ret ?_)))
  rw [h0]
  exact ⟨_, (eI 0), rfl, wr, .of_eq rfl, hH.noT⟩
 ·refine awp_loopO (body := trouble_Of_b0) hs (fun (s : Err) fr τ => WkF fr (fm [(0, eErr s)]) ∧ Holds σ [] [] τ) ⟨(wc (wkf_nil _)), hH⟩ ?_
  rintro c1 fr τ y ⟨hfr, hH⟩ hb hy
  refine AWP.fm [(0, eErr c1)] hfr ?_
  cases c1 with
  | nil =>
   refine awp_seq (sr rfl (mm tk (eErr .nil) rfl rfl (m_ (eB false) rfl (o_err_neq (x := .nil) tk rfl rfl rfl) (wpo_nil ?_))))
   refine awp_false rfl ?_
   refine awp_exit ?_
   have hb : some (Sum.inr (Sum.inl ())) = some y := hb
   have hz := hy _ (oi hb).symm
   refine ⟨⟨_, (oi hb).symm⟩, ?_, (wkf_nil _), hH⟩
   split at hz
   ·assumption
   ·cases hz
  | fault o a c u =>
   refine awp_seq (sr rfl (mm tk (eErr (.fault o a c u)) rfl rfl (m_ (eB true) rfl (o_err_neq (x := .fault o a c u) tk rfl rfl rfl) (wpo_nil ?_))))
   refine awp_true rfl ?_
   refine awp_skip (awp_block (sr rfl ?_))
   refine wpo_a (av := fun id => .ref id 0) rfl rfl rfl (h_alloc tk hH ty94 [.nilp] rfl) fun id τ ⟨hH, hn⟩ => ?_
   refine wpo_nil (awp_seq (sr rfl (mm tk (eErr (.fault o a c u)) rfl rfl (mc tk (.iface 96 (.ref id 0)) rfl rfl (fun _ => rfl) ?_))))
   refine wpo_cb (α := Unit) (z := some ()) (k := fun _ => some ()) (r := ()) rfl (fun _ _ => eB true) rfl rfl rfl (fun v hv => h_call1 hH [(0, (id, [(Err.fault o a c u).ptr]))] ⟨⟨_, rfl⟩, trivial⟩ rfl rfl (.cons wr (.cons wr .nil)) (as_ok (x := .fault o a c u) rfl (hH.at_ 0 rfl) (hH.gl.trans hg))) fun _ _ τ _ _ hH => ?_
   refine m_ (eB false) rfl (o_un tk rfl rfl) (wpo_nil ?_)
   refine awp_false rfl ?_
   refine awp_skip (awp_seq (sr rfl (wpo_rd (a := (Err.fault o a c u).ptr) rfl rfl rfl (h_ld tk hH 0 rfl rfl rfl) (mc tk ((Err.fault o a c u).ptr) rfl rfl (fun _ => rfl) (mc tk (.fptr [eS o, eI a, eI c, eErr u] 2) rfl rfl (fun _ => rfl) (m_ (eI c) rfl (o_ld tk rfl rfl) (m_ (eB (c != 0)) rfl (o_ar tk rfl rfl rfl) (wpo_nil ?_))))))))
   have hb : (if (c != 0) = true then some (.inr (.inr c)) else some (.inl u)) = some y := hb
   refine awp_if hb rfl (fun hb => ?_) (fun hb => ?_)
   ·refine sr rfl (wpo_rd (a := (Err.fault o a c u).ptr) rfl rfl rfl (h_ld tk hH 0 rfl rfl rfl) (mc tk ((Err.fault o a c u).ptr) rfl rfl (fun _ => rfl) (mc tk (.fptr [eS o, eI a, eI c, eErr u] 2) rfl rfl (fun _ => rfl) (m_ (eI c) rfl (o_ld tk rfl rfl) (ma tk (eI c) rfl rfl (wpo_nil (awp_ret ?_)))))))
    have hz := hy _ (oi hb).symm
    refine ⟨⟨_, (oi hb).symm⟩, ?_⟩
    have hc : codeOf x0 = c := by
     split at hz
     ·cases hz
     ·exact Sum.inr.inj hz.symm
    rw [hc]
    exact ⟨_, (eI c), rfl, wr, .of_eq rfl, (hH.noT.drop hn)⟩
   ·refine awp_skip (awp_region rfl (wpo_rd (a := (Err.fault o a c u).ptr) rfl rfl rfl (h_ld tk hH 0 rfl rfl rfl) (mc tk ((Err.fault o a c u).ptr) rfl rfl (fun _ => rfl) (mc tk (.fptr [eS o, eI a, eI c, eErr u] 3) rfl rfl (fun _ => rfl) (m_ (eErr u) rfl (o_ld tk rfl (by cases u <;> rfl)) (ma tk (eErr u) rfl rfl (wpo_nil ?_)))))))
    exact ⟨u, (oi hb).symm, (wc (wkf_nil _)), hH.drop hn⟩
theorem R08_Size_ok {x0 : Int} {r : Int} (H : R08_Size x0 = some r) (σ : St)  : ACall Tryd.prog 51 [(eI x0)] σ (fun a τ => a = eI r ∧ τ = σ) := by
 unfold R08_Size at H
 refine ACall.pure (acall_start tk Tryd.func51 (by decide) rfl (nb rfl) ?_)
 have hH := Holds.init σ
 refine sr rfl (ma tk (eI (0 : Int)) rfl rfl (wpo_nil (awp_seq (awp_seq ?_))))
 obtain ⟨s1, hs3, hj4⟩ := ob H
 refine awp_cutn (fun fr τ => WkF fr (fm [(0, (eI x0)), (10, (eB s1))]) ∧ Holds σ [] [] τ) ?_ ?_
 ·rintro fr τ ⟨hfr, hH⟩
  have H10 := hj4
  refine AWP.fm [(0, (eI x0)), (10, (eB s1))] hfr ?_
  refine awp_if H10 rfl (fun H11 => ?_) (fun H11 => ?_)
  ·refine sr rfl (ma tk (eI (0 : Int)) rfl rfl (wpo_nil (awp_ret ?_)))
   obtain rfl := oi H11
   exact ⟨_, (eI (0 : Int)), rfl, wr, .of_eq ((enc_i64 td3 sz3).cut _ _ _), hH.noT⟩
  ·refine awp_skip (sr rfl (ma tk (eI (32 : Int)) rfl rfl (wpo_nil (awp_seq (sr rfl (ma tk (eI (0 : Int)) rfl rfl (wpo_nil (awp_block ?_))))))))
   obtain ⟨s21, hs15, hj16⟩ := ob H11
   refine awp_cutx 0 (fun fr τ => WkF fr (fm [(3, (eI s21))]) ∧ Holds σ [] [] τ) ?_ ?_
   ·rintro fr τ ⟨hfr, hH⟩
    have H30 := hj16
    refine AWP.fm [(3, (eI s21))] hfr ?_
    refine sr rfl (mm tk (eI s21) rfl rfl (ma tk (eI s21) rfl rfl (wpo_nil (awp_ret ?_))))
    obtain rfl := oi H30
    exact ⟨_, (eI s21), rfl, wr, .of_eq ((enc_i64 td3 sz3).cut _ _ _), hH.noT⟩
   ·refine awp_loopO (body := fun s => R08_Size_b0 x0 s.1 s.2) hs15 (fun (s : Int × Int) fr τ => WkF fr (fm [(0, (eI x0)), (3, (eI s.1)), (4, (eI s.2))]) ∧ Holds σ [] [] τ) ⟨(wc (wc (wc (wkf_nil _)))), hH⟩ ?_
    rintro ⟨c12, c13⟩ fr τ y17 ⟨hfr, hH⟩ hb19 hy20
    have H22 : R08_Size_b0 x0 c12 c13 = some y17 := hb19
    unfold R08_Size_b0 at H22
    refine AWP.fm [(0, (eI x0)), (3, (eI c12)), (4, (eI c13))] hfr ?_
    have hH : Holds σ [] [] τ := hH
    refine awp_seq (sr rfl (mm tk (eI c13) rfl rfl (mm tk (eI x0) rfl rfl ?_)))
    refine l_ H22 eB rfl (o_ar tk rfl rfl rfl) fun v24 H23 => ?_
    refine wpo_nil ?_
    refine awp_if H23 rfl (fun H25 => ?_) (fun H25 => ?_)
    ·refine awp_skip (awp_seq (awp_block (awp_region rfl (mm tk (eI c12) rfl rfl ?_))))
     refine l_ H25 eI rfl (o_ar tk rfl rfl rfl) fun v27 H26 => ?_
     refine ma tk (eI v27) rfl rfl (wpo_nil (awp_region rfl (mm tk (eI c13) rfl rfl ?_)))
     refine l_ H26 eI rfl (o_ar tk rfl rfl rfl) fun v29 H28 => ?_
     refine ma tk (eI v29) rfl rfl (wpo_nil ?_)
     exact ⟨(v27, v29), inj_inl H28, (wc (wc (wc (wkf_nil _)))), hH⟩
    ·refine awp_exit ?_
     have hz := hy20 _ (inj_inr H25)
     subst hz
     exact ⟨⟨_, inj_inr H25⟩, (wc (wkf_nil _)), hH⟩
 ·refine awp_region rfl (mm tk (eI x0) rfl rfl ?_)
  refine l_ hs3 eB rfl (o_ar tk rfl rfl rfl) fun v6 H5 => ?_
  refine mm tk (eB v6) rfl rfl ?_
  refine if_split H5 (fun hb H7 => ?_) (fun hb H7 => ?_)
  ·subst hb
   refine k_ rfl (k_ rfl (pt tk (eB true) rfl rfl rfl (wpo_nil ?_)))
   have e := oi H7
   subst e
   exact ⟨(wc (wc (wkf_nil _))), hH⟩
  ·subst hb
   refine mm tk (eI x0) rfl rfl ?_
   refine l_ H7 eB rfl (o_ar tk rfl rfl rfl) fun v9 H8 => ?_
   refine pf tk (eB v9) rfl rfl rfl (wpo_nil ?_)
   have e := oi H8
   subst e
   exact ⟨(wc (wc (wkf_nil _))), hH⟩
theorem R08_Class_ok {x0 : Int} {r : Int} (H : R08_Class x0 = some r) (σ : St)  : ACall Tryd.prog 52 [(eI x0)] σ (fun a τ => a = eI r ∧ τ = σ) := by
 unfold R08_Class at H
 refine ACall.pure (acall_start tk Tryd.func52 (by decide) rfl (nb rfl) ?_)
 have hH := Holds.init σ
 refine sr rfl (ma tk (eI (0 : Int)) rfl rfl (wpo_nil (awp_seq (sr rfl (ma tk (eI (0 : Int)) rfl rfl (wpo_nil (awp_block ?_)))))))
 obtain ⟨o2, hs3, hj4⟩ := ob H
 refine awp_cutx 0 (fun fr τ => ∃ s9 : Unit, o2 = .inl s9 ∧ WkF fr (fm []) ∧ Holds σ [] [] τ) ?_ ?_
 ·rintro fr τ ⟨s9, rfl, hfr, hH⟩
  have H30 := hj4
  simp only [Sum.elim_inl] at H30
  refine AWP.fm [] hfr ?_
  refine sr rfl (ma tk (eI (-1 : Int)) rfl rfl (wpo_nil (awp_ret ?_)))
  obtain rfl := oi H30
  exact ⟨_, (eI (-1 : Int)), rfl, wr, .of_eq ((enc_i64 td3 sz3).cut _ _ _), hH.noT⟩
 ·refine awp_loopO (body := fun s => R08_Class_b0 x0 s) hs3 (fun (s : Int) fr τ => WkF fr (fm [(0, (eI x0)), (3, (eI s))]) ∧ Holds σ [] [] τ) ⟨(wc (wc (wkf_nil _))), hH⟩ ?_
  rintro c1 fr τ y5 ⟨hfr, hH⟩ hb7 hy8
  have H10 : R08_Class_b0 x0 c1 = some y5 := hb7
  unfold R08_Class_b0 at H10
  refine AWP.fm [(0, (eI x0)), (3, (eI c1))] hfr ?_
  have hH : Holds σ [] [] τ := hH
  refine awp_seq (awp_seq ?_)
  obtain ⟨s11, hs13, hj14⟩ := ob H10
  refine awp_cutn (fun fr τ => WkF fr (fm [(0, (eI x0)), (3, (eI c1)), (9, (eB s11))]) ∧ Holds σ [] [] τ) ?_ ?_
  ·rintro fr τ ⟨hfr, hH⟩
   have H20 := hj14
   refine AWP.fm [(0, (eI x0)), (3, (eI c1)), (9, (eB s11))] hfr ?_
   refine awp_if H20 rfl (fun H21 => ?_) (fun H21 => ?_)
   ·refine awp_skip (awp_seq (awp_block (sr rfl (mm tk (eI x0) rfl rfl (mm tk (eI c1) rfl rfl ?_)))))
    refine b_ H21 eI rfl (fun v23 hv => OpP.of_call rfl rfl (.cons wr .nil) (R08_Size_ok hv)) fun v23 hv23 H22 => ?_
    refine l_ H22 eB rfl (o_ar tk rfl rfl rfl) fun v25 H24 => ?_
    refine wpo_nil ?_
    refine awp_if H24 rfl (fun H26 => ?_) (fun H26 => ?_)
    ·refine sr rfl (mm tk (eI c1) rfl rfl (ma tk (eI c1) rfl rfl (wpo_nil (awp_ret ?_))))
     have hz := hy8 _ (inj_inr H26)
     refine ⟨⟨_, inj_inr H26⟩, ?_⟩
     rw [← hz] at hj4
     have H27 := (show some _ = some _ from hj4)
     obtain rfl := oi H27
     exact ⟨_, (eI c1), rfl, wr, .of_eq ((enc_i64 td3 sz3).cut _ _ _), hH.noT⟩
    ·refine awp_skip (awp_region rfl (mm tk (eI c1) rfl rfl ?_))
     refine l_ H26 eI rfl (o_ar tk rfl rfl rfl) fun v29 H28 => ?_
     refine ma tk (eI v29) rfl rfl (wpo_nil ?_)
     exact ⟨v29, inj_inl H28, (wc (wc (wkf_nil _))), hH⟩
   ·refine awp_exit ?_
    have hz := hy8 _ (inj_inr H21)
    exact ⟨⟨_, inj_inr H21⟩, (), hz.symm, (wkf_nil _), hH⟩
  ·refine awp_region rfl (mm tk (eI c1) rfl rfl ?_)
   refine l_ hs13 eB rfl (o_ar tk rfl rfl rfl) fun v16 H15 => ?_
   refine mm tk (eB v16) rfl rfl ?_
   refine if_split H15 (fun hb H17 => ?_) (fun hb H17 => ?_)
   ·subst hb
    refine mm tk (eI x0) rfl rfl ?_
    refine l_ H17 eB rfl (o_ar tk rfl rfl rfl) fun v19 H18 => ?_
    refine pt tk (eB v19) rfl rfl rfl (wpo_nil ?_)
    have e := oi H18
    subst e
    exact ⟨(wc (wc (wc (wkf_nil _)))), hH⟩
   ·subst hb
    refine k_ rfl (k_ rfl (pf tk (eB false) rfl rfl rfl (wpo_nil ?_)))
    have e := oi H17
    subst e
    exact ⟨(wc (wc (wc (wkf_nil _)))), hH⟩
theorem R02_num_app {x0 : Int} {r : (List (BitVec 8))} (H : R02_num x0 = some r) (σ : St)  : ACall Tryd.prog 87 [(eI x0)] σ (fun a τ => a = .sl (.own σ.opn.length) 1 (r.map (@eU .u8 8)) ∧ τ = σ.more) := by
 unfold R02_num at H
 refine ACall.app (fun ρ κ => cutL_enc (enc_u td5 sz5).cut ρ κ r) (acall_start tk Tryd.func87 (by decide) rfl (nb rfl) ?_)
 have hH := Holds.init σ
 refine sr rfl (ma tk AV.nils rfl rfl (wpo_nil (sr rfl (mm tk (eI x0) rfl rfl ?_))))
 refine l_ H eI rfl (o_rem tk (z := (128 : Int)) rfl rfl rfl) fun v2 H1 => ?_
 refine l_ H1 (@eU .u8 8) rfl (o_cv_iu tk td3 td5 rfl rfl) fun v4 H3 => ?_
 refine l_ H3 (eF 1 (@eU .u8 8)) rfl (o_c tk false rfl (fun _ => rfl)) fun v6 H5 => ?_
 refine ma tk (eF 1 (@eU .u8 8) v6) rfl rfl (wpo_nil (awp_seq (sr rfl (mm tk (eI x0) rfl rfl ?_))))
 refine l_ H5 eI rfl (o_quo tk (z := (128 : Int)) rfl rfl rfl) fun v8 H7 => ?_
 refine ma tk (eI v8) rfl rfl (wpo_nil (awp_block ?_))
 refine AWP.tokF hH 3 rfl fun tk11 τ hH => ?_
 obtain ⟨s19, hs13, hj14⟩ := ob H7
 refine awp_cutx 0 (fun fr τ => ∃ tk_3, WkF fr (fm [(3, (eT tk_3 1 (@eU .u8 8) s19))]) ∧ Holds σ [] [tk_3] τ) ?_ ?_
 ·rintro fr τ ⟨tk_3, hfr, hH⟩
  have H38 := hj14
  refine AWP.fm [(3, (eT tk_3 1 (@eU .u8 8) s19))] hfr ?_
  refine sr rfl (mm tk (eT tk_3 1 (@eU .u8 8) s19) rfl rfl (ma tk (eT tk_3 1 (@eU .u8 8) s19) rfl rfl (wpo_nil (awp_ret ?_))))
  obtain rfl := oi H38
  exact ⟨_, (eT tk_3 1 (@eU .u8 8) s19), rfl, .of_eq rfl, tk_3, rfl, hH⟩
 ·refine awp_loopO (body := fun s => R02_num_b0 s.1 s.2) hs13 (fun (s : (List (BitVec 8)) × Int) fr τ => ∃ tk_3, WkF fr (fm [(3, (eT tk_3 1 (@eU .u8 8) s.1)), (4, (eI s.2))]) ∧ Holds σ [] [tk_3] τ) ⟨tk11, (wc (wc (wkf_nil _))), hH⟩ ?_
  rintro ⟨c9, c10⟩ fr τ y15 ⟨tk_3, hfr, hH⟩ hb17 hy18
  have H20 : R02_num_b0 c9 c10 = some y15 := hb17
  unfold R02_num_b0 at H20
  refine AWP.fm [(3, (eT tk_3 1 (@eU .u8 8) c9)), (4, (eI c10))] hfr ?_
  have hH : Holds σ [] [tk_3] τ := hH
  refine awp_seq (sr rfl (mm tk (eI c10) rfl rfl ?_))
  refine l_ H20 eB rfl (o_ar tk rfl rfl rfl) fun v22 H21 => ?_
  refine wpo_nil ?_
  refine awp_if H21 rfl (fun H23 => ?_) (fun H23 => ?_)
  ·refine awp_skip (awp_seq (awp_block (sr rfl (mm tk (eI c10) rfl rfl ?_))))
   refine l_ H23 eI rfl (o_rem tk (z := (128 : Int)) rfl rfl rfl) fun v25 H24 => ?_
   refine l_ H24 eI rfl (o_ar tk rfl rfl rfl) fun v27 H26 => ?_
   refine l_ H26 (@eU .u8 8) rfl (o_cv_iu tk td3 td5 rfl rfl) fun v29 H28 => ?_
   refine l_ H28 (eF 1 (@eU .u8 8)) rfl (o_c tk false rfl (fun _ => rfl)) fun v31 H30 => ?_
   refine ma tk (eF 1 (@eU .u8 8) v31) rfl rfl (wpo_nil (awp_region rfl (mm tk (eF 1 (@eU .u8 8) v31) rfl rfl (mm tk (eT tk_3 1 (@eU .u8 8) c9) rfl rfl ?_))))
   obtain ⟨v33, hv34, H32⟩ := ob H30
   refine wpo_a (av := fun t => eT t 1 (@eU .u8 8) v33) rfl rfl rfl (h_app0 tk hH hv34 td37 ty5 rfl (by decide) (.inr rfl) (src_l td37 rfl)) fun tk35 τ hH => ?_
   refine ma tk (eT tk35 1 (@eU .u8 8) v33) rfl rfl (wpo_nil (awp_region rfl (mm tk (eI c10) rfl rfl ?_)))
   refine l_ H32 eI rfl (o_quo tk (z := (128 : Int)) rfl rfl rfl) fun v37 H36 => ?_
   refine ma tk (eI v37) rfl rfl (wpo_nil ?_)
   exact ⟨(v33, v37), inj_inl H36, tk35, (wc (wc (wkf_nil _))), (hH.sub (.cons_cons _ (.cons _ .slnil)))⟩
  ·refine awp_exit ?_
   have hz := hy18 _ (inj_inr H23)
   subst hz
   exact ⟨⟨_, inj_inr H23⟩, tk_3, (wc (wkf_nil _)), hH⟩
theorem R02_num_ok {x0 : Int} {r : (List (BitVec 8))} (H : R02_num x0 = some r) (σ : St) : ACall Tryd.prog 87 [(eI x0)] σ (fun a τ => a = (eL 1 (@eU .u8 8)) r ∧ τ = σ) := (R02_num_app H σ).unapp (fun ρ κ => cutL_enc (enc_u td5 sz5).cut ρ κ r)
theorem R02_Put_app {x0 : List (BitVec 8)} {x1 : List Int} {r : (List (BitVec 8))} (H : R02_Put x0 x1 = some r) (σ : St)  : ACall Tryd.prog 83 [((eL 1 (@eU .u8 8)) x0), ((eL 1 eI) x1)] σ (fun a τ => a = .sl (.own σ.opn.length) 1 (r.map (@eU .u8 8)) ∧ τ = σ.more) := by
 unfold R02_Put at H
 refine ACall.app (fun ρ κ => cutL_enc (enc_u td5 sz5).cut ρ κ r) (acall_start tk Tryd.func83 (by decide) rfl (nb rfl) ?_)
 have hH := Holds.init σ
 refine sr rfl (ma tk AV.nils rfl rfl (wpo_nil (sr rfl (ma tk AV.nils rfl rfl (wpo_nil (sr rfl (mm tk AV.nils rfl rfl (mm tk ((eL 1 (@eU .u8 8)) x0) rfl rfl ?_))))))))
 obtain ⟨v2, hv3, H1⟩ := ob H
 refine wpo_a (av := fun t => eT t 1 (@eU .u8 8) v2) rfl rfl rfl (h_app0 tk hH hv3 td37 ty5 rfl (by decide) (.inl ⟨rfl, rfl⟩) (src_l td37 rfl)) fun tk4 τ hH => ?_
 refine ma tk (eT tk4 1 (@eU .u8 8) v2) rfl rfl (wpo_nil (awp_seq (sr rfl (ma tk (eI (0 : Int)) rfl rfl (wpo_nil (awp_block ?_))))))
 obtain ⟨s14, hs8, hj9⟩ := ob H1
 refine awp_cutx 0 (fun fr τ => ∃ tk_5, WkF fr (fm [(5, (eT tk_5 1 (@eU .u8 8) s14))]) ∧ Holds σ [] [tk_5] τ) ?_ ?_
 ·rintro fr τ ⟨tk_5, hfr, hH⟩
  have H31 := hj9
  refine AWP.fm [(5, (eT tk_5 1 (@eU .u8 8) s14))] hfr ?_
  refine sr rfl (mm tk (eT tk_5 1 (@eU .u8 8) s14) rfl rfl (ma tk (eT tk_5 1 (@eU .u8 8) s14) rfl rfl (wpo_nil (awp_ret ?_))))
  obtain rfl := oi H31
  exact ⟨_, (eT tk_5 1 (@eU .u8 8) s14), rfl, .of_eq rfl, tk_5, rfl, hH⟩
 ·refine awp_loopO (body := fun s => R02_Put_b0 x1 s.1 s.2) hs8 (fun (s : (List (BitVec 8)) × Int) fr τ => ∃ tk_5, WkF fr (fm [(1, ((eL 1 eI) x1)), (5, (eT tk_5 1 (@eU .u8 8) s.1)), (6, (eI s.2))]) ∧ Holds σ [] [tk_5] τ) ⟨tk4, (wc (wc (wc (wkf_nil _)))), hH⟩ ?_
  rintro ⟨c5, c6⟩ fr τ y10 ⟨tk_5, hfr, hH⟩ hb12 hy13
  have H15 : R02_Put_b0 x1 c5 c6 = some y10 := hb12
  unfold R02_Put_b0 at H15
  refine AWP.fm [(1, ((eL 1 eI) x1)), (5, (eT tk_5 1 (@eU .u8 8) c5)), (6, (eI c6))] hfr ?_
  have hH : Holds σ [] [tk_5] τ := hH
  refine awp_seq (sr rfl (mm tk (eI c6) rfl rfl (mm tk ((eL 1 eI) x1) rfl rfl ?_)))
  refine l_ H15 eI rfl (o_len tk td70 rfl) fun v17 H16 => ?_
  refine l_ H16 eB rfl (o_ar tk rfl rfl rfl) fun v19 H18 => ?_
  refine wpo_nil ?_
  refine awp_if H18 rfl (fun H20 => ?_) (fun H20 => ?_)
  ·refine awp_skip (awp_seq (awp_block (awp_region rfl (mm tk (eT tk_5 1 (@eU .u8 8) c5) rfl rfl (mm tk ((eL 1 eI) x1) rfl rfl (mm tk (eI c6) rfl rfl ?_))))))
   refine b_ H20 (fun y => .fptr (eI y).cells 0) rfl (fun v22 hv => o_ixa tk hv td70 (enc_i64 td3 sz3) rfl rfl) fun v22 hv22 H21 => ?_
   refine m_ (eI v22) rfl (o_ld_e tk (enc_i64 td3 sz3) rfl rfl) ?_
   refine b_ H21 (eL 1 (@eU .u8 8)) rfl (fun v24 hv => OpP.of_call rfl rfl (.cons wr .nil) (R02_num_ok hv)) fun v24 hv24 H23 => ?_
   obtain ⟨v26, hv27, H25⟩ := ob H23
   refine wpo_a (av := fun t => eT t 1 (@eU .u8 8) v26) rfl rfl rfl (h_app tk hH 0 hv27 rfl td37 ty5 rfl (by decide) rfl (src_l td37 rfl)) fun tk28 τ hH => ?_
   refine ma tk (eT tk28 1 (@eU .u8 8) v26) rfl rfl (wpo_nil (awp_region rfl (mm tk (eI c6) rfl rfl ?_)))
   refine l_ H25 eI rfl (o_ar tk rfl rfl rfl) fun v30 H29 => ?_
   refine ma tk (eI v30) rfl rfl (wpo_nil ?_)
   exact ⟨(v26, v30), inj_inl H29, tk28, (wc (wc (wc (wkf_nil _)))), hH⟩
  ·refine awp_exit ?_
   have hz := hy13 _ (inj_inr H20)
   subst hz
   exact ⟨⟨_, inj_inr H20⟩, tk_5, (wc (wkf_nil _)), hH⟩
theorem R02_Put_ok {x0 : List (BitVec 8)} {x1 : List Int} {r : (List (BitVec 8))} (H : R02_Put x0 x1 = some r) (σ : St) : ACall Tryd.prog 83 [((eL 1 (@eU .u8 8)) x0), ((eL 1 eI) x1)] σ (fun a τ => a = (eL 1 (@eU .u8 8)) r ∧ τ = σ) := (R02_Put_app H σ).unapp (fun ρ κ => cutL_enc (enc_u td5 sz5).cut ρ κ r)
theorem R02_Bytes_app {x0 : List (BitVec 8)} {x1 : List (BitVec 8)} {r : (List (BitVec 8))} (H : R02_Bytes x0 x1 = some r) (σ : St)  : ACall Tryd.prog 82 [((eL 1 (@eU .u8 8)) x0), ((eL 1 (@eU .u8 8)) x1)] σ (fun a τ => a = .sl (.own σ.opn.length) 1 (r.map (@eU .u8 8)) ∧ τ = σ.more) := by
 unfold R02_Bytes at H
 refine ACall.app (fun ρ κ => cutL_enc (enc_u td5 sz5).cut ρ κ r) (acall_start tk Tryd.func82 (by decide) rfl (nb rfl) ?_)
 have hH := Holds.init σ
 refine sr rfl (ma tk AV.nils rfl rfl (wpo_nil (sr rfl (mm tk ((eL 1 (@eU .u8 8)) x0) rfl rfl (mm tk ((eL 1 (@eU .u8 8)) x1) rfl rfl ?_)))))
 refine l_ H eI rfl (o_len tk td37 rfl) fun v2 H1 => ?_
 refine l_ H1 (eF 1 eI) rfl (o_c tk false rfl (fun _ => rfl)) fun v4 H3 => ?_
 refine wpo_cb H3 (fun x t => eT t 1 (@eU .u8 8) x) rfl rfl rfl (fun v6 hv => h_calla hH rfl rfl (.cons wr (.cons wk_no .nil)) (R02_Put_app hv _)) fun v6 tk7 τ hv6 H5 hH => ?_
 refine mm tk ((eL 1 (@eU .u8 8)) x1) rfl rfl ?_
 obtain ⟨v9, hv10, H8⟩ := ob H5
 refine wpo_a (av := fun t => eT t 1 (@eU .u8 8) v9) rfl rfl rfl (h_app tk hH 0 hv10 rfl td37 ty5 rfl (by decide) rfl (src_l td37 rfl)) fun tk11 τ hH => ?_
 refine ma tk (eT tk11 1 (@eU .u8 8) v9) rfl rfl (wpo_nil (awp_ret ?_))
 obtain rfl := oi H8
 exact ⟨_, (eT tk11 1 (@eU .u8 8) v9), rfl, .of_eq rfl, tk11, rfl, hH⟩
theorem R02_Bytes_ok {x0 : List (BitVec 8)} {x1 : List (BitVec 8)} {r : (List (BitVec 8))} (H : R02_Bytes x0 x1 = some r) (σ : St) : ACall Tryd.prog 82 [((eL 1 (@eU .u8 8)) x0), ((eL 1 (@eU .u8 8)) x1)] σ (fun a τ => a = (eL 1 (@eU .u8 8)) r ∧ τ = σ) := (R02_Bytes_app H σ).unapp (fun ρ κ => cutL_enc (enc_u td5 sz5).cut ρ κ r)
theorem R06_Put_app {x0 : List (BitVec 8)} {x1 : aEn} {r : (List (BitVec 8))} (H : R06_Put x0 x1 = some r) (σ : St)  : ACall Tryd.prog 73 [((eL 1 (@eU .u8 8)) x0), (e_aEn x1)] σ (fun a τ => a = .sl (.own σ.opn.length) 1 (r.map (@eU .u8 8)) ∧ τ = σ.more) := by
 unfold R06_Put at H
 refine ACall.app (fun ρ κ => cutL_enc (enc_u td5 sz5).cut ρ κ r) (acall_start tk Tryd.func73 (by decide) rfl (nb rfl) ?_)
 have hH := Holds.init σ
 refine sr rfl (m_ (.fptr (c_aEn x1) 0) rfl (o_boxf tk rfl wr (b := (e_aEn x1)) (enc39.flat _)) (ma tk AV.nils rfl rfl (wpo_nil (sr rfl (mm tk ((eL 1 (@eU .u8 8)) x0) rfl rfl (mc tk (.fptr (c_aEn x1) 0) rfl rfl (fun _ => rfl) (m_ (eS x1.Key) rfl (o_ld tk rfl rfl) ?_)))))))
 refine b_ H (eL 1 (@eU .u8 8)) rfl (fun v2 hv => o_s2b tk hv td9 td37 td5 rfl) fun v2 hv2 H1 => ?_
 refine b_ H1 (eL 1 (@eU .u8 8)) rfl (fun v4 hv => OpP.of_call rfl rfl (.cons wr (.cons wr .nil)) (R02_Bytes_ok hv)) fun v4 hv4 H3 => ?_
 refine ma tk ((eL 1 (@eU .u8 8)) v4) rfl rfl (wpo_nil (sr rfl (mm tk ((eL 1 (@eU .u8 8)) v4) rfl rfl (mc tk (.fptr (c_aEn x1) 1) rfl rfl (fun _ => rfl) (m_ (eI x1.Version) rfl (o_ld tk rfl rfl) (mc tk (.fptr (c_aEn x1) 2) rfl rfl (fun _ => rfl) (m_ (eI x1.AsOf) rfl (o_ld tk rfl rfl) (mc tk (.fptr (c_aEn x1) 3) rfl rfl (fun _ => rfl) ?_))))))))
 refine m_ (eI x1.Ends) rfl (o_ld tk rfl rfl) ?_
 refine l_ H3 (eF 1 eI) rfl (o_c tk false rfl (fun _ => rfl)) fun v6 H5 => ?_
 refine b_ H5 (eL 1 (@eU .u8 8)) rfl (fun v8 hv => OpP.of_call rfl rfl (.cons wr (.cons wk_no .nil)) (R02_Put_ok hv)) fun v8 hv8 H7 => ?_
 refine ma tk ((eL 1 (@eU .u8 8)) v8) rfl rfl (wpo_nil (sr rfl (mm tk ((eL 1 (@eU .u8 8)) v8) rfl rfl (mc tk (.fptr (c_aEn x1) 4) rfl rfl (fun _ => rfl) (m_ ((eL 1 (@eU .u8 8)) x1.Value) rfl (o_ld tk rfl rfl) ?_)))))
 refine wpo_cb H7 (fun x t => eT t 1 (@eU .u8 8) x) rfl rfl rfl (fun v10 hv => h_calla hH rfl rfl (.cons wr (.cons wr .nil)) (R02_Bytes_app hv _)) fun v10 tk11 τ hv10 H9 hH => ?_
 refine ma tk (eT tk11 1 (@eU .u8 8) v10) rfl rfl (wpo_nil (awp_ret ?_))
 obtain rfl := oi H9
 exact ⟨_, (eT tk11 1 (@eU .u8 8) v10), rfl, .of_eq rfl, tk11, rfl, hH⟩
theorem R06_Put_ok {x0 : List (BitVec 8)} {x1 : aEn} {r : (List (BitVec 8))} (H : R06_Put x0 x1 = some r) (σ : St) : ACall Tryd.prog 73 [((eL 1 (@eU .u8 8)) x0), (e_aEn x1)] σ (fun a τ => a = (eL 1 (@eU .u8 8)) r ∧ τ = σ) := (R06_Put_app H σ).unapp (fun ρ κ => cutL_enc (enc_u td5 sz5).cut ρ κ r)
theorem R06_Size_ok {x0 : aEn} {r : Int} (H : R06_Size x0 = some r) (σ : St)  : ACall Tryd.prog 53 [(e_aEn x0)] σ (fun a τ => a = eI r ∧ τ = σ) := by
 unfold R06_Size at H
 refine ACall.pure (acall_start tk Tryd.func53 (by decide) rfl (nb rfl) ?_)
 have hH := Holds.init σ
 refine sr rfl (m_ (.fptr (c_aEn x0) 0) rfl (o_boxf tk rfl wr (b := (e_aEn x0)) (enc39.flat _)) (ma tk (eI (0 : Int)) rfl rfl (wpo_nil (sr rfl (m_ (e_aEn x0) rfl (o_ld tk rfl rfl) ?_)))))
 refine b_ H (eL 1 (@eU .u8 8)) rfl (fun v2 hv => OpP.of_call rfl rfl (.cons (wk_nils _) (.cons wr .nil)) (R06_Put_ok hv)) fun v2 hv2 H1 => ?_
 refine l_ H1 eI rfl (o_len tk td37 rfl) fun v4 H3 => ?_
 refine ma tk (eI v4) rfl rfl (wpo_nil (awp_ret ?_))
 obtain rfl := oi H3
 exact ⟨_, (eI v4), rfl, wr, .of_eq ((enc_i64 td3 sz3).cut _ _ _), hH.noT⟩
theorem R11_Takes_ok {x0 : aEn} {r : Int} (H : R11_Takes x0 = some r) (σ : St)  : ACall Tryd.prog 16 [(e_aEn x0)] σ (fun a τ => a = eI r ∧ τ = σ) := by
 unfold R11_Takes at H
 refine ACall.pure (acall_start tk Tryd.func16 (by decide) rfl (nb rfl) ?_)
 have hH := Holds.init σ
 refine sr rfl (m_ (.fptr (c_aEn x0) 0) rfl (o_boxf tk rfl wr (b := (e_aEn x0)) (enc39.flat _)) (ma tk (eI (0 : Int)) rfl rfl (wpo_nil (sr rfl (m_ (e_aEn x0) rfl (o_ld tk rfl rfl) ?_)))))
 refine b_ H eI rfl (fun v2 hv => OpP.of_call rfl rfl (.cons wr .nil) (R06_Size_ok hv)) fun v2 hv2 H1 => ?_
 refine b_ H1 eI rfl (fun v4 hv => OpP.of_call rfl rfl (.cons wr .nil) (R08_Class_ok hv)) fun v4 hv4 H3 => ?_
 refine b_ H3 eI rfl (fun v6 hv => OpP.of_call rfl rfl (.cons wr .nil) (R08_Size_ok hv)) fun v6 hv6 H5 => ?_
 refine ma tk (eI v6) rfl rfl (wpo_nil (awp_ret ?_))
 obtain rfl := oi H5
 exact ⟨_, (eI v6), rfl, wr, .of_eq ((enc_i64 td3 sz3).cut _ _ _), hH.noT⟩
theorem R06_Live_ok {x0 : aEn} {x1 : Int} {r : Bool} (H : R06_Live x0 x1 = some r) (σ : St)  : ACall Tryd.prog 22 [(e_aEn x0), (eI x1)] σ (fun a τ => a = eB r ∧ τ = σ) := by
 unfold R06_Live at H
 refine ACall.pure (acall_start tk Tryd.func22 (by decide) rfl (nb rfl) ?_)
 have hH := Holds.init σ
 refine sr rfl (m_ (.fptr (c_aEn x0) 0) rfl (o_boxf tk rfl wr (b := (e_aEn x0)) (enc39.flat _)) (ma tk (eB false) rfl rfl (wpo_nil (sr rfl (mc tk (.fptr (c_aEn x0) 3) rfl rfl (fun _ => rfl) (m_ (eI x0.Ends) rfl (o_ld tk rfl rfl) ?_))))))
 refine l_ H eB rfl (o_ar tk rfl rfl rfl) fun v2 H1 => ?_
 refine mm tk (eB v2) rfl rfl ?_
 refine if_split H1 (fun hb H3 => ?_) (fun hb H3 => ?_)
 ·subst hb
  refine k_ rfl (k_ rfl (k_ rfl (k_ rfl (pt tk (eB true) rfl rfl rfl (ma tk (eB true) rfl rfl (wpo_nil (awp_ret ?_)))))))
  obtain rfl := oi H3
  exact ⟨_, (eB true), rfl, wr, .of_eq ((enc_b td4 sz4).cut _ _ _), hH.noT⟩
 ·subst hb
  refine mc tk (.fptr (c_aEn x0) 3) rfl rfl (fun _ => rfl) (m_ (eI x0.Ends) rfl (o_ld tk rfl rfl) (mm tk (eI x1) rfl rfl ?_))
  refine l_ H3 eB rfl (o_ar tk rfl rfl rfl) fun v5 H4 => ?_
  refine pf tk (eB v5) rfl rfl rfl (ma tk (eB v5) rfl rfl (wpo_nil (awp_ret ?_)))
  obtain rfl := oi H4
  exact ⟨_, (eB v5), rfl, wr, .of_eq ((enc_b td4 sz4).cut _ _ _), hH.noT⟩
theorem R11_But_ok {x0 : R11_Ram} {x1 : Int} {r : R11_Ram} (H : R11_But x0 x1 = some r) (σ : St)  : ACall Tryd.prog 48 [(e_R11_Ram x0), (eI x1)] σ (fun a τ => a = e_R11_Ram r ∧ τ = σ) := by
 unfold R11_But at H
 refine ACall.pure (acall_start tk Tryd.func48 (by decide) rfl (nb rfl) ?_)
 have hH := Holds.init σ
 refine sr rfl (m_ (.fptr (c_R11_Ram x0) 0) rfl (o_boxf tk rfl wr (b := (e_R11_Ram x0)) (enc33.flat _)) ?_)
 refine wpo_a (av := fun id => .ref id 0) rfl rfl rfl (h_alloc tk hH ty33 [(eI z_R11_Ram.Limit), AV.nils] rfl) fun id1 τ ⟨hH, n2⟩ => ?_
 refine wpo_nil (sr rfl (mc tk (.fptr (c_R11_Ram x0) 0) rfl rfl (fun _ => rfl) (m_ (eI x0.Limit) rfl (o_ld tk rfl rfl) (mc tk (.agg [(eI (⟨x0.Limit, ([] : List aEn)⟩ : R11_Ram).Limit), AV.nils]) rfl rfl (fun _ => rfl) ?_))))
 refine wpo_a (av := fun id => .ref id 0) rfl rfl rfl (h_alloc tk hH ty33 [(eI z_R11_Ram.Limit), AV.nils] rfl) fun id3 τ ⟨hH, n4⟩ => ?_
 refine wpo_z rfl rfl (h_st (y := (.agg [(eI (⟨x0.Limit, ([] : List aEn)⟩ : R11_Ram).Limit), AV.nils])) tk hH 0 rfl ty33 (by simp) rfl rfl wr (b := (.agg [(eI (⟨x0.Limit, ([] : List aEn)⟩ : R11_Ram).Limit), AV.nils])) rfl rfl (nb rfl) [(eI ((⟨x0.Limit, ([] : List aEn)⟩ : R11_Ram) : R11_Ram).Limit), AV.nils] rfl) fun τ hH => ?_
 refine wpo_nil (awp_seq ?_)
 refine awp_drawS mixed [6, 8] rfl (by decide +kernel) rfl rfl ?_
 refine wpdS_mv (a := (.ref id3 1)) rfl rfl rfl (o_c tk false rfl (fun _ => rfl)) (wpdS_rd (a := AV.nils) rfl (by decide +kernel) rfl rfl (h_ld tk hH 0 rfl rfl rfl) (wpdS_mv (a := (.fptr (c_R11_Ram x0) 1)) rfl rfl rfl (o_c tk false rfl (fun _ => rfl)) (wpdS_mv (a := ((eL 5 e_aEn) x0.L)) rfl rfl rfl (o_ld tk rfl rfl) (wpdS_mv (a := (eI x1)) rfl rfl rfl (o_mv tk rfl (Wk.refl _)) ?_))))
 refine wpdS_bd H (eL 5 e_aEn) rfl rfl rfl (fun v7 hv => o_cutTo tk hv td31 enc39 rfl rfl) fun v7 hv7 H6 => ?_
 obtain ⟨v9, hv10, H8⟩ := ob H6
 refine wpdS_a (av := fun t => eT t 5 e_aEn v9) rfl rfl rfl (h_app0 tk hH hv10 td31 ty39 rfl (by decide) (.inl ⟨rfl, rfl⟩) (src_l td31 rfl)) fun tk11 τ hH => ?_
 refine wpdS_mv (a := (.ref id3 1)) rfl rfl rfl (o_c tk false rfl (fun _ => rfl)) ?_
 refine wpdS_z rfl rfl rfl (h_st (y := (eT tk11 5 e_aEn v9)) tk hH 0 rfl ty31 (by simp) rfl rfl wr (b := (eT tk11 5 e_aEn v9)) rfl rfl (nb rfl) [(eI ({ ((⟨x0.Limit, ([] : List aEn)⟩ : R11_Ram) : R11_Ram) with L := v9 } : R11_Ram).Limit), (eT tk11 5 e_aEn ({ ((⟨x0.Limit, ([] : List aEn)⟩ : R11_Ram) : R11_Ram) with L := v9 } : R11_Ram).L)] rfl) fun τ hH => ?_
 refine wpdS_nil (awp_seq ?_)
 refine awp_drawS mixed [7, 9] rfl (by decide +kernel) rfl rfl ?_
 refine wpdS_mv (a := (.ref id3 1)) rfl rfl rfl (o_c tk false rfl (fun _ => rfl)) (wpdS_rd (a := (eT tk11 5 e_aEn ({ ((⟨x0.Limit, ([] : List aEn)⟩ : R11_Ram) : R11_Ram) with L := v9 } : R11_Ram).L)) rfl (by decide +kernel) rfl rfl (h_ld tk hH 0 rfl rfl rfl) (wpdS_mv (a := (.fptr (c_R11_Ram x0) 1)) rfl rfl rfl (o_c tk false rfl (fun _ => rfl)) (wpdS_mv (a := ((eL 5 e_aEn) x0.L)) rfl rfl rfl (o_ld tk rfl rfl) (wpdS_mv (a := (eI x1)) rfl rfl rfl (o_mv tk rfl (Wk.refl _)) ?_))))
 refine wpdS_lt H8 eI rfl rfl rfl (o_ar tk rfl rfl rfl) fun v14 H13 => ?_
 refine wpdS_bd H13 (eL 5 e_aEn) rfl rfl rfl (fun v16 hv => o_cutFrom tk hv td31 enc39 rfl rfl) fun v16 hv16 H15 => ?_
 obtain ⟨v18, hv19, H17⟩ := ob H15
 refine wpdS_a (av := fun t => eT t 5 e_aEn v18) rfl rfl rfl (h_app tk hH 0 hv19 rfl td31 ty39 rfl (by decide) rfl (src_l td31 rfl)) fun tk20 τ hH => ?_
 refine wpdS_mv (a := (.ref id3 1)) rfl rfl rfl (o_c tk false rfl (fun _ => rfl)) ?_
 refine wpdS_z rfl rfl rfl (h_st (y := (eT tk20 5 e_aEn v18)) tk hH 0 rfl ty31 (by simp) rfl rfl wr (b := (eT tk20 5 e_aEn v18)) rfl rfl (nb rfl) [(eI ({ ({ ((⟨x0.Limit, ([] : List aEn)⟩ : R11_Ram) : R11_Ram) with L := v9 } : R11_Ram) with L := v18 } : R11_Ram).Limit), (eT tk20 5 e_aEn ({ ({ ((⟨x0.Limit, ([] : List aEn)⟩ : R11_Ram) : R11_Ram) with L := v9 } : R11_Ram) with L := v18 } : R11_Ram).L)] rfl) fun τ hH => ?_
 refine wpdS_nil (sr rfl (wpo_rd (a := (.agg [(eI ({ ({ ((⟨x0.Limit, ([] : List aEn)⟩ : R11_Ram) : R11_Ram) with L := v9 } : R11_Ram) with L := v18 } : R11_Ram).Limit), (eT tk20 5 e_aEn ({ ({ ((⟨x0.Limit, ([] : List aEn)⟩ : R11_Ram) : R11_Ram) with L := v9 } : R11_Ram) with L := v18 } : R11_Ram).L)])) rfl rfl rfl (h_ld tk hH 0 rfl rfl rfl) ?_))
 refine wpo_z rfl rfl (h_st (y := (.agg [(eI ({ ({ ((⟨x0.Limit, ([] : List aEn)⟩ : R11_Ram) : R11_Ram) with L := v9 } : R11_Ram) with L := v18 } : R11_Ram).Limit), (eT tk20 5 e_aEn ({ ({ ((⟨x0.Limit, ([] : List aEn)⟩ : R11_Ram) : R11_Ram) with L := v9 } : R11_Ram) with L := v18 } : R11_Ram).L)])) tk hH 1 rfl ty33 (by simp) rfl rfl wr (b := (.agg [(eI ({ ({ ((⟨x0.Limit, ([] : List aEn)⟩ : R11_Ram) : R11_Ram) with L := v9 } : R11_Ram) with L := v18 } : R11_Ram).Limit), (eT tk20 5 e_aEn ({ ({ ((⟨x0.Limit, ([] : List aEn)⟩ : R11_Ram) : R11_Ram) with L := v9 } : R11_Ram) with L := v18 } : R11_Ram).L)])) rfl rfl (nb rfl) [(eI (({ ({ ((⟨x0.Limit, ([] : List aEn)⟩ : R11_Ram) : R11_Ram) with L := v9 } : R11_Ram) with L := v18 } : R11_Ram) : R11_Ram).Limit), (eT tk20 5 e_aEn (({ ({ ((⟨x0.Limit, ([] : List aEn)⟩ : R11_Ram) : R11_Ram) with L := v9 } : R11_Ram) with L := v18 } : R11_Ram) : R11_Ram).L)] rfl) fun τ hH => ?_
 refine wpo_nil (awp_ret ?_)
 obtain rfl := oi H17
 exact ⟨_, (e_R11_Ram (({ ({ ((⟨x0.Limit, ([] : List aEn)⟩ : R11_Ram) : R11_Ram) with L := v9 } : R11_Ram) with L := v18 } : R11_Ram) : R11_Ram)), (ares_1 (ares_cell hH 1 rfl rfl rfl)), (wk_agg (.cons wr (.cons wk_no .nil))), .of_eq (enc33.cut _ _ _), ((hH.noT.drop n4).drop n2)⟩
theorem R02_Key_ok {x0 : List (BitVec 8)} {r : Int} (H : R02_Key x0 = some r) (σ : St)  : ACall Tryd.prog 81 [(eS x0)] σ (fun a τ => a = eI r ∧ τ = σ) := by
 unfold R02_Key at H
 refine ACall.pure (acall_start tk Tryd.func81 (by decide) rfl (nb rfl) ?_)
 have hH := Holds.init σ
 refine sr rfl (ma tk (eI (0 : Int)) rfl rfl (wpo_nil (awp_seq (sr rfl (mm tk (eS x0) rfl rfl ?_)))))
 refine l_ H eB rfl (o_eql_s tk rfl rfl) fun v2 H1 => ?_
 refine wpo_nil ?_
 refine awp_if H1 rfl (fun H3 => ?_) (fun H3 => ?_)
 ·refine sr rfl (ma tk (eI (1 : Int)) rfl rfl (wpo_nil (awp_ret ?_)))
  obtain rfl := oi H3
  exact ⟨_, (eI (1 : Int)), rfl, wr, .of_eq ((enc_i64 td34 sz34).cut _ _ _), hH.noT⟩
 ·refine awp_skip (awp_seq (sr rfl (mm tk (eS x0) rfl rfl ?_)))
  refine l_ H3 eI rfl (o_len_s tk td9 rfl) fun v5 H4 => ?_
  refine l_ H4 eB rfl (o_ar tk rfl rfl rfl) fun v7 H6 => ?_
  refine wpo_nil ?_
  refine awp_if H6 rfl (fun H8 => ?_) (fun H8 => ?_)
  ·refine sr rfl (ma tk (eI (3 : Int)) rfl rfl (wpo_nil (awp_ret ?_)))
   obtain rfl := oi H8
   exact ⟨_, (eI (3 : Int)), rfl, wr, .of_eq ((enc_i64 td34 sz34).cut _ _ _), hH.noT⟩
  ·refine awp_skip (sr rfl (ma tk (eI (0 : Int)) rfl rfl (wpo_nil (awp_ret ?_))))
   obtain rfl := oi H8
   exact ⟨_, (eI (0 : Int)), rfl, wr, .of_eq ((enc_i64 td34 sz34).cut _ _ _), hH.noT⟩
theorem R06_Check_ok {x0 : aEn} {r : Int} (H : R06_Check x0 = some r) (σ : St)  : ACall Tryd.prog 67 [(e_aEn x0)] σ (fun a τ => a = eI r ∧ τ = σ) := by
 unfold R06_Check at H
 refine ACall.pure (acall_start tk Tryd.func67 (by decide) rfl (nb rfl) ?_)
 have hH := Holds.init σ
 refine sr rfl (m_ (.fptr (c_aEn x0) 0) rfl (o_boxf tk rfl wr (b := (e_aEn x0)) (enc39.flat _)) (ma tk (eI (0 : Int)) rfl rfl (wpo_nil (awp_seq (sr rfl (mc tk (.fptr (c_aEn x0) 0) rfl rfl (fun _ => rfl) (m_ (eS x0.Key) rfl (o_ld tk rfl rfl) ?_)))))))
 refine b_ H eI rfl (fun v2 hv => OpP.of_call rfl rfl (.cons wr .nil) (R02_Key_ok hv)) fun v2 hv2 H1 => ?_
 refine ma tk (eI v2) rfl rfl (wpo_nil (sr rfl (mm tk (eI v2) rfl rfl ?_)))
 refine l_ H1 eB rfl (o_ar tk rfl rfl rfl) fun v4 H3 => ?_
 refine wpo_nil ?_
 refine awp_if H3 rfl (fun H5 => ?_) (fun H5 => ?_)
 ·refine sr rfl (mm tk (eI v2) rfl rfl (ma tk (eI v2) rfl rfl (wpo_nil (awp_ret ?_))))
  obtain rfl := oi H5
  exact ⟨_, (eI v2), rfl, wr, .of_eq ((enc_i64 td34 sz34).cut _ _ _), hH.noT⟩
 ·refine awp_skip (awp_seq (awp_seq ?_))
  obtain ⟨s6, hs8, hj9⟩ := ob H5
  refine awp_cutn (fun fr τ => WkF fr (fm [(1, (.fptr (c_aEn x0) 0)), (39, (eB s6))]) ∧ Holds σ [] [] τ) ?_ ?_
  ·rintro fr τ ⟨hfr, hH⟩
   have H27 := hj9
   refine AWP.fm [(1, (.fptr (c_aEn x0) 0)), (39, (eB s6))] hfr ?_
   refine awp_if H27 rfl (fun H28 => ?_) (fun H28 => ?_)
   ·refine sr rfl (ma tk (eI (2 : Int)) rfl rfl (wpo_nil (awp_ret ?_)))
    obtain rfl := oi H28
    exact ⟨_, (eI (2 : Int)), rfl, wr, .of_eq ((enc_i64 td34 sz34).cut _ _ _), hH.noT⟩
   ·refine awp_skip (awp_seq (sr rfl (mc tk (.fptr (c_aEn x0) 4) rfl rfl (fun _ => rfl) (m_ ((eL 1 (@eU .u8 8)) x0.Value) rfl (o_ld tk rfl rfl) ?_))))
    refine l_ H28 eI rfl (o_len tk td37 rfl) fun v30 H29 => ?_
    refine l_ H29 eB rfl (o_ar tk rfl rfl rfl) fun v32 H31 => ?_
    refine wpo_nil ?_
    refine awp_if H31 rfl (fun H33 => ?_) (fun H33 => ?_)
    ·refine sr rfl (ma tk (eI (3 : Int)) rfl rfl (wpo_nil (awp_ret ?_)))
     obtain rfl := oi H33
     exact ⟨_, (eI (3 : Int)), rfl, wr, .of_eq ((enc_i64 td34 sz34).cut _ _ _), hH.noT⟩
    ·refine awp_skip (sr rfl (ma tk (eI (0 : Int)) rfl rfl (wpo_nil (awp_ret ?_))))
     obtain rfl := oi H33
     exact ⟨_, (eI (0 : Int)), rfl, wr, .of_eq ((enc_i64 td34 sz34).cut _ _ _), hH.noT⟩
  ·refine awp_region rfl (mc tk (.fptr (c_aEn x0) 1) rfl rfl (fun _ => rfl) (m_ (eI x0.Version) rfl (o_ld tk rfl rfl) ?_))
   refine l_ hs8 eB rfl (o_ar tk rfl rfl rfl) fun v11 H10 => ?_
   refine mm tk (eB v11) rfl rfl ?_
   refine if_split H10 (fun hb H12 => ?_) (fun hb H12 => ?_)
   ·subst hb
    refine k_ rfl (k_ rfl (k_ rfl (pt tk (eB true) rfl rfl rfl (mm tk (eB true) rfl rfl (k_ rfl (k_ rfl (k_ rfl (k_ rfl ?_))))))))
    refine k_ rfl (pt tk (eB true) rfl rfl rfl (mm tk (eB true) rfl rfl (k_ rfl (k_ rfl (k_ rfl (pt tk (eB true) rfl rfl rfl (mm tk (eB true) rfl rfl (k_ rfl ?_))))))))
    refine k_ rfl (k_ rfl (pt tk (eB true) rfl rfl rfl (mm tk (eB true) rfl rfl (k_ rfl (k_ rfl (k_ rfl (pt tk (eB true) rfl rfl rfl (wpo_nil ?_))))))))
    have e := oi H12
    subst e
    exact ⟨(wc (wc (wkf_nil _))), hH⟩
   ·subst hb
    refine mc tk (.fptr (c_aEn x0) 1) rfl rfl (fun _ => rfl) (m_ (eI x0.Version) rfl (o_ld tk rfl rfl) ?_)
    refine l_ H12 eB rfl (o_ar tk rfl rfl rfl) fun v14 H13 => ?_
    refine pf tk (eB v14) rfl rfl rfl (mm tk (eB v14) rfl rfl ?_)
    refine if_split H13 (fun hb H15 => ?_) (fun hb H15 => ?_)
    ·subst hb
     refine k_ rfl (k_ rfl (k_ rfl (k_ rfl (k_ rfl (pt tk (eB true) rfl rfl rfl (mm tk (eB true) rfl rfl (k_ rfl (k_ rfl ?_))))))))
     refine k_ rfl (pt tk (eB true) rfl rfl rfl (mm tk (eB true) rfl rfl (k_ rfl (k_ rfl (k_ rfl (pt tk (eB true) rfl rfl rfl (mm tk (eB true) rfl rfl (k_ rfl ?_))))))))
     refine k_ rfl (k_ rfl (pt tk (eB true) rfl rfl rfl (wpo_nil ?_)))
     have e := oi H15
     subst e
     exact ⟨(wc (wc (wkf_nil _))), hH⟩
    ·subst hb
     refine mc tk (.fptr (c_aEn x0) 2) rfl rfl (fun _ => rfl) (m_ (eI x0.AsOf) rfl (o_ld tk rfl rfl) (mc tk (.fptr (c_aEn x0) 1) rfl rfl (fun _ => rfl) (m_ (eI x0.Version) rfl (o_ld tk rfl rfl) ?_)))
     refine l_ H15 eB rfl (o_ar tk rfl rfl rfl) fun v17 H16 => ?_
     refine pf tk (eB v17) rfl rfl rfl (mm tk (eB v17) rfl rfl ?_)
     refine if_split H16 (fun hb H18 => ?_) (fun hb H18 => ?_)
     ·subst hb
      refine k_ rfl (k_ rfl (k_ rfl (pt tk (eB true) rfl rfl rfl (mm tk (eB true) rfl rfl (k_ rfl (k_ rfl (k_ rfl (pt tk (eB true) rfl rfl rfl ?_))))))))
      refine mm tk (eB true) rfl rfl (k_ rfl (k_ rfl (k_ rfl (pt tk (eB true) rfl rfl rfl (wpo_nil ?_)))))
      have e := oi H18
      subst e
      exact ⟨(wc (wc (wkf_nil _))), hH⟩
     ·subst hb
      refine mc tk (.fptr (c_aEn x0) 2) rfl rfl (fun _ => rfl) (m_ (eI x0.AsOf) rfl (o_ld tk rfl rfl) ?_)
      refine l_ H18 eB rfl (o_ar tk rfl rfl rfl) fun v20 H19 => ?_
      refine pf tk (eB v20) rfl rfl rfl (mm tk (eB v20) rfl rfl ?_)
      refine if_split H19 (fun hb H21 => ?_) (fun hb H21 => ?_)
      ·subst hb
       refine k_ rfl (k_ rfl (k_ rfl (pt tk (eB true) rfl rfl rfl (mm tk (eB true) rfl rfl (k_ rfl (k_ rfl (k_ rfl (pt tk (eB true) rfl rfl rfl ?_))))))))
       refine wpo_nil ?_
       have e := oi H21
       subst e
       exact ⟨(wc (wc (wkf_nil _))), hH⟩
      ·subst hb
       refine mc tk (.fptr (c_aEn x0) 3) rfl rfl (fun _ => rfl) (m_ (eI x0.Ends) rfl (o_ld tk rfl rfl) ?_)
       refine l_ H21 eB rfl (o_ar tk rfl rfl rfl) fun v23 H22 => ?_
       refine pf tk (eB v23) rfl rfl rfl (mm tk (eB v23) rfl rfl ?_)
       refine if_split H22 (fun hb H24 => ?_) (fun hb H24 => ?_)
       ·subst hb
        refine k_ rfl (k_ rfl (k_ rfl (pt tk (eB true) rfl rfl rfl (wpo_nil ?_))))
        have e := oi H24
        subst e
        exact ⟨(wc (wc (wkf_nil _))), hH⟩
       ·subst hb
        refine mc tk (.fptr (c_aEn x0) 3) rfl rfl (fun _ => rfl) (m_ (eI x0.Ends) rfl (o_ld tk rfl rfl) ?_)
        refine l_ H24 eB rfl (o_ar tk rfl rfl rfl) fun v26 H25 => ?_
        refine pf tk (eB v26) rfl rfl rfl (wpo_nil ?_)
        have e := oi H25
        subst e
        exact ⟨(wc (wc (wkf_nil _))), hH⟩
theorem R11_Fits_ok {x0 : R11_Ram} {x1 : aEn} {r : Bool} (H : R11_Fits x0 x1 = some r) (σ : St)  : ACall Tryd.prog 68 [(e_R11_Ram x0), (e_aEn x1)] σ (fun a τ => a = eB r ∧ τ = σ) := by
 unfold R11_Fits at H
 refine ACall.pure (acall_start tk Tryd.func68 (by decide) rfl (nb rfl) ?_)
 have hH := Holds.init σ
 refine sr rfl (m_ (.fptr (c_R11_Ram x0) 0) rfl (o_boxf tk rfl wr (b := (e_R11_Ram x0)) (enc33.flat _)) (m_ (.fptr (c_aEn x1) 0) rfl (o_boxf tk rfl wr (b := (e_aEn x1)) (enc39.flat _)) (ma tk (eB false) rfl rfl (wpo_nil (awp_seq ?_)))))
 refine awp_drawS mixed [] rfl (by decide +kernel) rfl rfl ?_
 refine wpdS_mv (a := (e_aEn x1)) rfl rfl rfl (o_ld tk rfl rfl) ?_
 refine wpdS_bd H eI rfl rfl rfl (fun v2 hv => OpP.of_call rfl rfl (.cons wr .nil) (R11_Takes_ok hv)) fun v2 hv2 H1 => ?_
 refine wpdS_lt H1 eB rfl rfl rfl (o_ar tk rfl rfl rfl) fun v4 H3 => ?_
 refine wpdS_mv (a := (eB v4)) rfl rfl rfl (o_mv tk rfl (Wk.refl _)) ?_
 refine if_split H3 (fun hb H5 => ?_) (fun hb H5 => ?_)
 ·subst hb
  refine wpdS_mv (a := (e_aEn x1)) rfl rfl rfl (o_ld tk rfl rfl) ?_
  refine wpdS_bd H5 eI rfl rfl rfl (fun v7 hv => OpP.of_call rfl rfl (.cons wr .nil) (R11_Takes_ok hv)) fun v7 hv7 H6 => ?_
  refine wpdS_mv (a := (.fptr (c_R11_Ram x0) 0)) rfl rfl rfl (o_c tk false rfl (fun _ => rfl)) (wpdS_mv (a := (eI x0.Limit)) rfl rfl rfl (o_ld tk rfl rfl) ?_)
  refine wpdS_lt H6 eB rfl rfl rfl (o_ar tk rfl rfl rfl) fun v9 H8 => ?_
  refine wpdS_mv (a := (eB v9)) rfl rfl rfl (o_pick_t tk rfl rfl (Wk.refl _)) (wpdS_mv (a := (eB v9)) rfl rfl rfl (o_as tk rfl (Wk.refl _)) (wpdS_nil (awp_ret ?_)))
  obtain rfl := oi H8
  exact ⟨_, (eB v9), rfl, wr, .of_eq ((enc_b td4 sz4).cut _ _ _), hH.noT⟩
 ·subst hb
  refine wpdS_skip rfl rfl rfl (wpdS_skip rfl rfl rfl (wpdS_skip rfl rfl rfl (wpdS_skip rfl rfl rfl (wpdS_skip rfl rfl rfl (wpdS_mv (a := (eB false)) rfl rfl rfl (o_pick_f tk rfl rfl (Wk.refl _)) (wpdS_mv (a := (eB false)) rfl rfl rfl (o_as tk rfl (Wk.refl _)) (wpdS_nil (awp_ret ?_))))))))
  obtain rfl := oi H5
  exact ⟨_, (eB false), rfl, wr, .of_eq ((enc_b td4 sz4).cut _ _ _), hH.noT⟩
theorem R11_Used_ok {x0 : R11_Ram} {r : Int} (H : R11_Used x0 = some r) (σ : St)  : ACall Tryd.prog 69 [(e_R11_Ram x0)] σ (fun a τ => a = eI r ∧ τ = σ) := by
 unfold R11_Used at H
 refine ACall.pure (acall_start tk Tryd.func69 (by decide) rfl (nb rfl) ?_)
 have hH := Holds.init σ
 refine sr rfl (m_ (.fptr (c_R11_Ram x0) 0) rfl (o_boxf tk rfl wr (b := (e_R11_Ram x0)) (enc33.flat _)) (ma tk (eI (0 : Int)) rfl rfl (wpo_nil (sr rfl (ma tk (eI (0 : Int)) rfl rfl (wpo_nil (awp_seq (sr rfl ?_))))))))
 refine ma tk (eI (0 : Int)) rfl rfl (wpo_nil (awp_block ?_))
 obtain ⟨s10, hs4, hj5⟩ := ob H
 refine awp_cutx 0 (fun fr τ => WkF fr (fm [(3, (eI s10))]) ∧ Holds σ [] [] τ) ?_ ?_
 ·rintro fr τ ⟨hfr, hH⟩
  have H25 := hj5
  refine AWP.fm [(3, (eI s10))] hfr ?_
  refine sr rfl (mm tk (eI s10) rfl rfl (ma tk (eI s10) rfl rfl (wpo_nil (awp_ret ?_))))
  obtain rfl := oi H25
  exact ⟨_, (eI s10), rfl, wr, .of_eq ((enc_i64 td3 sz3).cut _ _ _), hH.noT⟩
 ·refine awp_loopO (body := fun s => R11_Used_b0 x0 s.1 s.2) hs4 (fun (s : Int × Int) fr τ => WkF fr (fm [(1, (.fptr (c_R11_Ram x0) 0)), (3, (eI s.1)), (4, (eI s.2))]) ∧ Holds σ [] [] τ) ⟨(wc (wc (wc (wkf_nil _)))), hH⟩ ?_
  rintro ⟨c1, c2⟩ fr τ y6 ⟨hfr, hH⟩ hb8 hy9
  have H11 : R11_Used_b0 x0 c1 c2 = some y6 := hb8
  unfold R11_Used_b0 at H11
  refine AWP.fm [(1, (.fptr (c_R11_Ram x0) 0)), (3, (eI c1)), (4, (eI c2))] hfr ?_
  have hH : Holds σ [] [] τ := hH
  refine awp_seq (sr rfl (mm tk (eI c2) rfl rfl (mc tk (.fptr (c_R11_Ram x0) 1) rfl rfl (fun _ => rfl) (m_ ((eL 5 e_aEn) x0.L) rfl (o_ld tk rfl rfl) ?_))))
  refine l_ H11 eI rfl (o_len tk td31 rfl) fun v13 H12 => ?_
  refine l_ H12 eB rfl (o_ar tk rfl rfl rfl) fun v15 H14 => ?_
  refine wpo_nil ?_
  refine awp_if H14 rfl (fun H16 => ?_) (fun H16 => ?_)
  ·refine awp_skip (awp_seq (awp_block (awp_region rfl (mm tk (eI c1) rfl rfl (mc tk (.fptr (c_R11_Ram x0) 1) rfl rfl (fun _ => rfl) (m_ ((eL 5 e_aEn) x0.L) rfl (o_ld tk rfl rfl) (mm tk (eI c2) rfl rfl ?_)))))))
   refine b_ H16 (fun y => .fptr (e_aEn y).cells 0) rfl (fun v18 hv => o_ixa tk hv td31 enc39 rfl rfl) fun v18 hv18 H17 => ?_
   refine m_ (e_aEn v18) rfl (o_ld_e tk enc39 rfl rfl) ?_
   refine b_ H17 eI rfl (fun v20 hv => OpP.of_call rfl rfl (.cons wr .nil) (R11_Takes_ok hv)) fun v20 hv20 H19 => ?_
   refine l_ H19 eI rfl (o_ar tk rfl rfl rfl) fun v22 H21 => ?_
   refine ma tk (eI v22) rfl rfl (wpo_nil (awp_region rfl (mm tk (eI c2) rfl rfl ?_)))
   refine l_ H21 eI rfl (o_ar tk rfl rfl rfl) fun v24 H23 => ?_
   refine ma tk (eI v24) rfl rfl (wpo_nil ?_)
   exact ⟨(v22, v24), inj_inl H23, (wc (wc (wc (wkf_nil _)))), hH⟩
  ·refine awp_exit ?_
   have hz := hy9 _ (inj_inr H16)
   subst hz
   exact ⟨⟨_, inj_inr H16⟩, (wc (wkf_nil _)), hH⟩
theorem R11_ahead_ok {x0 : R11_Ram} {x1 : aEn} {r : R11_Ram} (H : R11_ahead x0 x1 = some r) (σ : St)  : ACall Tryd.prog 70 [(e_R11_Ram x0), (e_aEn x1)] σ (fun a τ => a = e_R11_Ram r ∧ τ = σ) := by
 unfold R11_ahead at H
 refine ACall.pure (acall_start tk Tryd.func70 (by decide) rfl (nb rfl) ?_)
 have hH := Holds.init σ
 refine sr rfl (m_ (.fptr (c_R11_Ram x0) 0) rfl (o_boxf tk rfl wr (b := (e_R11_Ram x0)) (enc33.flat _)) (m_ (.fptr (c_aEn x1) 0) rfl (o_boxf tk rfl wr (b := (e_aEn x1)) (enc39.flat _)) ?_))
 refine wpo_a (av := fun id => .ref id 0) rfl rfl rfl (h_alloc tk hH ty33 [(eI z_R11_Ram.Limit), AV.nils] rfl) fun id1 τ ⟨hH, n2⟩ => ?_
 refine wpo_nil (sr rfl (mc tk (.fptr (c_R11_Ram x0) 0) rfl rfl (fun _ => rfl) (m_ (eI x0.Limit) rfl (o_ld tk rfl rfl) (m_ (e_aEn x1) rfl (o_ld tk rfl rfl) ?_))))
 refine l_ H (eF 5 e_aEn) rfl (o_c tk false rfl (fun _ => rfl)) fun v4 H3 => ?_
 refine mc tk (.agg [(eI (⟨x0.Limit, v4⟩ : R11_Ram).Limit), (eF 5 e_aEn (⟨x0.Limit, v4⟩ : R11_Ram).L)]) rfl rfl (fun _ => rfl) ?_
 refine wpo_a (av := fun id => .ref id 0) rfl rfl rfl (h_alloc tk hH ty33 [(eI z_R11_Ram.Limit), AV.nils] rfl) fun id5 τ ⟨hH, n6⟩ => ?_
 refine wpo_z rfl rfl (h_st (y := (.agg [(eI (⟨x0.Limit, v4⟩ : R11_Ram).Limit), (eF 5 e_aEn (⟨x0.Limit, v4⟩ : R11_Ram).L)])) tk hH 0 rfl ty33 (by simp) rfl rfl wr (b := (.agg [(eI (⟨x0.Limit, v4⟩ : R11_Ram).Limit), (eF 5 e_aEn (⟨x0.Limit, v4⟩ : R11_Ram).L)])) rfl rfl (nb rfl) [(eI ((⟨x0.Limit, v4⟩ : R11_Ram) : R11_Ram).Limit), (eF 5 e_aEn ((⟨x0.Limit, v4⟩ : R11_Ram) : R11_Ram).L)] rfl) fun τ hH => ?_
 refine wpo_nil (sr rfl (mc tk (.ref id5 1) rfl rfl (fun _ => rfl) (wpo_rd (a := (eF 5 e_aEn ((⟨x0.Limit, v4⟩ : R11_Ram) : R11_Ram).L)) rfl rfl rfl (h_ld tk hH 0 rfl rfl rfl) (mc tk (.fptr (c_R11_Ram x0) 1) rfl rfl (fun _ => rfl) (m_ ((eL 5 e_aEn) x0.L) rfl (o_ld tk rfl rfl) ?_)))))
 obtain ⟨v9, hv10, H8⟩ := ob H3
 refine wpo_a (av := fun t => eT t 5 e_aEn v9) rfl rfl rfl (h_app0 tk hH hv10 td31 ty39 rfl (by decide) (.inr rfl) (src_l td31 rfl)) fun tk11 τ hH => ?_
 refine mc tk (.ref id5 1) rfl rfl (fun _ => rfl) ?_
 refine wpo_z rfl rfl (h_st (y := (eT tk11 5 e_aEn v9)) tk hH 0 rfl ty31 (by simp) rfl rfl wr (b := (eT tk11 5 e_aEn v9)) rfl rfl (nb rfl) [(eI ({ ((⟨x0.Limit, v4⟩ : R11_Ram) : R11_Ram) with L := v9 } : R11_Ram).Limit), (eT tk11 5 e_aEn ({ ((⟨x0.Limit, v4⟩ : R11_Ram) : R11_Ram) with L := v9 } : R11_Ram).L)] rfl) fun τ hH => ?_
 refine wpo_nil (sr rfl (wpo_rd (a := (.agg [(eI ({ ((⟨x0.Limit, v4⟩ : R11_Ram) : R11_Ram) with L := v9 } : R11_Ram).Limit), (eT tk11 5 e_aEn ({ ((⟨x0.Limit, v4⟩ : R11_Ram) : R11_Ram) with L := v9 } : R11_Ram).L)])) rfl rfl rfl (h_ld tk hH 0 rfl rfl rfl) ?_))
 refine wpo_z rfl rfl (h_st (y := (.agg [(eI ({ ((⟨x0.Limit, v4⟩ : R11_Ram) : R11_Ram) with L := v9 } : R11_Ram).Limit), (eT tk11 5 e_aEn ({ ((⟨x0.Limit, v4⟩ : R11_Ram) : R11_Ram) with L := v9 } : R11_Ram).L)])) tk hH 1 rfl ty33 (by simp) rfl rfl wr (b := (.agg [(eI ({ ((⟨x0.Limit, v4⟩ : R11_Ram) : R11_Ram) with L := v9 } : R11_Ram).Limit), (eT tk11 5 e_aEn ({ ((⟨x0.Limit, v4⟩ : R11_Ram) : R11_Ram) with L := v9 } : R11_Ram).L)])) rfl rfl (nb rfl) [(eI (({ ((⟨x0.Limit, v4⟩ : R11_Ram) : R11_Ram) with L := v9 } : R11_Ram) : R11_Ram).Limit), (eT tk11 5 e_aEn (({ ((⟨x0.Limit, v4⟩ : R11_Ram) : R11_Ram) with L := v9 } : R11_Ram) : R11_Ram).L)] rfl) fun τ hH => ?_
 refine wpo_nil (awp_ret ?_)
 obtain rfl := oi H8
 exact ⟨_, (e_R11_Ram (({ ((⟨x0.Limit, v4⟩ : R11_Ram) : R11_Ram) with L := v9 } : R11_Ram) : R11_Ram)), (ares_1 (ares_cell hH 1 rfl rfl rfl)), (wk_agg (.cons wr (.cons wk_no .nil))), .of_eq (enc33.cut _ _ _), ((hH.noT.drop n6).drop n2)⟩
theorem R11_Set_ok {x0 : R11_Ram} {x1 : aEn} {x2 : Int} {r : R11_Ram × (List aEn) × Int} (H : R11_Set x0 x1 x2 = some r) (σ : St)  : ACall Tryd.prog 45 [(e_R11_Ram x0), (e_aEn x1), (eI x2)] σ (fun a τ => a = .tup [e_R11_Ram r.1, (eL 5 e_aEn) r.2.1, eI r.2.2] ∧ τ = σ) := by
 unfold R11_Set at H
 refine ACall.pure (acall_start tk Tryd.func45 (by decide) rfl (nb rfl) ?_)
 have hH := Holds.init σ
 refine sr rfl (m_ (.fptr (c_R11_Ram x0) 0) rfl (o_boxf tk rfl wr (b := (e_R11_Ram x0)) (enc33.flat _)) (m_ (.fptr (c_aEn x1) 0) rfl (o_boxf tk rfl wr (b := (e_aEn x1)) (enc39.flat _)) ?_))
 refine wpo_a (av := fun id => .ref id 0) rfl rfl rfl (h_alloc tk hH ty33 [(eI z_R11_Ram.Limit), AV.nils] rfl) fun id1 τ ⟨hH, n2⟩ => ?_
 refine ma tk AV.nils rfl rfl (ma tk (eI (0 : Int)) rfl rfl (wpo_nil (awp_seq (sr rfl (m_ (e_aEn x1) rfl (o_ld tk rfl rfl) ?_)))))
 refine b_ H eI rfl (fun v4 hv => OpP.of_call rfl rfl (.cons wr .nil) (R06_Check_ok hv)) fun v4 hv4 H3 => ?_
 refine ma tk (eI v4) rfl rfl (wpo_nil (sr rfl (mm tk (eI v4) rfl rfl ?_)))
 refine l_ H3 eB rfl (o_ar tk rfl rfl rfl) fun v6 H5 => ?_
 refine wpo_nil ?_
 refine awp_if H5 rfl (fun H7 => ?_) (fun H7 => ?_)
 ·refine sr rfl (m_ (e_R11_Ram x0) rfl (o_ld tk rfl rfl) (mm tk (eI v4) rfl rfl ?_))
  refine wpo_z rfl rfl (h_st tk hH 0 rfl ty33 (by simp) rfl rfl wr (b := (e_R11_Ram x0)) (enc33.flat _) rfl (nb rfl) (c_R11_Ram (x0 : R11_Ram)) rfl) fun τ hH => ?_
  refine ma tk AV.nils rfl rfl (ma tk (eI v4) rfl rfl (wpo_nil (awp_ret ?_)))
  obtain rfl := oi H7
  exact ⟨_, (.tup [(e_R11_Ram (x0 : R11_Ram)), ((eL 5 e_aEn) []), (eI v4)]), (ares_3 (ares_cell hH 0 rfl rfl rfl) rfl rfl), (wk_tup (.cons wr (.cons (wk_nils _) (.cons wr .nil)))), .of_eq (by simp only [cutAV, cutL, enc33.cut _ _ _, (enc_l td31 sz31 enc39.cut).cut _ _ _, (enc_i64 td34 sz34).cut _ _ _]), (hH.noT.drop n2)⟩
 ·refine awp_skip (awp_seq (sr rfl (m_ (e_aEn x1) rfl (o_ld tk rfl rfl) (mm tk (eI x2) rfl rfl ?_))))
  refine b_ H7 eB rfl (fun v10 hv => OpP.of_call rfl rfl (.cons wr (.cons wr .nil)) (R06_Live_ok hv)) fun v10 hv10 H9 => ?_
  refine l_ H9 eB rfl (o_un tk rfl rfl) fun v12 H11 => ?_
  refine wpo_nil ?_
  refine awp_if H11 rfl (fun H13 => ?_) (fun H13 => ?_)
  ·refine sr rfl (m_ (e_R11_Ram x0) rfl (o_ld tk rfl rfl) ?_)
   refine wpo_z rfl rfl (h_st tk hH 0 rfl ty33 (by simp) rfl rfl wr (b := (e_R11_Ram x0)) (enc33.flat _) rfl (nb rfl) (c_R11_Ram (x0 : R11_Ram)) rfl) fun τ hH => ?_
   refine ma tk AV.nils rfl rfl (ma tk (eI (10 : Int)) rfl rfl (wpo_nil (awp_ret ?_)))
   obtain rfl := oi H13
   exact ⟨_, (.tup [(e_R11_Ram (x0 : R11_Ram)), ((eL 5 e_aEn) []), (eI (10 : Int))]), (ares_3 (ares_cell hH 0 rfl rfl rfl) rfl rfl), (wk_tup (.cons wr (.cons (wk_nils _) (.cons wr .nil)))), .of_eq (by simp only [cutAV, cutL, enc33.cut _ _ _, (enc_l td31 sz31 enc39.cut).cut _ _ _, (enc_i64 td34 sz34).cut _ _ _]), (hH.noT.drop n2)⟩
  ·refine awp_skip (awp_seq (sr rfl (m_ (e_R11_Ram x0) rfl (o_ld tk rfl rfl) (m_ (e_aEn x1) rfl (o_ld tk rfl rfl) ?_))))
   refine b_ H13 eB rfl (fun v16 hv => OpP.of_call rfl rfl (.cons wr (.cons wr .nil)) (R11_Fits_ok hv)) fun v16 hv16 H15 => ?_
   refine l_ H15 eB rfl (o_un tk rfl rfl) fun v18 H17 => ?_
   refine wpo_nil ?_
   refine awp_if H17 rfl (fun H19 => ?_) (fun H19 => ?_)
   ·refine sr rfl (m_ (e_R11_Ram x0) rfl (o_ld tk rfl rfl) ?_)
    refine wpo_z rfl rfl (h_st tk hH 0 rfl ty33 (by simp) rfl rfl wr (b := (e_R11_Ram x0)) (enc33.flat _) rfl (nb rfl) (c_R11_Ram (x0 : R11_Ram)) rfl) fun τ hH => ?_
    refine ma tk AV.nils rfl rfl (ma tk (eI (3 : Int)) rfl rfl (wpo_nil (awp_ret ?_)))
    obtain rfl := oi H19
    exact ⟨_, (.tup [(e_R11_Ram (x0 : R11_Ram)), ((eL 5 e_aEn) []), (eI (3 : Int))]), (ares_3 (ares_cell hH 0 rfl rfl rfl) rfl rfl), (wk_tup (.cons wr (.cons (wk_nils _) (.cons wr .nil)))), .of_eq (by simp only [cutAV, cutL, enc33.cut _ _ _, (enc_l td31 sz31 enc39.cut).cut _ _ _, (enc_i64 td34 sz34).cut _ _ _]), (hH.noT.drop n2)⟩
   ·refine awp_skip (sr rfl (m_ (e_R11_Ram x0) rfl (o_ld tk rfl rfl) ?_))
    refine wpo_a (av := fun id => .ref id 0) rfl rfl rfl (h_alloc tk hH ty33 [(eI z_R11_Ram.Limit), AV.nils] rfl) fun id21 τ ⟨hH, n22⟩ => ?_
    refine wpo_z rfl rfl (h_st tk hH 0 rfl ty33 (by simp) rfl rfl wr (b := (e_R11_Ram x0)) (enc33.flat _) rfl (nb rfl) (c_R11_Ram (x0 : R11_Ram)) rfl) fun τ hH => ?_
    refine wpo_nil (awp_seq (sr rfl (mc tk (.fptr (c_R11_Ram x0) 1) rfl rfl (fun _ => rfl) (m_ ((eL 5 e_aEn) x0.L) rfl (o_ld tk rfl rfl) (mc tk (.fptr (c_aEn x1) 0) rfl rfl (fun _ => rfl) (m_ (eS x1.Key) rfl (o_ld tk rfl rfl) ?_))))))
    refine b_ H19 eI rfl (fun v25 hv => OpP.of_call rfl rfl (.cons wr (.cons wr .nil)) (R06_Find_ok hv)) fun v25 hv25 H24 => ?_
    refine ma tk (eI v25) rfl rfl (wpo_nil (sr rfl (mm tk (eI v25) rfl rfl ?_)))
    refine l_ H24 eB rfl (o_ar tk rfl rfl rfl) fun v27 H26 => ?_
    refine wpo_nil ?_
    obtain ⟨s28, hs30, hj31⟩ := ob H26
    refine awp_cutn (fun fr τ => WkF fr (fm [(2, (eI x2)), (4, (.fptr (c_aEn x1) 0)), (6, (.ref id1 0)), (10, (.ref id21 0))]) ∧ Holds σ [(id21, (c_R11_Ram s28)), (id1, [(eI z_R11_Ram.Limit), AV.nils])] [] τ) ?_ ?_
    ·rintro fr τ ⟨hfr, hH⟩
     have H38 := hj31
     refine AWP.fm [(2, (eI x2)), (4, (.fptr (c_aEn x1) 0)), (6, (.ref id1 0)), (10, (.ref id21 0))] hfr ?_
     refine sr rfl (ma tk AV.nils rfl rfl (wpo_nil (awp_seq (awp_block ?_))))
     refine AWP.tokN hH 12 5 rfl fun tk41 τ hH => ?_
     obtain ⟨s49, hs43, hj44⟩ := ob H38
     refine awp_cutx 0 (fun fr τ => ∃ tk_12, WkF fr (fm [(4, (.fptr (c_aEn x1) 0)), (6, (.ref id1 0)), (10, (.ref id21 0)), (12, (eT tk_12 5 e_aEn s49.1))]) ∧ Holds σ [(id21, (c_R11_Ram s49.2)), (id1, [(eI z_R11_Ram.Limit), AV.nils])] [tk_12] τ) ?_ ?_
     ·rintro fr τ ⟨tk_12, hfr, hH⟩
      have H87 := hj44
      refine AWP.fm [(4, (.fptr (c_aEn x1) 0)), (6, (.ref id1 0)), (10, (.ref id21 0)), (12, (eT tk_12 5 e_aEn s49.1))] hfr ?_
      refine sr rfl (wpo_rd (a := (e_R11_Ram s49.2)) rfl rfl rfl (h_ld tk hH 0 rfl rfl rfl) (m_ (e_aEn x1) rfl (o_ld tk rfl rfl) ?_))
      refine b_ H87 e_R11_Ram rfl (fun v89 hv => OpP.of_call rfl rfl (.cons wr (.cons wr .nil)) (R11_ahead_ok hv)) fun v89 hv89 H88 => ?_
      refine mm tk (eT tk_12 5 e_aEn s49.1) rfl rfl ?_
      refine wpo_z rfl rfl (h_st tk hH 1 rfl ty33 (by simp) rfl rfl wr (b := (e_R11_Ram v89)) (enc33.flat _) rfl (nb rfl) (c_R11_Ram (v89 : R11_Ram)) rfl) fun τ hH => ?_
      refine ma tk (eT tk_12 5 e_aEn s49.1) rfl rfl (ma tk (eI (0 : Int)) rfl rfl (wpo_nil (awp_ret ?_)))
      obtain rfl := oi H88
      exact ⟨_, (.tup [(e_R11_Ram (v89 : R11_Ram)), ((eL 5 e_aEn) s49.1), (eI (0 : Int))]), (ares_3 (ares_cell hH 1 rfl rfl rfl) rfl rfl), (wk_tup (.cons wr (.cons wk_no (.cons wr .nil)))), .of_eq (by simp only [cutAV, cutL, enc33.cut _ _ _, (enc_l td31 sz31 enc39.cut).cut _ _ _, (enc_i64 td34 sz34).cut _ _ _]), ((hH.noT.drop n22).drop n2)⟩
     ·refine awp_loopO (body := fun s => R11_Set_b0 x1 x2 s.1 s.2) hs43 (fun (s : (List aEn) × R11_Ram) fr τ => ∃ tk_12, WkF fr (fm [(2, (eI x2)), (4, (.fptr (c_aEn x1) 0)), (6, (.ref id1 0)), (10, (.ref id21 0)), (12, (eT tk_12 5 e_aEn s.1))]) ∧ Holds σ [(id21, (c_R11_Ram s.2)), (id1, [(eI z_R11_Ram.Limit), AV.nils])] [tk_12] τ) ⟨tk41, (wc (wc (wc (wc (wc (wkf_nil _)))))), hH⟩ ?_
      rintro ⟨c39, c40⟩ fr τ y45 ⟨tk_12, hfr, hH⟩ hb47 hy48
      have H50 : R11_Set_b0 x1 x2 c39 c40 = some y45 := hb47
      unfold R11_Set_b0 at H50
      refine AWP.fm [(2, (eI x2)), (4, (.fptr (c_aEn x1) 0)), (6, (.ref id1 0)), (10, (.ref id21 0)), (12, (eT tk_12 5 e_aEn c39))] hfr ?_
      have hH : Holds σ [(id21, (c_R11_Ram c40)), (id1, [(eI z_R11_Ram.Limit), AV.nils])] [tk_12] τ := hH
      refine awp_seq (awp_seq ?_)
      refine awp_drawS mixed [] rfl (by decide +kernel) rfl rfl ?_
      refine wpdS_mv (a := (e_aEn x1)) rfl rfl rfl (o_ld tk rfl rfl) ?_
      refine wpdS_bd H50 eI rfl rfl rfl (fun v52 hv => OpP.of_call rfl rfl (.cons wr .nil) (R11_Takes_ok hv)) fun v52 hv52 H51 => ?_
      refine wpdS_mv (a := (.ref id21 0)) rfl rfl rfl (o_c tk false rfl (fun _ => rfl)) (wpdS_rd (a := (eI c40.Limit)) rfl (by decide +kernel) rfl rfl (h_ld tk hH 0 rfl rfl rfl) (wpdS_rd (a := (e_R11_Ram c40)) rfl (by decide +kernel) rfl rfl (h_ld tk hH 0 rfl rfl rfl) ?_))
      refine wpdS_bd H51 eI rfl rfl rfl (fun v54 hv => OpP.of_call rfl rfl (.cons wr .nil) (R11_Used_ok hv)) fun v54 hv54 H53 => ?_
      refine wpdS_lt H53 eI rfl rfl rfl (o_ar tk rfl rfl rfl) fun v56 H55 => ?_
      refine wpdS_lt H55 eB rfl rfl rfl (o_ar tk rfl rfl rfl) fun v58 H57 => ?_
      refine wpdS_nil ?_
      refine awp_if H57 rfl (fun H59 => ?_) (fun H59 => ?_)
      ·refine awp_skip (awp_block (sr rfl (mc tk (.ref id21 1) rfl rfl (fun _ => rfl) (wpo_rd (a := ((eL 5 e_aEn) c40.L)) rfl rfl rfl (h_ld tk hH 0 rfl rfl rfl) ?_))))
       refine l_ H59 eI rfl (o_len tk td31 rfl) fun v61 H60 => ?_
       refine l_ H60 eI rfl (o_ar tk rfl rfl rfl) fun v63 H62 => ?_
       refine ma tk (eI v63) rfl rfl (wpo_nil (awp_seq (sr rfl (mc tk (.ref id21 1) rfl rfl (fun _ => rfl) (wpo_rd (a := ((eL 5 e_aEn) c40.L)) rfl rfl rfl (h_ld tk hH 0 rfl rfl rfl) (mm tk (eI v63) rfl rfl ?_))))))
       refine b_ H62 (fun y => .fptr (e_aEn y).cells 0) rfl (fun v65 hv => o_ixa tk hv td31 enc39 rfl rfl) fun v65 hv65 H64 => ?_
       refine m_ (e_aEn v65) rfl (o_ld_e tk enc39 rfl rfl) (mm tk (eI x2) rfl rfl ?_)
       refine b_ H64 eB rfl (fun v67 hv => OpP.of_call rfl rfl (.cons wr (.cons wr .nil)) (R06_Live_ok hv)) fun v67 hv67 H66 => ?_
       refine wpo_nil ?_
       refine awp_if H66 rfl (fun H68 => ?_) (fun H68 => ?_)
       ·refine awp_region rfl (mm tk (eT tk_12 5 e_aEn c39) rfl rfl (mc tk (.ref id21 1) rfl rfl (fun _ => rfl) (wpo_rd (a := ((eL 5 e_aEn) c40.L)) rfl rfl rfl (h_ld tk hH 0 rfl rfl rfl) (mm tk (eI v63) rfl rfl ?_))))
        refine b_ H68 (fun y => .fptr (e_aEn y).cells 0) rfl (fun v70 hv => o_ixa tk hv td31 enc39 rfl rfl) fun v70 hv70 H69 => ?_
        refine m_ (e_aEn v70) rfl (o_ld_e tk enc39 rfl rfl) ?_
        refine l_ H69 (eF 5 e_aEn) rfl (o_c tk false rfl (fun _ => rfl)) fun v72 H71 => ?_
        obtain ⟨v74, hv75, H73⟩ := ob H71
        refine wpo_a (av := fun t => eT t 5 e_aEn v74) rfl rfl rfl (h_app tk hH 0 hv75 rfl td31 ty39 rfl (by decide) rfl (src_l td31 rfl)) fun tk76 τ hH => ?_
        refine ma tk (eT tk76 5 e_aEn v74) rfl rfl (wpo_nil (awp_region rfl (wpo_rd (a := (e_R11_Ram c40)) rfl rfl rfl (h_ld tk hH 0 rfl rfl rfl) (mm tk (eI v63) rfl rfl ?_))))
        refine b_ H73 e_R11_Ram rfl (fun v78 hv => OpP.of_call rfl rfl (.cons wr (.cons wr .nil)) (R11_But_ok hv)) fun v78 hv78 H77 => ?_
        obtain ⟨c80, hc81, H79⟩ := lt_ex H77
        refine wpo_z rfl rfl (h_st tk hH 0 rfl ty33 (by simp) rfl rfl wr (b := (e_R11_Ram v78)) (enc33.flat _) rfl (nb rfl) (c_R11_Ram c80) (by rw [← hc81]; rfl)) fun τ hH => ?_
        refine wpo_nil ?_
        exact ⟨(v74, c80), inj_inl H79, tk76, (wc (wc (wc (wc (wc (wkf_nil _)))))), hH⟩
       ·refine awp_skip (awp_region rfl (wpo_rd (a := (e_R11_Ram c40)) rfl rfl rfl (h_ld tk hH 0 rfl rfl rfl) (mm tk (eI v63) rfl rfl ?_)))
        refine b_ H68 e_R11_Ram rfl (fun v83 hv => OpP.of_call rfl rfl (.cons wr (.cons wr .nil)) (R11_But_ok hv)) fun v83 hv83 H82 => ?_
        obtain ⟨c85, hc86, H84⟩ := lt_ex H82
        refine wpo_z rfl rfl (h_st tk hH 0 rfl ty33 (by simp) rfl rfl wr (b := (e_R11_Ram v83)) (enc33.flat _) rfl (nb rfl) (c_R11_Ram c85) (by rw [← hc86]; rfl)) fun τ hH => ?_
        refine wpo_nil ?_
        exact ⟨(c39, c85), inj_inl H84, tk_12, (wc (wc (wc (wc (wc (wkf_nil _)))))), hH⟩
      ·refine awp_exit ?_
       have hz := hy48 _ (inj_inr H59)
       subst hz
       exact ⟨⟨_, inj_inr H59⟩, tk_12, (wc (wc (wc (wc (wkf_nil _))))), hH⟩
    ·refine awp_if hs30 rfl (fun H32 => ?_) (fun H32 => ?_)
     ·refine awp_region rfl (m_ (e_R11_Ram x0) rfl (o_ld tk rfl rfl) (mm tk (eI v25) rfl rfl ?_))
      refine b_ H32 e_R11_Ram rfl (fun v34 hv => OpP.of_call rfl rfl (.cons wr (.cons wr .nil)) (R11_But_ok hv)) fun v34 hv34 H33 => ?_
      obtain ⟨c36, hc37, H35⟩ := lt_ex H33
      refine wpo_z rfl rfl (h_st tk hH 0 rfl ty33 (by simp) rfl rfl wr (b := (e_R11_Ram v34)) (enc33.flat _) rfl (nb rfl) (c_R11_Ram c36) (by rw [← hc37]; rfl)) fun τ hH => ?_
      refine wpo_nil ?_
      have e := oi H35
      subst e
      exact ⟨(wc (wc (wc (wc (wkf_nil _))))), hH⟩
     ·refine awp_skip ?_
      have e := oi H32
      subst e
      exact ⟨(wc (wc (wc (wc (wkf_nil _))))), hH⟩
theorem R11_Get_ok {x0 : R11_Ram} {x1 : List (BitVec 8)} {x2 : Int} {r : R11_Ram × aEn × Bool} (H : R11_Get x0 x1 x2 = some r) (σ : St)  : ACall Tryd.prog 46 [(e_R11_Ram x0), (eS x1), (eI x2)] σ (fun a τ => a = .tup [e_R11_Ram r.1, e_aEn r.2.1, eB r.2.2] ∧ τ = σ) := by
 unfold R11_Get at H
 refine ACall.pure (acall_start tk Tryd.func46 (by decide) rfl (nb rfl) ?_)
 have hH := Holds.init σ
 refine sr rfl (m_ (.fptr (c_R11_Ram x0) 0) rfl (o_boxf tk rfl wr (b := (e_R11_Ram x0)) (enc33.flat _)) ?_)
 refine wpo_a (av := fun id => .ref id 0) rfl rfl rfl (h_alloc tk hH ty33 [(eI z_R11_Ram.Limit), AV.nils] rfl) fun id1 τ ⟨hH, n2⟩ => ?_
 refine wpo_a (av := fun id => .ref id 0) rfl rfl rfl (h_alloc tk hH ty39 [(eS z_aEn.Key), (eI z_aEn.Version), (eI z_aEn.AsOf), (eI z_aEn.Ends), AV.nils] rfl) fun id3 τ ⟨hH, n4⟩ => ?_
 refine ma tk (eB false) rfl rfl (wpo_nil (sr rfl (mc tk (.fptr (c_R11_Ram x0) 1) rfl rfl (fun _ => rfl) (m_ ((eL 5 e_aEn) x0.L) rfl (o_ld tk rfl rfl) (mm tk (eS x1) rfl rfl ?_)))))
 refine b_ H eI rfl (fun v6 hv => OpP.of_call rfl rfl (.cons wr (.cons wr .nil)) (R06_Find_ok hv)) fun v6 hv6 H5 => ?_
 refine ma tk (eI v6) rfl rfl (wpo_nil (awp_seq (sr rfl (mm tk (eI v6) rfl rfl ?_))))
 refine l_ H5 eB rfl (o_ar tk rfl rfl rfl) fun v8 H7 => ?_
 refine wpo_nil ?_
 refine awp_if H7 rfl (fun H9 => ?_) (fun H9 => ?_)
 ·refine sr rfl (m_ (e_R11_Ram x0) rfl (o_ld tk rfl rfl) (mc tk (.agg [(eS (⟨[], 0, 0, 0, []⟩ : aEn).Key), (eI (⟨[], 0, 0, 0, []⟩ : aEn).Version), (eI (⟨[], 0, 0, 0, []⟩ : aEn).AsOf), (eI (⟨[], 0, 0, 0, []⟩ : aEn).Ends), AV.nils]) rfl rfl (fun _ => rfl) ?_))
  refine wpo_z rfl rfl (h_st tk hH 1 rfl ty33 (by simp) rfl rfl wr (b := (e_R11_Ram x0)) (enc33.flat _) rfl (nb rfl) (c_R11_Ram (x0 : R11_Ram)) rfl) fun τ hH => ?_
  refine wpo_z rfl rfl (h_st (y := (.agg [(eS (⟨[], 0, 0, 0, []⟩ : aEn).Key), (eI (⟨[], 0, 0, 0, []⟩ : aEn).Version), (eI (⟨[], 0, 0, 0, []⟩ : aEn).AsOf), (eI (⟨[], 0, 0, 0, []⟩ : aEn).Ends), AV.nils])) tk hH 0 rfl ty39 (by simp) rfl rfl wr (b := (.agg [(eS (⟨[], 0, 0, 0, []⟩ : aEn).Key), (eI (⟨[], 0, 0, 0, []⟩ : aEn).Version), (eI (⟨[], 0, 0, 0, []⟩ : aEn).AsOf), (eI (⟨[], 0, 0, 0, []⟩ : aEn).Ends), AV.nils])) rfl rfl (nb rfl) [(eS ((⟨[], 0, 0, 0, []⟩ : aEn) : aEn).Key), (eI ((⟨[], 0, 0, 0, []⟩ : aEn) : aEn).Version), (eI ((⟨[], 0, 0, 0, []⟩ : aEn) : aEn).AsOf), (eI ((⟨[], 0, 0, 0, []⟩ : aEn) : aEn).Ends), AV.nils] rfl) fun τ hH => ?_
  refine ma tk (eB false) rfl rfl (wpo_nil (awp_ret ?_))
  obtain rfl := oi H9
  exact ⟨_, (.tup [(e_R11_Ram (x0 : R11_Ram)), (e_aEn ((⟨[], 0, 0, 0, []⟩ : aEn) : aEn)), (eB false)]), (ares_3 (ares_cell hH 1 rfl rfl rfl) (ares_cell hH 0 rfl rfl rfl) rfl), (wk_tup (.cons wr (.cons (wk_agg (.cons wr (.cons wr (.cons wr (.cons wr (.cons (wk_nils _) .nil)))))) (.cons wr .nil)))), .of_eq (by simp only [cutAV, cutL, enc33.cut _ _ _, enc39.cut _ _ _, (enc_b td4 sz4).cut _ _ _]), ((hH.noT.drop n4).drop n2)⟩
 ·refine awp_skip (sr rfl (mc tk (.fptr (c_R11_Ram x0) 1) rfl rfl (fun _ => rfl) (m_ ((eL 5 e_aEn) x0.L) rfl (o_ld tk rfl rfl) (mm tk (eI v6) rfl rfl ?_))))
  refine b_ H9 (fun y => .fptr (e_aEn y).cells 0) rfl (fun v13 hv => o_ixa tk hv td31 enc39 rfl rfl) fun v13 hv13 H12 => ?_
  refine m_ (e_aEn v13) rfl (o_ld_e tk enc39 rfl rfl) ?_
  refine wpo_a (av := fun id => .ref id 0) rfl rfl rfl (h_alloc tk hH ty39 [(eS z_aEn.Key), (eI z_aEn.Version), (eI z_aEn.AsOf), (eI z_aEn.Ends), AV.nils] rfl) fun id14 τ ⟨hH, n15⟩ => ?_
  refine wpo_z rfl rfl (h_st tk hH 0 rfl ty39 (by simp) rfl rfl wr (b := (e_aEn v13)) (enc39.flat _) rfl (nb rfl) (c_aEn (v13 : aEn)) rfl) fun τ hH => ?_
  refine wpo_nil (awp_seq (sr rfl (wpo_rd (a := (e_aEn (v13 : aEn))) rfl rfl rfl (h_ld tk hH 0 rfl rfl rfl) (mm tk (eI x2) rfl rfl ?_))))
  refine b_ H12 eB rfl (fun v18 hv => OpP.of_call rfl rfl (.cons wr (.cons wr .nil)) (R06_Live_ok hv)) fun v18 hv18 H17 => ?_
  refine l_ H17 eB rfl (o_un tk rfl rfl) fun v20 H19 => ?_
  refine wpo_nil ?_
  refine awp_if H19 rfl (fun H21 => ?_) (fun H21 => ?_)
  ·refine sr rfl (m_ (e_R11_Ram x0) rfl (o_ld tk rfl rfl) (mm tk (eI v6) rfl rfl ?_))
   refine b_ H21 e_R11_Ram rfl (fun v23 hv => OpP.of_call rfl rfl (.cons wr (.cons wr .nil)) (R11_But_ok hv)) fun v23 hv23 H22 => ?_
   refine mc tk (.agg [(eS (⟨[], 0, 0, 0, []⟩ : aEn).Key), (eI (⟨[], 0, 0, 0, []⟩ : aEn).Version), (eI (⟨[], 0, 0, 0, []⟩ : aEn).AsOf), (eI (⟨[], 0, 0, 0, []⟩ : aEn).Ends), AV.nils]) rfl rfl (fun _ => rfl) ?_
   refine wpo_z rfl rfl (h_st tk hH 2 rfl ty33 (by simp) rfl rfl wr (b := (e_R11_Ram v23)) (enc33.flat _) rfl (nb rfl) (c_R11_Ram (v23 : R11_Ram)) rfl) fun τ hH => ?_
   refine wpo_z rfl rfl (h_st (y := (.agg [(eS (⟨[], 0, 0, 0, []⟩ : aEn).Key), (eI (⟨[], 0, 0, 0, []⟩ : aEn).Version), (eI (⟨[], 0, 0, 0, []⟩ : aEn).AsOf), (eI (⟨[], 0, 0, 0, []⟩ : aEn).Ends), AV.nils])) tk hH 1 rfl ty39 (by simp) rfl rfl wr (b := (.agg [(eS (⟨[], 0, 0, 0, []⟩ : aEn).Key), (eI (⟨[], 0, 0, 0, []⟩ : aEn).Version), (eI (⟨[], 0, 0, 0, []⟩ : aEn).AsOf), (eI (⟨[], 0, 0, 0, []⟩ : aEn).Ends), AV.nils])) rfl rfl (nb rfl) [(eS ((⟨[], 0, 0, 0, []⟩ : aEn) : aEn).Key), (eI ((⟨[], 0, 0, 0, []⟩ : aEn) : aEn).Version), (eI ((⟨[], 0, 0, 0, []⟩ : aEn) : aEn).AsOf), (eI ((⟨[], 0, 0, 0, []⟩ : aEn) : aEn).Ends), AV.nils] rfl) fun τ hH => ?_
   refine ma tk (eB false) rfl rfl (wpo_nil (awp_ret ?_))
   obtain rfl := oi H22
   exact ⟨_, (.tup [(e_R11_Ram (v23 : R11_Ram)), (e_aEn ((⟨[], 0, 0, 0, []⟩ : aEn) : aEn)), (eB false)]), (ares_3 (ares_cell hH 2 rfl rfl rfl) (ares_cell hH 1 rfl rfl rfl) rfl), (wk_tup (.cons wr (.cons (wk_agg (.cons wr (.cons wr (.cons wr (.cons wr (.cons (wk_nils _) .nil)))))) (.cons wr .nil)))), .of_eq (by simp only [cutAV, cutL, enc33.cut _ _ _, enc39.cut _ _ _, (enc_b td4 sz4).cut _ _ _]), (((hH.noT.drop n15).drop n4).drop n2)⟩
  ·refine awp_skip (awp_seq ?_)
   refine awp_drawR mixed [6, 7] rfl (by decide +kernel) rfl rfl (fun σ => σ.objs[id14]? = some (c_aEn (v13 : aEn))) 1 (hH.at_ 0 rfl) ?_
   refine wpdR_mv (a := (e_R11_Ram x0)) rfl rfl rfl (o_ld tk rfl rfl) ?_
   refine wpdR_mv (a := (eI v6)) rfl rfl rfl (o_mv tk rfl (Wk.refl _)) ?_
   refine wpdR_bd H21 e_R11_Ram rfl rfl rfl (fun v27 hv => OpP.of_call rfl rfl (.cons wr (.cons wr .nil)) (R11_But_ok hv)) fun v27 hv27 H26 => ?_
   refine wpdR_rd (a := (e_aEn (v13 : aEn))) rfl (by decide +kernel) rfl rfl (h_ld tk hH 0 rfl rfl rfl) ?_
   refine wpdR_bd H26 e_R11_Ram rfl rfl rfl (fun v29 hv => OpP.of_call rfl rfl (.cons wr (.cons wr .nil)) (R11_ahead_ok hv)) fun v29 hv29 H28 => ?_
   refine wpdR_rdp (a := (e_aEn (v13 : aEn))) rfl (by decide +kernel) rfl rfl (fun σ hF => (h_ld tk (Holds.one hF) 0 rfl rfl rfl)) ?_
   refine wpdR_z rfl rfl rfl (h_st tk hH 2 rfl ty33 (by simp) rfl rfl wr (b := (e_R11_Ram v29)) (enc33.flat _) rfl (nb rfl) (c_R11_Ram (v29 : R11_Ram)) rfl) fun τ hH => ⟨fun _ => (hH.at_ 0 rfl), ?_⟩
   refine wpdR_z rfl rfl rfl (h_st tk hH 1 rfl ty39 (by simp) rfl rfl wr (b := (e_aEn (v13 : aEn))) (enc39.flat _) rfl (nb rfl) (c_aEn ((v13 : aEn) : aEn)) rfl) fun τ hH => ⟨fun h => absurd h (by decide +kernel), ?_⟩
   refine wpdR_mv (a := (eB true)) rfl rfl rfl (o_as tk rfl (Wk.refl _)) ?_
   refine wpdR_nil ?_
   refine awp_ret ?_
   obtain rfl := oi H28
   exact ⟨_, (.tup [(e_R11_Ram (v29 : R11_Ram)), (e_aEn ((v13 : aEn) : aEn)), (eB true)]), (ares_3 (ares_cell hH 2 rfl rfl rfl) (ares_cell hH 1 rfl rfl rfl) rfl), (wk_tup (.cons wr (.cons wr (.cons wr .nil)))), .of_eq (by simp only [cutAV, cutL, enc33.cut _ _ _, enc39.cut _ _ _, (enc_b td4 sz4).cut _ _ _]), (((hH.noT.drop n15).drop n4).drop n2)⟩
theorem ram_Ram_Drop_ok {x0 : ram_Ram} {x1 : List (BitVec 8)} {r : aEn × Bool × ram_Ram} (H : ram_Ram_Drop x0 x1 = some r) (σ : St) {p0 p0B p0I p0N p0F p0L p0C p0H p0X p0G : Nat} (h0 : σ.objs[p0]? = some [(.ref p0B 0), (.ref p0I 0), (.vec p0H 1 (x0.heads).length), (.vec p0X 1 (x0.next_).length), (.vec p0G 5 (x0.things).length), (eI x0.count)]) (h0_budget : σ.objs[p0B]? = some (c_slab_Budget x0.budget)) (h0_lists : σ.objs[p0I]? = some [(.vec p0N 4 (x0.lists.nodes).length), (.vec p0F 1 (x0.lists.first_).length), (.vec p0L 1 (x0.lists.last_).length), (.vec p0C 1 (x0.lists.count).length), (eI x0.lists.free), (eI x0.lists.clock)]) (h0_lists_nodes : σ.objs[p0N]? = some (cL e_lists_link x0.lists.nodes)) (h0_lists_first_ : σ.objs[p0F]? = some (cL eI x0.lists.first_)) (h0_lists_last_ : σ.objs[p0L]? = some (cL eI x0.lists.last_)) (h0_lists_count : σ.objs[p0C]? = some (cL eI x0.lists.count)) (h0_heads : σ.objs[p0H]? = some (cL eI x0.heads)) (h0_next_ : σ.objs[p0X]? = some (cL eI x0.next_)) (h0_things : σ.objs[p0G]? = some (cL e_aEn x0.things)) (hd : [p0, p0B, p0I, p0N, p0F, p0L, p0C, p0H, p0X, p0G].Pairwise fun a b => a ≠ b) : ACall Tryd.prog 47 [(.ref p0 0), (eS x1)] σ (fun a τ => a = .tup [e_aEn r.1, eB r.2.1] ∧ τ = σ.puts [(p0, [(.ref p0B 0), (.ref p0I 0), (.vec p0H 1 (r.2.2.heads).length), (.vec p0X 1 (r.2.2.next_).length), (.vec p0G 5 (r.2.2.things).length), (eI r.2.2.count)]), (p0B, (c_slab_Budget r.2.2.budget)), (p0I, [(.vec p0N 4 (r.2.2.lists.nodes).length), (.vec p0F 1 (r.2.2.lists.first_).length), (.vec p0L 1 (r.2.2.lists.last_).length), (.vec p0C 1 (r.2.2.lists.count).length), (eI r.2.2.lists.free), (eI r.2.2.lists.clock)]), (p0N, (cL e_lists_link r.2.2.lists.nodes)), (p0F, (cL eI r.2.2.lists.first_)), (p0L, (cL eI r.2.2.lists.last_)), (p0C, (cL eI r.2.2.lists.count)), (p0H, (cL eI r.2.2.heads)), (p0X, (cL eI r.2.2.next_)), (p0G, (cL e_aEn r.2.2.things))]) := by
 unfold ram_Ram_Drop at H
 refine ACall.outB [(p0, [(.ref p0B 0), (.ref p0I 0), (.vec p0H 1 (r.2.2.heads).length), (.vec p0X 1 (r.2.2.next_).length), (.vec p0G 5 (r.2.2.things).length), (eI r.2.2.count)]), (p0B, (c_slab_Budget r.2.2.budget)), (p0I, [(.vec p0N 4 (r.2.2.lists.nodes).length), (.vec p0F 1 (r.2.2.lists.first_).length), (.vec p0L 1 (r.2.2.lists.last_).length), (.vec p0C 1 (r.2.2.lists.count).length), (eI r.2.2.lists.free), (eI r.2.2.lists.clock)]), (p0N, (cL e_lists_link r.2.2.lists.nodes)), (p0F, (cL eI r.2.2.lists.first_)), (p0L, (cL eI r.2.2.lists.last_)), (p0C, (cL eI r.2.2.lists.count)), (p0H, (cL eI r.2.2.heads)), (p0X, (cL eI r.2.2.next_)), (p0G, (cL e_aEn r.2.2.things))] (by simp only [List.mem_cons, List.not_mem_nil, or_false]; rintro _ (rfl | rfl | rfl | rfl | rfl | rfl | rfl | rfl | rfl | rfl) <;> first | exact c_slab_Budget_cut _ _ _ | exact cut_cL enc106.cut _ _ _ | exact cut_cL (enc_i64 td3 sz3).cut _ _ _ | exact cut_cL enc39.cut _ _ _ | (simp only [cutL, cut_ref_id (idl_get h0_budget), cut_ref_id (idl_get h0_lists), cut_vec_id (idl_get h0_heads), cut_vec_id (idl_get h0_next_), cut_vec_id (idl_get h0_things), (enc_i64 td3 sz3).cut _ _]; done) | (simp only [cutL, cut_vec_id (idl_get h0_lists_nodes), cut_vec_id (idl_get h0_lists_first_), cut_vec_id (idl_get h0_lists_last_), cut_vec_id (idl_get h0_lists_count), (enc_i64 td3 sz3).cut _ _]; done)) (acall_start tk Tryd.func47 (by decide) rfl (nb rfl) ?_)
 have hH := Holds.brings (σ := σ) [(p0, [(.ref p0B 0), (.ref p0I 0), (.vec p0H 1 (x0.heads).length), (.vec p0X 1 (x0.next_).length), (.vec p0G 5 (x0.things).length), (eI x0.count)]), (p0B, (c_slab_Budget x0.budget)), (p0I, [(.vec p0N 4 (x0.lists.nodes).length), (.vec p0F 1 (x0.lists.first_).length), (.vec p0L 1 (x0.lists.last_).length), (.vec p0C 1 (x0.lists.count).length), (eI x0.lists.free), (eI x0.lists.clock)]), (p0N, (cL e_lists_link x0.lists.nodes)), (p0F, (cL eI x0.lists.first_)), (p0L, (cL eI x0.lists.last_)), (p0C, (cL eI x0.lists.count)), (p0H, (cL eI x0.heads)), (p0X, (cL eI x0.next_)), (p0G, (cL e_aEn x0.things))] (by simp only [List.mem_cons, List.not_mem_nil, or_false]; rintro _ (rfl | rfl | rfl | rfl | rfl | rfl | rfl | rfl | rfl | rfl) <;> assumption) hd
 refine sr rfl ?_
 refine wpo_a (av := fun id => .ref id 0) rfl rfl rfl (h_alloc tk hH ty39 [(eS z_aEn.Key), (eI z_aEn.Version), (eI z_aEn.AsOf), (eI z_aEn.Ends), AV.nils] rfl) fun id1 τ ⟨hH, n2⟩ => ?_
 refine ma tk (eB false) rfl rfl (wpo_nil (sr rfl (mm tk (.ref p0 0) rfl rfl (mm tk (eS x1) rfl rfl ?_))))
 refine wpo_bdr H eI rfl rfl rfl (fun v4 hv => h_callr rfl rfl (.cons wr (.cons wr .nil)) (ram_Ram_find_ok hv _ (hH.at_ 1 rfl) (hH.at_ 2 rfl) (hH.at_ 3 rfl) (hH.at_ 4 rfl) (hH.at_ 5 rfl) (hH.at_ 6 rfl) (hH.at_ 7 rfl) (hH.at_ 8 rfl) (hH.at_ 9 rfl) (hH.at_ 10 rfl) (hH.pw [1, 2, 3, 4, 5, 6, 7, 8, 9, 10] rfl (by decide)))) fun v4 hv4 H3 => ?_
 refine ma tk (eI v4) rfl rfl (wpo_nil (awp_seq (sr rfl (mm tk (eI v4) rfl rfl ?_))))
 refine l_ H3 eB rfl (o_ar tk rfl rfl rfl) fun v6 H5 => ?_
 refine wpo_nil ?_
 refine awp_if H5 rfl (fun H7 => ?_) (fun H7 => ?_)
 ·refine sr rfl (mc tk (.agg [(eS (⟨[], 0, 0, 0, []⟩ : aEn).Key), (eI (⟨[], 0, 0, 0, []⟩ : aEn).Version), (eI (⟨[], 0, 0, 0, []⟩ : aEn).AsOf), (eI (⟨[], 0, 0, 0, []⟩ : aEn).Ends), AV.nils]) rfl rfl (fun _ => rfl) ?_)
  refine wpo_z rfl rfl (h_st (y := (.agg [(eS (⟨[], 0, 0, 0, []⟩ : aEn).Key), (eI (⟨[], 0, 0, 0, []⟩ : aEn).Version), (eI (⟨[], 0, 0, 0, []⟩ : aEn).AsOf), (eI (⟨[], 0, 0, 0, []⟩ : aEn).Ends), AV.nils])) tk hH 0 rfl ty39 (by simp) rfl rfl wr (b := (.agg [(eS (⟨[], 0, 0, 0, []⟩ : aEn).Key), (eI (⟨[], 0, 0, 0, []⟩ : aEn).Version), (eI (⟨[], 0, 0, 0, []⟩ : aEn).AsOf), (eI (⟨[], 0, 0, 0, []⟩ : aEn).Ends), AV.nils])) rfl rfl (nb rfl) [(eS ((⟨[], 0, 0, 0, []⟩ : aEn) : aEn).Key), (eI ((⟨[], 0, 0, 0, []⟩ : aEn) : aEn).Version), (eI ((⟨[], 0, 0, 0, []⟩ : aEn) : aEn).AsOf), (eI ((⟨[], 0, 0, 0, []⟩ : aEn) : aEn).Ends), AV.nils] rfl) fun τ hH => ?_
  refine ma tk (eB false) rfl rfl (wpo_nil (awp_ret ?_))
  obtain rfl := oi H7
  exact ⟨_, (.tup [(e_aEn ((⟨[], 0, 0, 0, []⟩ : aEn) : aEn)), (eB false)]), (ares_2 (ares_cell hH 0 rfl rfl rfl) rfl), (wk_tup (.cons (wk_agg (.cons wr (.cons wr (.cons wr (.cons wr (.cons (wk_nils _) .nil)))))) (.cons wr .nil))), .of_eq (by simp only [cutAV, cutL, enc39.cut _ _ _, (enc_b td4 sz4).cut _ _ _]), (hH.noT.drop n2)⟩
 ·refine awp_skip (sr rfl (mm tk (.ref p0 0) rfl rfl (mm tk (eI v4) rfl rfl ?_)))
  refine wpo_cb H7 (fun x _ => e_aEn x.1) rfl rfl rfl (fun v10 hv => h_call1 hH [(1, (p0, [(.ref p0B 0), (.ref p0I 0), (.vec p0H 1 (v10.2.heads).length), (.vec p0X 1 (v10.2.next_).length), (.vec p0G 5 (v10.2.things).length), (eI v10.2.count)])), (2, (p0B, (c_slab_Budget v10.2.budget))), (3, (p0I, [(.vec p0N 4 (v10.2.lists.nodes).length), (.vec p0F 1 (v10.2.lists.first_).length), (.vec p0L 1 (v10.2.lists.last_).length), (.vec p0C 1 (v10.2.lists.count).length), (eI v10.2.lists.free), (eI v10.2.lists.clock)])), (4, (p0N, (cL e_lists_link v10.2.lists.nodes))), (5, (p0F, (cL eI v10.2.lists.first_))), (6, (p0L, (cL eI v10.2.lists.last_))), (7, (p0C, (cL eI v10.2.lists.count))), (8, (p0H, (cL eI v10.2.heads))), (9, (p0X, (cL eI v10.2.next_))), (10, (p0G, (cL e_aEn v10.2.things)))] ⟨⟨_, rfl⟩, ⟨⟨_, rfl⟩, ⟨⟨_, rfl⟩, ⟨⟨_, rfl⟩, ⟨⟨_, rfl⟩, ⟨⟨_, rfl⟩, ⟨⟨_, rfl⟩, ⟨⟨_, rfl⟩, ⟨⟨_, rfl⟩, ⟨⟨_, rfl⟩, trivial⟩⟩⟩⟩⟩⟩⟩⟩⟩⟩ rfl rfl (.cons wr (.cons wr .nil)) (ram_Ram_remove_ok hv _ (hH.at_ 1 rfl) (hH.at_ 2 rfl) (hH.at_ 3 rfl) (hH.at_ 4 rfl) (hH.at_ 5 rfl) (hH.at_ 6 rfl) (hH.at_ 7 rfl) (hH.at_ 8 rfl) (hH.at_ 9 rfl) (hH.at_ 10 rfl) (hH.pw [1, 2, 3, 4, 5, 6, 7, 8, 9, 10] rfl (by decide)))) fun v10 _ τ hv10 H9 (hH : Holds σ [(id1, [(eS z_aEn.Key), (eI z_aEn.Version), (eI z_aEn.AsOf), (eI z_aEn.Ends), AV.nils]), (p0, [(.ref p0B 0), (.ref p0I 0), (.vec p0H 1 (v10.2.heads).length), (.vec p0X 1 (v10.2.next_).length), (.vec p0G 5 (v10.2.things).length), (eI v10.2.count)]), (p0B, (c_slab_Budget v10.2.budget)), (p0I, [(.vec p0N 4 (v10.2.lists.nodes).length), (.vec p0F 1 (v10.2.lists.first_).length), (.vec p0L 1 (v10.2.lists.last_).length), (.vec p0C 1 (v10.2.lists.count).length), (eI v10.2.lists.free), (eI v10.2.lists.clock)]), (p0N, (cL e_lists_link v10.2.lists.nodes)), (p0F, (cL eI v10.2.lists.first_)), (p0L, (cL eI v10.2.lists.last_)), (p0C, (cL eI v10.2.lists.count)), (p0H, (cL eI v10.2.heads)), (p0X, (cL eI v10.2.next_)), (p0G, (cL e_aEn v10.2.things))] [] τ) => ?_
  refine wpo_z rfl rfl (h_st tk hH 0 rfl ty39 (by simp) rfl rfl wr (b := (e_aEn v10.1)) (enc39.flat _) rfl (nb rfl) (c_aEn (v10.1 : aEn)) rfl) fun τ hH => ?_
  refine ma tk (eB true) rfl rfl (wpo_nil (awp_ret ?_))
  obtain rfl := oi H9
  exact ⟨_, (.tup [(e_aEn (v10.1 : aEn)), (eB true)]), (ares_2 (ares_cell hH 0 rfl rfl rfl) rfl), (wk_tup (.cons wr (.cons wr .nil))), .of_eq (by simp only [cutAV, cutL, enc39.cut _ _ _, (enc_b td4 sz4).cut _ _ _]), (hH.noT.drop n2)⟩
theorem R11_Sweep_ok {x0 : R11_Ram} {x1 : Int} {r : R11_Ram × Int} (H : R11_Sweep x0 x1 = some r) (σ : St)  : ACall Tryd.prog 49 [(e_R11_Ram x0), (eI x1)] σ (fun a τ => a = .tup [e_R11_Ram r.1, eI r.2] ∧ τ = σ) := by
 unfold R11_Sweep at H
 refine ACall.pure (acall_start tk Tryd.func49 (by decide) rfl (nb rfl) ?_)
 have hH := Holds.init σ
 refine sr rfl (m_ (.fptr (c_R11_Ram x0) 0) rfl (o_boxf tk rfl wr (b := (e_R11_Ram x0)) (enc33.flat _)) ?_)
 refine wpo_a (av := fun id => .ref id 0) rfl rfl rfl (h_alloc tk hH ty33 [(eI z_R11_Ram.Limit), AV.nils] rfl) fun id1 τ ⟨hH, n2⟩ => ?_
 refine ma tk (eI (0 : Int)) rfl rfl (wpo_nil (sr rfl (mc tk (.fptr (c_R11_Ram x0) 0) rfl rfl (fun _ => rfl) (m_ (eI x0.Limit) rfl (o_ld tk rfl rfl) (mc tk (.agg [(eI (⟨x0.Limit, ([] : List aEn)⟩ : R11_Ram).Limit), AV.nils]) rfl rfl (fun _ => rfl) ?_)))))
 refine wpo_a (av := fun id => .ref id 0) rfl rfl rfl (h_alloc tk hH ty33 [(eI z_R11_Ram.Limit), AV.nils] rfl) fun id3 τ ⟨hH, n4⟩ => ?_
 refine wpo_z rfl rfl (h_st (y := (.agg [(eI (⟨x0.Limit, ([] : List aEn)⟩ : R11_Ram).Limit), AV.nils])) tk hH 0 rfl ty33 (by simp) rfl rfl wr (b := (.agg [(eI (⟨x0.Limit, ([] : List aEn)⟩ : R11_Ram).Limit), AV.nils])) rfl rfl (nb rfl) [(eI ((⟨x0.Limit, ([] : List aEn)⟩ : R11_Ram) : R11_Ram).Limit), AV.nils] rfl) fun τ hH => ?_
 refine wpo_nil (awp_seq (sr rfl (ma tk (eI (0 : Int)) rfl rfl (wpo_nil (awp_block ?_)))))
 refine AWP.tokO hH 0 rfl (c1 := fun tk8 => [(eI ((⟨x0.Limit, ([] : List aEn)⟩ : R11_Ram) : R11_Ram).Limit), (eT tk8 5 e_aEn ((⟨x0.Limit, ([] : List aEn)⟩ : R11_Ram) : R11_Ram).L)]) (fun _ => (.same (.tok .nil))) fun tk8 τ (hH : Holds σ [(id3, [(eI ((⟨x0.Limit, ([] : List aEn)⟩ : R11_Ram) : R11_Ram).Limit), (eT tk8 5 e_aEn ((⟨x0.Limit, ([] : List aEn)⟩ : R11_Ram) : R11_Ram).L)]), (id1, [(eI z_R11_Ram.Limit), AV.nils])] [tk8] τ) => ?_
 obtain ⟨s16, hs10, hj11⟩ := ob H
 refine awp_cutx 0 (fun fr τ => ∃ tk_id3_L, WkF fr (fm [(2, (.fptr (c_R11_Ram x0) 0)), (4, (.ref id1 0)), (6, (.ref id3 0))]) ∧ Holds σ [(id3, [(eI s16.Limit), (eT tk_id3_L 5 e_aEn s16.L)]), (id1, [(eI z_R11_Ram.Limit), AV.nils])] [tk_id3_L] τ) ?_ ?_
 ·rintro fr τ ⟨tk_id3_L, hfr, hH⟩
  have H41 := hj11
  refine AWP.fm [(2, (.fptr (c_R11_Ram x0) 0)), (4, (.ref id1 0)), (6, (.ref id3 0))] hfr ?_
  refine awp_seq ?_
  refine awp_drawR mixed [8] rfl (by decide +kernel) rfl rfl (fun σ => σ.objs[id3]? = some [(eI s16.Limit), (eT tk_id3_L 5 e_aEn s16.L)]) 1 (hH.at_ 0 rfl) ?_
  refine wpdR_rd (a := (.agg [(eI s16.Limit), (eT tk_id3_L 5 e_aEn s16.L)])) rfl (by decide +kernel) rfl rfl (h_ld tk hH 0 rfl rfl rfl) ?_
  refine wpdR_mv (a := (.fptr (c_R11_Ram x0) 1)) rfl rfl rfl (o_c tk false rfl (fun _ => rfl)) ?_
  refine wpdR_mv (a := ((eL 5 e_aEn) x0.L)) rfl rfl rfl (o_ld tk rfl rfl) ?_
  refine wpdR_lt H41 eI rfl rfl rfl (o_len tk td31 rfl) fun v43 H42 => ?_
  refine wpdR_mv (a := (.ref id3 1)) rfl rfl rfl (o_c tk false rfl (fun _ => rfl)) ?_
  refine wpdR_rdp (a := (eT tk_id3_L 5 e_aEn s16.L)) rfl (by decide +kernel) rfl rfl (fun σ hF => (h_ld tk (Holds.one hF) 0 rfl rfl rfl)) ?_
  refine wpdR_lt H42 eI rfl rfl rfl (o_len tk td31 rfl) fun v45 H44 => ?_
  refine wpdR_lt H44 eI rfl rfl rfl (o_ar tk rfl rfl rfl) fun v47 H46 => ?_
  refine wpdR_z rfl rfl rfl (h_st (y := (.agg [(eI s16.Limit), (eT tk_id3_L 5 e_aEn s16.L)])) tk hH 1 rfl ty33 (by simp) rfl rfl wr (b := (.agg [(eI s16.Limit), (eT tk_id3_L 5 e_aEn s16.L)])) rfl rfl (nb rfl) [(eI (s16 : R11_Ram).Limit), (eT tk_id3_L 5 e_aEn (s16 : R11_Ram).L)] rfl) fun τ hH => ⟨fun _ => (hH.at_ 0 rfl), ?_⟩
  refine wpdR_mv (a := (eI v47)) rfl rfl rfl (o_as tk rfl (Wk.refl _)) ?_
  refine wpdR_nil ?_
  refine awp_ret ?_
  obtain rfl := oi H46
  exact ⟨_, (.tup [(e_R11_Ram (s16 : R11_Ram)), (eI v47)]), (ares_2 (ares_cell hH 1 rfl rfl rfl) rfl), (wk_tup (.cons (wk_agg (.cons wr (.cons wk_no .nil))) (.cons wr .nil))), .of_eq (by simp only [cutAV, cutL, enc33.cut _ _ _, (enc_i64 td3 sz3).cut _ _ _]), ((hH.noT.drop n4).drop n2)⟩
 ·refine awp_loopO (body := fun s => R11_Sweep_b0 x0 x1 s.1 s.2) hs10 (fun (s : Int × R11_Ram) fr τ => ∃ tk_id3_L, WkF fr (fm [(1, (eI x1)), (2, (.fptr (c_R11_Ram x0) 0)), (4, (.ref id1 0)), (6, (.ref id3 0)), (7, (eI s.1))]) ∧ Holds σ [(id3, [(eI s.2.Limit), (eT tk_id3_L 5 e_aEn s.2.L)]), (id1, [(eI z_R11_Ram.Limit), AV.nils])] [tk_id3_L] τ) ⟨tk8, (wc (wc (wc (wc (wc (wkf_nil _)))))), hH⟩ ?_
  rintro ⟨c6, c7⟩ fr τ y12 ⟨tk_id3_L, hfr, hH⟩ hb14 hy15
  have H17 : R11_Sweep_b0 x0 x1 c6 c7 = some y12 := hb14
  unfold R11_Sweep_b0 at H17
  refine AWP.fm [(1, (eI x1)), (2, (.fptr (c_R11_Ram x0) 0)), (4, (.ref id1 0)), (6, (.ref id3 0)), (7, (eI c6))] hfr ?_
  have hH : Holds σ [(id3, [(eI c7.Limit), (eT tk_id3_L 5 e_aEn c7.L)]), (id1, [(eI z_R11_Ram.Limit), AV.nils])] [tk_id3_L] τ := hH
  refine awp_seq (sr rfl (mm tk (eI c6) rfl rfl (mc tk (.fptr (c_R11_Ram x0) 1) rfl rfl (fun _ => rfl) (m_ ((eL 5 e_aEn) x0.L) rfl (o_ld tk rfl rfl) ?_))))
  refine l_ H17 eI rfl (o_len tk td31 rfl) fun v19 H18 => ?_
  refine l_ H18 eB rfl (o_ar tk rfl rfl rfl) fun v21 H20 => ?_
  refine wpo_nil ?_
  refine awp_if H20 rfl (fun H22 => ?_) (fun H22 => ?_)
  ·refine awp_skip (awp_seq (awp_block (sr rfl (mc tk (.fptr (c_R11_Ram x0) 1) rfl rfl (fun _ => rfl) (m_ ((eL 5 e_aEn) x0.L) rfl (o_ld tk rfl rfl) (mm tk (eI c6) rfl rfl ?_))))))
   refine b_ H22 (fun y => .fptr (e_aEn y).cells 0) rfl (fun v24 hv => o_ixa tk hv td31 enc39 rfl rfl) fun v24 hv24 H23 => ?_
   refine m_ (e_aEn v24) rfl (o_ld_e tk enc39 rfl rfl) (mm tk (eI x1) rfl rfl ?_)
   refine b_ H23 eB rfl (fun v26 hv => OpP.of_call rfl rfl (.cons wr (.cons wr .nil)) (R06_Live_ok hv)) fun v26 hv26 H25 => ?_
   refine wpo_nil ?_
   refine awp_if H25 rfl (fun H27 => ?_) (fun H27 => ?_)
   ·refine awp_drawS mixed [8, 10] rfl (by decide +kernel) rfl rfl ?_
    refine wpdS_mv (a := (.ref id3 1)) rfl rfl rfl (o_c tk false rfl (fun _ => rfl)) (wpdS_rd (a := (eT tk_id3_L 5 e_aEn c7.L)) rfl (by decide +kernel) rfl rfl (h_ld tk hH 0 rfl rfl rfl) (wpdS_mv (a := (.fptr (c_R11_Ram x0) 1)) rfl rfl rfl (o_c tk false rfl (fun _ => rfl)) (wpdS_mv (a := ((eL 5 e_aEn) x0.L)) rfl rfl rfl (o_ld tk rfl rfl) (wpdS_mv (a := (eI c6)) rfl rfl rfl (o_mv tk rfl (Wk.refl _)) ?_))))
    refine wpdS_bd H27 (fun y => .fptr (e_aEn y).cells 0) rfl rfl rfl (fun v29 hv => o_ixa tk hv td31 enc39 rfl rfl) fun v29 hv29 H28 => ?_
    refine wpdS_mv (a := (e_aEn v29)) rfl rfl rfl (o_ld_e tk enc39 rfl rfl) ?_
    refine wpdS_lt H28 (eF 5 e_aEn) rfl rfl rfl (o_c tk false rfl (fun _ => rfl)) fun v31 H30 => ?_
    obtain ⟨v33, hv34, H32⟩ := ob H30
    refine wpdS_a (av := fun t => eT t 5 e_aEn v33) rfl rfl rfl (h_app tk hH 0 hv34 rfl td31 ty39 rfl (by decide) rfl (src_l td31 rfl)) fun tk35 τ hH => ?_
    refine wpdS_mv (a := (.ref id3 1)) rfl rfl rfl (o_c tk false rfl (fun _ => rfl)) ?_
    refine wpdS_z rfl rfl rfl (h_st (y := (eT tk35 5 e_aEn v33)) tk hH 0 rfl ty31 (by simp) rfl rfl wr (b := (eT tk35 5 e_aEn v33)) rfl rfl (nb rfl) [(eI ({ c7 with L := v33 } : R11_Ram).Limit), (eT tk35 5 e_aEn ({ c7 with L := v33 } : R11_Ram).L)] rfl) fun τ hH => ?_
    refine wpdS_nil (awp_region rfl (mm tk (eI c6) rfl rfl ?_))
    refine l_ H32 eI rfl (o_ar tk rfl rfl rfl) fun v38 H37 => ?_
    refine ma tk (eI v38) rfl rfl (wpo_nil ?_)
    exact ⟨(v38, ({ c7 with L := v33 } : R11_Ram)), inj_inl H37, tk35, (wc (wc (wc (wc (wc (wkf_nil _)))))), hH⟩
   ·refine awp_skip (awp_region rfl (mm tk (eI c6) rfl rfl ?_))
    refine l_ H27 eI rfl (o_ar tk rfl rfl rfl) fun v40 H39 => ?_
    refine ma tk (eI v40) rfl rfl (wpo_nil ?_)
    exact ⟨(v40, c7), inj_inl H39, tk_id3_L, (wc (wc (wc (wc (wc (wkf_nil _)))))), hH⟩
  ·refine awp_exit ?_
   have hz := hy15 _ (inj_inr H22)
   subst hz
   exact ⟨⟨_, inj_inr H22⟩, tk_id3_L, (wc (wc (wc (wkf_nil _)))), hH⟩
theorem L11_do_ok {x0 : ram_Ram} {x1 : R11_Ram} {x2 : L11_Op} {r : R11_Ram × Bool × ram_Ram} (H : L11_do x0 x1 x2 = some r) (σ : St) {p0 p0B p0I p0N p0F p0L p0C p0H p0X p0G : Nat} (h0 : σ.objs[p0]? = some [(.ref p0B 0), (.ref p0I 0), (.vec p0H 1 (x0.heads).length), (.vec p0X 1 (x0.next_).length), (.vec p0G 5 (x0.things).length), (eI x0.count)]) (h0_budget : σ.objs[p0B]? = some (c_slab_Budget x0.budget)) (h0_lists : σ.objs[p0I]? = some [(.vec p0N 4 (x0.lists.nodes).length), (.vec p0F 1 (x0.lists.first_).length), (.vec p0L 1 (x0.lists.last_).length), (.vec p0C 1 (x0.lists.count).length), (eI x0.lists.free), (eI x0.lists.clock)]) (h0_lists_nodes : σ.objs[p0N]? = some (cL e_lists_link x0.lists.nodes)) (h0_lists_first_ : σ.objs[p0F]? = some (cL eI x0.lists.first_)) (h0_lists_last_ : σ.objs[p0L]? = some (cL eI x0.lists.last_)) (h0_lists_count : σ.objs[p0C]? = some (cL eI x0.lists.count)) (h0_heads : σ.objs[p0H]? = some (cL eI x0.heads)) (h0_next_ : σ.objs[p0X]? = some (cL eI x0.next_)) (h0_things : σ.objs[p0G]? = some (cL e_aEn x0.things)) (hd : [p0, p0B, p0I, p0N, p0F, p0L, p0C, p0H, p0X, p0G].Pairwise fun a b => a ≠ b) (hg : σ.gl = gls) : ACall Tryd.prog 13 [(.ref p0 0), (e_R11_Ram x1), (e_L11_Op x2)] σ (fun a τ => a = .tup [e_R11_Ram r.1, eB r.2.1] ∧ τ = σ.puts [(p0, [(.ref p0B 0), (.ref p0I 0), (.vec p0H 1 (r.2.2.heads).length), (.vec p0X 1 (r.2.2.next_).length), (.vec p0G 5 (r.2.2.things).length), (eI r.2.2.count)]), (p0B, (c_slab_Budget r.2.2.budget)), (p0I, [(.vec p0N 4 (r.2.2.lists.nodes).length), (.vec p0F 1 (r.2.2.lists.first_).length), (.vec p0L 1 (r.2.2.lists.last_).length), (.vec p0C 1 (r.2.2.lists.count).length), (eI r.2.2.lists.free), (eI r.2.2.lists.clock)]), (p0N, (cL e_lists_link r.2.2.lists.nodes)), (p0F, (cL eI r.2.2.lists.first_)), (p0L, (cL eI r.2.2.lists.last_)), (p0C, (cL eI r.2.2.lists.count)), (p0H, (cL eI r.2.2.heads)), (p0X, (cL eI r.2.2.next_)), (p0G, (cL e_aEn r.2.2.things))]) := by
 unfold L11_do at H
 refine ACall.outB [(p0, [(.ref p0B 0), (.ref p0I 0), (.vec p0H 1 (r.2.2.heads).length), (.vec p0X 1 (r.2.2.next_).length), (.vec p0G 5 (r.2.2.things).length), (eI r.2.2.count)]), (p0B, (c_slab_Budget r.2.2.budget)), (p0I, [(.vec p0N 4 (r.2.2.lists.nodes).length), (.vec p0F 1 (r.2.2.lists.first_).length), (.vec p0L 1 (r.2.2.lists.last_).length), (.vec p0C 1 (r.2.2.lists.count).length), (eI r.2.2.lists.free), (eI r.2.2.lists.clock)]), (p0N, (cL e_lists_link r.2.2.lists.nodes)), (p0F, (cL eI r.2.2.lists.first_)), (p0L, (cL eI r.2.2.lists.last_)), (p0C, (cL eI r.2.2.lists.count)), (p0H, (cL eI r.2.2.heads)), (p0X, (cL eI r.2.2.next_)), (p0G, (cL e_aEn r.2.2.things))] (by simp only [List.mem_cons, List.not_mem_nil, or_false]; rintro _ (rfl | rfl | rfl | rfl | rfl | rfl | rfl | rfl | rfl | rfl) <;> first | exact c_slab_Budget_cut _ _ _ | exact cut_cL enc106.cut _ _ _ | exact cut_cL (enc_i64 td3 sz3).cut _ _ _ | exact cut_cL enc39.cut _ _ _ | (simp only [cutL, cut_ref_id (idl_get h0_budget), cut_ref_id (idl_get h0_lists), cut_vec_id (idl_get h0_heads), cut_vec_id (idl_get h0_next_), cut_vec_id (idl_get h0_things), (enc_i64 td3 sz3).cut _ _]; done) | (simp only [cutL, cut_vec_id (idl_get h0_lists_nodes), cut_vec_id (idl_get h0_lists_first_), cut_vec_id (idl_get h0_lists_last_), cut_vec_id (idl_get h0_lists_count), (enc_i64 td3 sz3).cut _ _]; done)) (acall_start tk Tryd.func13 (by decide) rfl (nb rfl) ?_)
 have hH := Holds.brings (σ := σ) [(p0, [(.ref p0B 0), (.ref p0I 0), (.vec p0H 1 (x0.heads).length), (.vec p0X 1 (x0.next_).length), (.vec p0G 5 (x0.things).length), (eI x0.count)]), (p0B, (c_slab_Budget x0.budget)), (p0I, [(.vec p0N 4 (x0.lists.nodes).length), (.vec p0F 1 (x0.lists.first_).length), (.vec p0L 1 (x0.lists.last_).length), (.vec p0C 1 (x0.lists.count).length), (eI x0.lists.free), (eI x0.lists.clock)]), (p0N, (cL e_lists_link x0.lists.nodes)), (p0F, (cL eI x0.lists.first_)), (p0L, (cL eI x0.lists.last_)), (p0C, (cL eI x0.lists.count)), (p0H, (cL eI x0.heads)), (p0X, (cL eI x0.next_)), (p0G, (cL e_aEn x0.things))] (by simp only [List.mem_cons, List.not_mem_nil, or_false]; rintro _ (rfl | rfl | rfl | rfl | rfl | rfl | rfl | rfl | rfl | rfl) <;> assumption) hd
 refine sr rfl (m_ (.fptr (c_R11_Ram x1) 0) rfl (o_boxf tk rfl wr (b := (e_R11_Ram x1)) (enc33.flat _)) (m_ (.fptr (c_L11_Op x2) 0) rfl (o_boxf tk rfl wr (b := (e_L11_Op x2)) (enc41.flat _)) ?_))
 refine wpo_a (av := fun id => .ref id 0) rfl rfl rfl (h_alloc tk hH ty33 [(eI z_R11_Ram.Limit), AV.nils] rfl) fun id1 τ ⟨hH, n2⟩ => ?_
 refine ma tk (eB false) rfl rfl (wpo_nil (awp_seq (sr rfl (mc tk (.fptr (c_L11_Op x2) 0) rfl rfl (fun _ => rfl) (m_ (eI x2.Kind) rfl (o_ld tk rfl rfl) (wpo_nil (awp_block (sr rfl ?_))))))))
 refine l_ H eB rfl (o_ar tk rfl rfl rfl) fun v4 H3 => ?_
 refine ma tk (eB v4) rfl rfl (wpo_nil ?_)
 refine awp_if H3 rfl (fun H5 => ?_) (fun H5 => ?_)
 ·refine sr rfl (m_ (e_R11_Ram x1) rfl (o_ld tk rfl rfl) (mc tk (.fptr (c_L11_Op x2) 1) rfl rfl (fun _ => rfl) (m_ (e_aEn x2.X) rfl (o_ld tk rfl rfl) (mc tk (.fptr (c_L11_Op x2) 6) rfl rfl (fun _ => rfl) (m_ (eI x2.Now) rfl (o_ld tk rfl rfl) ?_)))))
  refine b_ H5 (fun r => .tup [e_R11_Ram r.1, (eL 5 e_aEn) r.2.1, eI r.2.2]) rfl (fun v7 hv => OpP.of_call rfl rfl (.cons wr (.cons wr (.cons wr .nil))) (R11_Set_ok hv)) fun v7 hv7 H6 => ?_
  refine mm tk (.tup [(e_R11_Ram v7.1), ((eL 5 e_aEn) v7.2.1), (eI v7.2.2)]) rfl rfl (m_ (e_R11_Ram v7.1) rfl (o_ext tk rfl rfl) (m_ ((eL 5 e_aEn) v7.2.1) rfl (o_ext tk rfl rfl) (m_ (eI v7.2.2) rfl (o_ext tk rfl rfl) ?_)))
  refine wpo_a (av := fun id => .ref id 0) rfl rfl rfl (h_alloc tk hH ty33 [(eI z_R11_Ram.Limit), AV.nils] rfl) fun id8 τ ⟨hH, n9⟩ => ?_
  refine wpo_z rfl rfl (h_st tk hH 0 rfl ty33 (by simp) rfl rfl wr (b := (e_R11_Ram v7.1)) (enc33.flat _) rfl (nb rfl) (c_R11_Ram (v7.1 : R11_Ram)) rfl) fun τ hH => ?_
  refine ma tk ((eL 5 e_aEn) v7.2.1) rfl rfl (ma tk (eI v7.2.2) rfl rfl (wpo_nil (sr rfl (mm tk (.ref p0 0) rfl rfl (mc tk (.fptr (c_L11_Op x2) 1) rfl rfl (fun _ => rfl) (m_ (e_aEn x2.X) rfl (o_ld tk rfl rfl) (mc tk (.fptr (c_L11_Op x2) 6) rfl rfl (fun _ => rfl) (m_ (eI x2.Now) rfl (o_ld tk rfl rfl) ?_))))))))
  refine wpo_cb H6 (fun x _ => .tup [(eL 5 e_aEn) x.1, eErr x.2.1]) rfl rfl rfl (fun v12 hv => h_call1 hH [(2, (p0, [(.ref p0B 0), (.ref p0I 0), (.vec p0H 1 (v12.2.2.heads).length), (.vec p0X 1 (v12.2.2.next_).length), (.vec p0G 5 (v12.2.2.things).length), (eI v12.2.2.count)])), (3, (p0B, (c_slab_Budget v12.2.2.budget))), (4, (p0I, [(.vec p0N 4 (v12.2.2.lists.nodes).length), (.vec p0F 1 (v12.2.2.lists.first_).length), (.vec p0L 1 (v12.2.2.lists.last_).length), (.vec p0C 1 (v12.2.2.lists.count).length), (eI v12.2.2.lists.free), (eI v12.2.2.lists.clock)])), (5, (p0N, (cL e_lists_link v12.2.2.lists.nodes))), (6, (p0F, (cL eI v12.2.2.lists.first_))), (7, (p0L, (cL eI v12.2.2.lists.last_))), (8, (p0C, (cL eI v12.2.2.lists.count))), (9, (p0H, (cL eI v12.2.2.heads))), (10, (p0X, (cL eI v12.2.2.next_))), (11, (p0G, (cL e_aEn v12.2.2.things)))] ⟨⟨_, rfl⟩, ⟨⟨_, rfl⟩, ⟨⟨_, rfl⟩, ⟨⟨_, rfl⟩, ⟨⟨_, rfl⟩, ⟨⟨_, rfl⟩, ⟨⟨_, rfl⟩, ⟨⟨_, rfl⟩, ⟨⟨_, rfl⟩, ⟨⟨_, rfl⟩, trivial⟩⟩⟩⟩⟩⟩⟩⟩⟩⟩ rfl rfl (.cons wr (.cons wr (.cons wr .nil))) (ram_Ram_Set_ok hv _ (hH.at_ 2 rfl) (hH.at_ 3 rfl) (hH.at_ 4 rfl) (hH.at_ 5 rfl) (hH.at_ 6 rfl) (hH.at_ 7 rfl) (hH.at_ 8 rfl) (hH.at_ 9 rfl) (hH.at_ 10 rfl) (hH.at_ 11 rfl) (hH.pw [2, 3, 4, 5, 6, 7, 8, 9, 10, 11] rfl (by decide)))) fun v12 _ τ hv12 H11 (hH : Holds σ [(id8, (c_R11_Ram (v7.1 : R11_Ram))), (id1, [(eI z_R11_Ram.Limit), AV.nils]), (p0, [(.ref p0B 0), (.ref p0I 0), (.vec p0H 1 (v12.2.2.heads).length), (.vec p0X 1 (v12.2.2.next_).length), (.vec p0G 5 (v12.2.2.things).length), (eI v12.2.2.count)]), (p0B, (c_slab_Budget v12.2.2.budget)), (p0I, [(.vec p0N 4 (v12.2.2.lists.nodes).length), (.vec p0F 1 (v12.2.2.lists.first_).length), (.vec p0L 1 (v12.2.2.lists.last_).length), (.vec p0C 1 (v12.2.2.lists.count).length), (eI v12.2.2.lists.free), (eI v12.2.2.lists.clock)]), (p0N, (cL e_lists_link v12.2.2.lists.nodes)), (p0F, (cL eI v12.2.2.lists.first_)), (p0L, (cL eI v12.2.2.lists.last_)), (p0C, (cL eI v12.2.2.lists.count)), (p0H, (cL eI v12.2.2.heads)), (p0X, (cL eI v12.2.2.next_)), (p0G, (cL e_aEn v12.2.2.things))] [] τ) => ?_
  refine mm tk (.tup [((eL 5 e_aEn) v12.1), (eErr v12.2.1)]) rfl rfl (m_ ((eL 5 e_aEn) v12.1) rfl (o_ext tk rfl rfl) (m_ (eErr v12.2.1) rfl (o_ext tk rfl rfl) (ma tk ((eL 5 e_aEn) v12.1) rfl rfl (ma tk (eErr v12.2.1) rfl rfl (wpo_nil (awp_seq ?_))))))
  refine awp_drawS mixed [10] rfl (by decide +kernel) rfl rfl ?_
  refine wpdS_rd (a := (e_R11_Ram (v7.1 : R11_Ram))) rfl (by decide +kernel) rfl rfl (h_ld tk hH 0 rfl rfl rfl) (wpdS_mv (a := ((eL 5 e_aEn) v12.1)) rfl rfl rfl (o_mv tk rfl (Wk.refl _)) (wpdS_mv (a := ((eL 5 e_aEn) v7.2.1)) rfl rfl rfl (o_mv tk rfl (Wk.refl _)) ?_))
  refine wpdS_bd H11 eB rfl rfl rfl (fun v14 hv => OpP.of_call rfl rfl (.cons wr (.cons wr .nil)) (R06_SameAll_ok hv)) fun v14 hv14 H13 => ?_
  refine wpdS_mv (a := (eB v14)) rfl rfl rfl (o_mv tk rfl (Wk.refl _)) ?_
  refine if_split H13 (fun hb H15 => ?_) (fun hb H15 => ?_)
  ·subst hb
   refine wpdS_mv (a := (eErr v12.2.1)) rfl rfl rfl (o_mv tk rfl (Wk.refl _)) ?_
   refine wpdS_bdr H15 eI rfl (by decide +kernel) rfl rfl (fun v17 hv => h_callr rfl rfl (.cons wr .nil) (trouble_Of_ok hv _ (hH.gl.trans hg))) fun v17 hv17 H16 => ?_
   refine wpdS_mv (a := (eI v7.2.2)) rfl rfl rfl (o_mv tk rfl (Wk.refl _)) ?_
   refine wpdS_lt H16 eB rfl rfl rfl (o_ar tk rfl rfl rfl) fun v19 H18 => ?_
   refine wpdS_mv (a := (eB v19)) rfl rfl rfl (o_pick_t tk rfl rfl (Wk.refl _)) ?_
   refine wpdS_z rfl rfl rfl (h_st tk hH 1 rfl ty33 (by simp) rfl rfl wr (b := (e_R11_Ram (v7.1 : R11_Ram))) (enc33.flat _) rfl (nb rfl) (c_R11_Ram ((v7.1 : R11_Ram) : R11_Ram)) rfl) fun τ hH => ?_
   refine wpdS_mv (a := (eB v19)) rfl rfl rfl (o_as tk rfl (Wk.refl _)) (wpdS_nil (awp_ret ?_))
   obtain rfl := oi H18
   exact ⟨_, (.tup [(e_R11_Ram ((v7.1 : R11_Ram) : R11_Ram)), (eB v19)]), (ares_2 (ares_cell hH 1 rfl rfl rfl) rfl), (wk_tup (.cons wr (.cons wr .nil))), .of_eq (by simp only [cutAV, cutL, enc33.cut _ _ _, (enc_b td4 sz4).cut _ _ _]), ((hH.noT.drop n9).drop n2)⟩
  ·subst hb
   refine wpdS_skip rfl rfl rfl (wpdS_skip rfl rfl rfl (wpdS_skip rfl rfl rfl (wpdS_skip rfl rfl rfl (wpdS_mv (a := (eB false)) rfl rfl rfl (o_pick_f tk rfl rfl (Wk.refl _)) ?_))))
   refine wpdS_z rfl rfl rfl (h_st tk hH 1 rfl ty33 (by simp) rfl rfl wr (b := (e_R11_Ram (v7.1 : R11_Ram))) (enc33.flat _) rfl (nb rfl) (c_R11_Ram ((v7.1 : R11_Ram) : R11_Ram)) rfl) fun τ hH => ?_
   refine wpdS_mv (a := (eB false)) rfl rfl rfl (o_as tk rfl (Wk.refl _)) (wpdS_nil (awp_ret ?_))
   obtain rfl := oi H15
   exact ⟨_, (.tup [(e_R11_Ram ((v7.1 : R11_Ram) : R11_Ram)), (eB false)]), (ares_2 (ares_cell hH 1 rfl rfl rfl) rfl), (wk_tup (.cons wr (.cons wr .nil))), .of_eq (by simp only [cutAV, cutL, enc33.cut _ _ _, (enc_b td4 sz4).cut _ _ _]), ((hH.noT.drop n9).drop n2)⟩
 ·refine sr rfl ?_
  refine l_ H5 eB rfl (o_ar tk rfl rfl rfl) fun v23 H22 => ?_
  refine ma tk (eB v23) rfl rfl (wpo_nil ?_)
  refine awp_if H22 rfl (fun H24 => ?_) (fun H24 => ?_)
  ·refine sr rfl (m_ (e_R11_Ram x1) rfl (o_ld tk rfl rfl) (mc tk (.fptr (c_L11_Op x2) 1) rfl rfl (fun _ => rfl) (mc tk (.fptr (c_L11_Op x2) 1) rfl rfl (fun _ => rfl) (m_ (eS x2.X.Key) rfl (o_ld tk rfl rfl) (mc tk (.fptr (c_L11_Op x2) 6) rfl rfl (fun _ => rfl) (m_ (eI x2.Now) rfl (o_ld tk rfl rfl) ?_))))))
   refine b_ H24 (fun r => .tup [e_R11_Ram r.1, e_aEn r.2.1, eB r.2.2]) rfl (fun v26 hv => OpP.of_call rfl rfl (.cons wr (.cons wr (.cons wr .nil))) (R11_Get_ok hv)) fun v26 hv26 H25 => ?_
   refine mm tk (.tup [(e_R11_Ram v26.1), (e_aEn v26.2.1), (eB v26.2.2)]) rfl rfl (m_ (e_R11_Ram v26.1) rfl (o_ext tk rfl rfl) (m_ (e_aEn v26.2.1) rfl (o_ext tk rfl rfl) (m_ (eB v26.2.2) rfl (o_ext tk rfl rfl) ?_)))
   refine wpo_a (av := fun id => .ref id 0) rfl rfl rfl (h_alloc tk hH ty33 [(eI z_R11_Ram.Limit), AV.nils] rfl) fun id27 τ ⟨hH, n28⟩ => ?_
   refine wpo_a (av := fun id => .ref id 0) rfl rfl rfl (h_alloc tk hH ty39 [(eS z_aEn.Key), (eI z_aEn.Version), (eI z_aEn.AsOf), (eI z_aEn.Ends), AV.nils] rfl) fun id29 τ ⟨hH, n30⟩ => ?_
   refine wpo_z rfl rfl (h_st tk hH 1 rfl ty33 (by simp) rfl rfl wr (b := (e_R11_Ram v26.1)) (enc33.flat _) rfl (nb rfl) (c_R11_Ram (v26.1 : R11_Ram)) rfl) fun τ hH => ?_
   refine wpo_z rfl rfl (h_st tk hH 0 rfl ty39 (by simp) rfl rfl wr (b := (e_aEn v26.2.1)) (enc39.flat _) rfl (nb rfl) (c_aEn (v26.2.1 : aEn)) rfl) fun τ hH => ?_
   refine ma tk (eB v26.2.2) rfl rfl (wpo_nil (sr rfl (mm tk (.ref p0 0) rfl rfl (mc tk (.fptr (c_L11_Op x2) 1) rfl rfl (fun _ => rfl) (mc tk (.fptr (c_L11_Op x2) 1) rfl rfl (fun _ => rfl) (m_ (eS x2.X.Key) rfl (o_ld tk rfl rfl) (mc tk (.fptr (c_L11_Op x2) 6) rfl rfl (fun _ => rfl) (m_ (eI x2.Now) rfl (o_ld tk rfl rfl) ?_))))))))
   refine wpo_cb H25 (fun x _ => .tup [e_aEn x.1, eB x.2.1]) rfl rfl rfl (fun v34 hv => h_call1 hH [(3, (p0, [(.ref p0B 0), (.ref p0I 0), (.vec p0H 1 (v34.2.2.heads).length), (.vec p0X 1 (v34.2.2.next_).length), (.vec p0G 5 (v34.2.2.things).length), (eI v34.2.2.count)])), (4, (p0B, (c_slab_Budget v34.2.2.budget))), (5, (p0I, [(.vec p0N 4 (v34.2.2.lists.nodes).length), (.vec p0F 1 (v34.2.2.lists.first_).length), (.vec p0L 1 (v34.2.2.lists.last_).length), (.vec p0C 1 (v34.2.2.lists.count).length), (eI v34.2.2.lists.free), (eI v34.2.2.lists.clock)])), (6, (p0N, (cL e_lists_link v34.2.2.lists.nodes))), (7, (p0F, (cL eI v34.2.2.lists.first_))), (8, (p0L, (cL eI v34.2.2.lists.last_))), (9, (p0C, (cL eI v34.2.2.lists.count))), (10, (p0H, (cL eI v34.2.2.heads))), (11, (p0X, (cL eI v34.2.2.next_))), (12, (p0G, (cL e_aEn v34.2.2.things)))] ⟨⟨_, rfl⟩, ⟨⟨_, rfl⟩, ⟨⟨_, rfl⟩, ⟨⟨_, rfl⟩, ⟨⟨_, rfl⟩, ⟨⟨_, rfl⟩, ⟨⟨_, rfl⟩, ⟨⟨_, rfl⟩, ⟨⟨_, rfl⟩, ⟨⟨_, rfl⟩, trivial⟩⟩⟩⟩⟩⟩⟩⟩⟩⟩ rfl rfl (.cons wr (.cons wr (.cons wr .nil))) (ram_Ram_Get_ok hv _ (hH.at_ 3 rfl) (hH.at_ 4 rfl) (hH.at_ 5 rfl) (hH.at_ 6 rfl) (hH.at_ 7 rfl) (hH.at_ 8 rfl) (hH.at_ 9 rfl) (hH.at_ 10 rfl) (hH.at_ 11 rfl) (hH.at_ 12 rfl) (hH.pw [3, 4, 5, 6, 7, 8, 9, 10, 11, 12] rfl (by decide)))) fun v34 _ τ hv34 H33 (hH : Holds σ [(id29, (c_aEn (v26.2.1 : aEn))), (id27, (c_R11_Ram (v26.1 : R11_Ram))), (id1, [(eI z_R11_Ram.Limit), AV.nils]), (p0, [(.ref p0B 0), (.ref p0I 0), (.vec p0H 1 (v34.2.2.heads).length), (.vec p0X 1 (v34.2.2.next_).length), (.vec p0G 5 (v34.2.2.things).length), (eI v34.2.2.count)]), (p0B, (c_slab_Budget v34.2.2.budget)), (p0I, [(.vec p0N 4 (v34.2.2.lists.nodes).length), (.vec p0F 1 (v34.2.2.lists.first_).length), (.vec p0L 1 (v34.2.2.lists.last_).length), (.vec p0C 1 (v34.2.2.lists.count).length), (eI v34.2.2.lists.free), (eI v34.2.2.lists.clock)]), (p0N, (cL e_lists_link v34.2.2.lists.nodes)), (p0F, (cL eI v34.2.2.lists.first_)), (p0L, (cL eI v34.2.2.lists.last_)), (p0C, (cL eI v34.2.2.lists.count)), (p0H, (cL eI v34.2.2.heads)), (p0X, (cL eI v34.2.2.next_)), (p0G, (cL e_aEn v34.2.2.things))] [] τ) => ?_
   refine mm tk (.tup [(e_aEn v34.1), (eB v34.2.1)]) rfl rfl (m_ (e_aEn v34.1) rfl (o_ext tk rfl rfl) (m_ (eB v34.2.1) rfl (o_ext tk rfl rfl) ?_))
   refine wpo_a (av := fun id => .ref id 0) rfl rfl rfl (h_alloc tk hH ty39 [(eS z_aEn.Key), (eI z_aEn.Version), (eI z_aEn.AsOf), (eI z_aEn.Ends), AV.nils] rfl) fun id35 τ ⟨hH, n36⟩ => ?_
   refine wpo_z rfl rfl (h_st tk hH 0 rfl ty39 (by simp) rfl rfl wr (b := (e_aEn v34.1)) (enc39.flat _) rfl (nb rfl) (c_aEn (v34.1 : aEn)) rfl) fun τ hH => ?_
   refine ma tk (eB v34.2.1) rfl rfl (wpo_nil (awp_seq ?_))
   refine awp_drawS mixed [9] rfl (by decide +kernel) rfl rfl ?_
   refine wpdS_rd (a := (e_R11_Ram (v26.1 : R11_Ram))) rfl (by decide +kernel) rfl rfl (h_ld tk hH 2 rfl rfl rfl) (wpdS_rd (a := (e_aEn (v26.2.1 : aEn))) rfl (by decide +kernel) rfl rfl (h_ld tk hH 1 rfl rfl rfl) (wpdS_rd (a := (e_aEn (v34.1 : aEn))) rfl (by decide +kernel) rfl rfl (h_ld tk hH 0 rfl rfl rfl) ?_))
   refine wpdS_bd H33 eB rfl rfl rfl (fun v39 hv => OpP.of_call rfl rfl (.cons wr (.cons wr .nil)) (R06_Same_ok hv)) fun v39 hv39 H38 => ?_
   refine wpdS_mv (a := (eB v39)) rfl rfl rfl (o_mv tk rfl (Wk.refl _)) ?_
   refine if_split H38 (fun hb H40 => ?_) (fun hb H40 => ?_)
   ·subst hb
    refine wpdS_mv (a := (eB v26.2.2)) rfl rfl rfl (o_mv tk rfl (Wk.refl _)) (wpdS_mv (a := (eB v34.2.1)) rfl rfl rfl (o_mv tk rfl (Wk.refl _)) ?_)
    refine wpdS_lt H40 eB rfl rfl rfl (o_bool_eql tk td4 rfl rfl) fun v42 H41 => ?_
    refine wpdS_mv (a := (eB v42)) rfl rfl rfl (o_pick_t tk rfl rfl (Wk.refl _)) ?_
    refine wpdS_z rfl rfl rfl (h_st tk hH 3 rfl ty33 (by simp) rfl rfl wr (b := (e_R11_Ram (v26.1 : R11_Ram))) (enc33.flat _) rfl (nb rfl) (c_R11_Ram ((v26.1 : R11_Ram) : R11_Ram)) rfl) fun τ hH => ?_
    refine wpdS_mv (a := (eB v42)) rfl rfl rfl (o_as tk rfl (Wk.refl _)) (wpdS_nil (awp_ret ?_))
    obtain rfl := oi H41
    exact ⟨_, (.tup [(e_R11_Ram ((v26.1 : R11_Ram) : R11_Ram)), (eB v42)]), (ares_2 (ares_cell hH 3 rfl rfl rfl) rfl), (wk_tup (.cons wr (.cons wr .nil))), .of_eq (by simp only [cutAV, cutL, enc33.cut _ _ _, (enc_b td4 sz4).cut _ _ _]), ((((hH.noT.drop n36).drop n30).drop n28).drop n2)⟩
   ·subst hb
    refine wpdS_skip rfl rfl rfl (wpdS_skip rfl rfl rfl (wpdS_skip rfl rfl rfl (wpdS_mv (a := (eB false)) rfl rfl rfl (o_pick_f tk rfl rfl (Wk.refl _)) ?_)))
    refine wpdS_z rfl rfl rfl (h_st tk hH 3 rfl ty33 (by simp) rfl rfl wr (b := (e_R11_Ram (v26.1 : R11_Ram))) (enc33.flat _) rfl (nb rfl) (c_R11_Ram ((v26.1 : R11_Ram) : R11_Ram)) rfl) fun τ hH => ?_
    refine wpdS_mv (a := (eB false)) rfl rfl rfl (o_as tk rfl (Wk.refl _)) (wpdS_nil (awp_ret ?_))
    obtain rfl := oi H40
    exact ⟨_, (.tup [(e_R11_Ram ((v26.1 : R11_Ram) : R11_Ram)), (eB false)]), (ares_2 (ares_cell hH 3 rfl rfl rfl) rfl), (wk_tup (.cons wr (.cons wr .nil))), .of_eq (by simp only [cutAV, cutL, enc33.cut _ _ _, (enc_b td4 sz4).cut _ _ _]), ((((hH.noT.drop n36).drop n30).drop n28).drop n2)⟩
  ·refine sr rfl ?_
   refine l_ H24 eB rfl (o_ar tk rfl rfl rfl) fun v46 H45 => ?_
   refine ma tk (eB v46) rfl rfl (wpo_nil ?_)
   refine awp_if H45 rfl (fun H47 => ?_) (fun H47 => ?_)
   ·refine sr rfl (mc tk (.fptr (c_R11_Ram x1) 1) rfl rfl (fun _ => rfl) (m_ ((eL 5 e_aEn) x1.L) rfl (o_ld tk rfl rfl) (mc tk (.fptr (c_L11_Op x2) 1) rfl rfl (fun _ => rfl) (mc tk (.fptr (c_L11_Op x2) 1) rfl rfl (fun _ => rfl) (m_ (eS x2.X.Key) rfl (o_ld tk rfl rfl) ?_)))))
    refine b_ H47 eI rfl (fun v49 hv => OpP.of_call rfl rfl (.cons wr (.cons wr .nil)) (R06_Find_ok hv)) fun v49 hv49 H48 => ?_
    refine ma tk (eI v49) rfl rfl (wpo_nil (sr rfl (mm tk (.ref p0 0) rfl rfl (mc tk (.fptr (c_L11_Op x2) 1) rfl rfl (fun _ => rfl) (mc tk (.fptr (c_L11_Op x2) 1) rfl rfl (fun _ => rfl) (m_ (eS x2.X.Key) rfl (o_ld tk rfl rfl) ?_))))))
    refine wpo_cb H48 (fun x _ => .tup [e_aEn x.1, eB x.2.1]) rfl rfl rfl (fun v51 hv => h_call1 hH [(1, (p0, [(.ref p0B 0), (.ref p0I 0), (.vec p0H 1 (v51.2.2.heads).length), (.vec p0X 1 (v51.2.2.next_).length), (.vec p0G 5 (v51.2.2.things).length), (eI v51.2.2.count)])), (2, (p0B, (c_slab_Budget v51.2.2.budget))), (3, (p0I, [(.vec p0N 4 (v51.2.2.lists.nodes).length), (.vec p0F 1 (v51.2.2.lists.first_).length), (.vec p0L 1 (v51.2.2.lists.last_).length), (.vec p0C 1 (v51.2.2.lists.count).length), (eI v51.2.2.lists.free), (eI v51.2.2.lists.clock)])), (4, (p0N, (cL e_lists_link v51.2.2.lists.nodes))), (5, (p0F, (cL eI v51.2.2.lists.first_))), (6, (p0L, (cL eI v51.2.2.lists.last_))), (7, (p0C, (cL eI v51.2.2.lists.count))), (8, (p0H, (cL eI v51.2.2.heads))), (9, (p0X, (cL eI v51.2.2.next_))), (10, (p0G, (cL e_aEn v51.2.2.things)))] ⟨⟨_, rfl⟩, ⟨⟨_, rfl⟩, ⟨⟨_, rfl⟩, ⟨⟨_, rfl⟩, ⟨⟨_, rfl⟩, ⟨⟨_, rfl⟩, ⟨⟨_, rfl⟩, ⟨⟨_, rfl⟩, ⟨⟨_, rfl⟩, ⟨⟨_, rfl⟩, trivial⟩⟩⟩⟩⟩⟩⟩⟩⟩⟩ rfl rfl (.cons wr (.cons wr .nil)) (ram_Ram_Drop_ok hv _ (hH.at_ 1 rfl) (hH.at_ 2 rfl) (hH.at_ 3 rfl) (hH.at_ 4 rfl) (hH.at_ 5 rfl) (hH.at_ 6 rfl) (hH.at_ 7 rfl) (hH.at_ 8 rfl) (hH.at_ 9 rfl) (hH.at_ 10 rfl) (hH.pw [1, 2, 3, 4, 5, 6, 7, 8, 9, 10] rfl (by decide)))) fun v51 _ τ hv51 H50 (hH : Holds σ [(id1, [(eI z_R11_Ram.Limit), AV.nils]), (p0, [(.ref p0B 0), (.ref p0I 0), (.vec p0H 1 (v51.2.2.heads).length), (.vec p0X 1 (v51.2.2.next_).length), (.vec p0G 5 (v51.2.2.things).length), (eI v51.2.2.count)]), (p0B, (c_slab_Budget v51.2.2.budget)), (p0I, [(.vec p0N 4 (v51.2.2.lists.nodes).length), (.vec p0F 1 (v51.2.2.lists.first_).length), (.vec p0L 1 (v51.2.2.lists.last_).length), (.vec p0C 1 (v51.2.2.lists.count).length), (eI v51.2.2.lists.free), (eI v51.2.2.lists.clock)]), (p0N, (cL e_lists_link v51.2.2.lists.nodes)), (p0F, (cL eI v51.2.2.lists.first_)), (p0L, (cL eI v51.2.2.lists.last_)), (p0C, (cL eI v51.2.2.lists.count)), (p0H, (cL eI v51.2.2.heads)), (p0X, (cL eI v51.2.2.next_)), (p0G, (cL e_aEn v51.2.2.things))] [] τ) => ?_
    refine mm tk (.tup [(e_aEn v51.1), (eB v51.2.1)]) rfl rfl (m_ (e_aEn v51.1) rfl (o_ext tk rfl rfl) (m_ (eB v51.2.1) rfl (o_ext tk rfl rfl) ?_))
    refine wpo_a (av := fun id => .ref id 0) rfl rfl rfl (h_alloc tk hH ty39 [(eS z_aEn.Key), (eI z_aEn.Version), (eI z_aEn.AsOf), (eI z_aEn.Ends), AV.nils] rfl) fun id52 τ ⟨hH, n53⟩ => ?_
    refine wpo_z rfl rfl (h_st tk hH 0 rfl ty39 (by simp) rfl rfl wr (b := (e_aEn v51.1)) (enc39.flat _) rfl (nb rfl) (c_aEn (v51.1 : aEn)) rfl) fun τ hH => ?_
    refine ma tk (eB v51.2.1) rfl rfl (wpo_nil (awp_seq (sr rfl (mm tk (eI v49) rfl rfl ?_))))
    refine l_ H50 eB rfl (o_ar tk rfl rfl rfl) fun v56 H55 => ?_
    refine wpo_nil ?_
    refine awp_if H55 rfl (fun H57 => ?_) (fun H57 => ?_)
    ·refine awp_seq ?_
     refine awp_drawS mixed [8] rfl (by decide +kernel) rfl rfl ?_
     refine wpdS_mv (a := (e_R11_Ram x1)) rfl rfl rfl (o_ld tk rfl rfl) (wpdS_mv (a := (eB v51.2.1)) rfl rfl rfl (o_mv tk rfl (Wk.refl _)) ?_)
     refine wpdS_lt H57 eB rfl rfl rfl (o_un tk rfl rfl) fun v59 H58 => ?_
     refine wpdS_mv (a := (eB v59)) rfl rfl rfl (o_mv tk rfl (Wk.refl _)) ?_
     refine if_split H58 (fun hb H60 => ?_) (fun hb H60 => ?_)
     ·subst hb
      refine wpdS_rd (a := (e_aEn (v51.1 : aEn))) rfl (by decide +kernel) rfl rfl (h_ld tk hH 0 rfl rfl rfl) (wpdS_mv (a := (.agg [(eS (⟨[], 0, 0, 0, []⟩ : aEn).Key), (eI (⟨[], 0, 0, 0, []⟩ : aEn).Version), (eI (⟨[], 0, 0, 0, []⟩ : aEn).AsOf), (eI (⟨[], 0, 0, 0, []⟩ : aEn).Ends), AV.nils])) rfl rfl rfl (o_c tk false rfl (fun _ => rfl)) ?_)
      refine wpdS_bd H60 eB rfl rfl rfl (fun v62 hv => OpP.of_call rfl rfl (.cons wr (.cons (wk_agg (.cons wr (.cons wr (.cons wr (.cons wr (.cons (wk_nils _) .nil)))))) .nil)) (R06_Same_ok hv)) fun v62 hv62 H61 => ?_
      refine wpdS_mv (a := (eB v62)) rfl rfl rfl (o_pick_t tk rfl rfl (Wk.refl _)) ?_
      refine wpdS_z rfl rfl rfl (h_st tk hH 1 rfl ty33 (by simp) rfl rfl wr (b := (e_R11_Ram x1)) (enc33.flat _) rfl (nb rfl) (c_R11_Ram (x1 : R11_Ram)) rfl) fun τ hH => ?_
      refine wpdS_mv (a := (eB v62)) rfl rfl rfl (o_as tk rfl (Wk.refl _)) (wpdS_nil (awp_ret ?_))
      obtain rfl := oi H61
      exact ⟨_, (.tup [(e_R11_Ram (x1 : R11_Ram)), (eB v62)]), (ares_2 (ares_cell hH 1 rfl rfl rfl) rfl), (wk_tup (.cons wr (.cons wr .nil))), .of_eq (by simp only [cutAV, cutL, enc33.cut _ _ _, (enc_b td4 sz4).cut _ _ _]), ((hH.noT.drop n53).drop n2)⟩
     ·subst hb
      refine wpdS_skip rfl rfl rfl (wpdS_skip rfl rfl rfl (wpdS_skip rfl rfl rfl (wpdS_mv (a := (eB false)) rfl rfl rfl (o_pick_f tk rfl rfl (Wk.refl _)) ?_)))
      refine wpdS_z rfl rfl rfl (h_st tk hH 1 rfl ty33 (by simp) rfl rfl wr (b := (e_R11_Ram x1)) (enc33.flat _) rfl (nb rfl) (c_R11_Ram (x1 : R11_Ram)) rfl) fun τ hH => ?_
      refine wpdS_mv (a := (eB false)) rfl rfl rfl (o_as tk rfl (Wk.refl _)) (wpdS_nil (awp_ret ?_))
      obtain rfl := oi H60
      exact ⟨_, (.tup [(e_R11_Ram (x1 : R11_Ram)), (eB false)]), (ares_2 (ares_cell hH 1 rfl rfl rfl) rfl), (wk_tup (.cons wr (.cons wr .nil))), .of_eq (by simp only [cutAV, cutL, enc33.cut _ _ _, (enc_b td4 sz4).cut _ _ _]), ((hH.noT.drop n53).drop n2)⟩
    ·refine awp_skip (awp_seq ?_)
     refine awp_drawS mixed [13] rfl (by decide +kernel) rfl rfl ?_
     refine wpdS_mv (a := (e_R11_Ram x1)) rfl rfl rfl (o_ld tk rfl rfl) (wpdS_mv (a := (eI v49)) rfl rfl rfl (o_mv tk rfl (Wk.refl _)) ?_)
     refine wpdS_bd H57 e_R11_Ram rfl rfl rfl (fun v66 hv => OpP.of_call rfl rfl (.cons wr (.cons wr .nil)) (R11_But_ok hv)) fun v66 hv66 H65 => ?_
     refine wpdS_mv (a := (eB v51.2.1)) rfl rfl rfl (o_mv tk rfl (Wk.refl _)) (wpdS_mv (a := (eB v51.2.1)) rfl rfl rfl (o_mv tk rfl (Wk.refl _)) ?_)
     refine if_split H65 (fun hb H67 => ?_) (fun hb H67 => ?_)
     ·rw [hb]
      refine wpdS_rd (a := (e_aEn (v51.1 : aEn))) rfl (by decide +kernel) rfl rfl (h_ld tk hH 0 rfl rfl rfl) (wpdS_mv (a := (.fptr (c_R11_Ram x1) 1)) rfl rfl rfl (o_c tk false rfl (fun _ => rfl)) (wpdS_mv (a := ((eL 5 e_aEn) x1.L)) rfl rfl rfl (o_ld tk rfl rfl) (wpdS_mv (a := (eI v49)) rfl rfl rfl (o_mv tk rfl (Wk.refl _)) ?_)))
      refine wpdS_bd H67 (fun y => .fptr (e_aEn y).cells 0) rfl rfl rfl (fun v69 hv => o_ixa tk hv td31 enc39 rfl rfl) fun v69 hv69 H68 => ?_
      refine wpdS_mv (a := (e_aEn v69)) rfl rfl rfl (o_ld_e tk enc39 rfl rfl) ?_
      refine wpdS_bd H68 eB rfl rfl rfl (fun v71 hv => OpP.of_call rfl rfl (.cons wr (.cons wr .nil)) (R06_Same_ok hv)) fun v71 hv71 H70 => ?_
      refine wpdS_mv (a := (eB v71)) rfl rfl rfl (o_pick_t tk rfl rfl (Wk.refl _)) ?_
      refine wpdS_z rfl rfl rfl (h_st tk hH 1 rfl ty33 (by simp) rfl rfl wr (b := (e_R11_Ram v66)) (enc33.flat _) rfl (nb rfl) (c_R11_Ram (v66 : R11_Ram)) rfl) fun τ hH => ?_
      refine wpdS_mv (a := (eB v71)) rfl rfl rfl (o_as tk rfl (Wk.refl _)) (wpdS_nil (awp_ret ?_))
      obtain rfl := oi H70
      exact ⟨_, (.tup [(e_R11_Ram (v66 : R11_Ram)), (eB v71)]), (ares_2 (ares_cell hH 1 rfl rfl rfl) rfl), (wk_tup (.cons wr (.cons wr .nil))), .of_eq (by simp only [cutAV, cutL, enc33.cut _ _ _, (enc_b td4 sz4).cut _ _ _]), ((hH.noT.drop n53).drop n2)⟩
     ·rw [hb]
      refine wpdS_skip rfl rfl rfl (wpdS_skip rfl rfl rfl (wpdS_skip rfl rfl rfl (wpdS_skip rfl rfl rfl (wpdS_skip rfl rfl rfl (wpdS_skip rfl rfl rfl (wpdS_skip rfl rfl rfl (wpdS_mv (a := (eB false)) rfl rfl rfl (o_pick_f tk rfl rfl (Wk.refl _)) ?_)))))))
      refine wpdS_z rfl rfl rfl (h_st tk hH 1 rfl ty33 (by simp) rfl rfl wr (b := (e_R11_Ram v66)) (enc33.flat _) rfl (nb rfl) (c_R11_Ram (v66 : R11_Ram)) rfl) fun τ hH => ?_
      refine wpdS_mv (a := (eB false)) rfl rfl rfl (o_as tk rfl (Wk.refl _)) (wpdS_nil (awp_ret ?_))
      obtain rfl := oi H67
      exact ⟨_, (.tup [(e_R11_Ram (v66 : R11_Ram)), (eB false)]), (ares_2 (ares_cell hH 1 rfl rfl rfl) rfl), (wk_tup (.cons wr (.cons wr .nil))), .of_eq (by simp only [cutAV, cutL, enc33.cut _ _ _, (enc_b td4 sz4).cut _ _ _]), ((hH.noT.drop n53).drop n2)⟩
   ·refine sr rfl ?_
    refine l_ H47 eB rfl (o_ar tk rfl rfl rfl) fun v75 H74 => ?_
    refine ma tk (eB v75) rfl rfl (wpo_nil ?_)
    refine awp_if H74 rfl (fun H76 => ?_) (fun H76 => ?_)
    ·refine sr rfl (mc tk (.fptr (c_R11_Ram x1) 1) rfl rfl (fun _ => rfl) (m_ ((eL 5 e_aEn) x1.L) rfl (o_ld tk rfl rfl) (mc tk (.fptr (c_L11_Op x2) 1) rfl rfl (fun _ => rfl) (mc tk (.fptr (c_L11_Op x2) 1) rfl rfl (fun _ => rfl) (m_ (eS x2.X.Key) rfl (o_ld tk rfl rfl) ?_)))))
     refine b_ H76 eI rfl (fun v78 hv => OpP.of_call rfl rfl (.cons wr (.cons wr .nil)) (R06_Find_ok hv)) fun v78 hv78 H77 => ?_
     refine ma tk (eI v78) rfl rfl (wpo_nil (sr rfl (mm tk (.ref p0 0) rfl rfl (mc tk (.fptr (c_L11_Op x2) 1) rfl rfl (fun _ => rfl) (mc tk (.fptr (c_L11_Op x2) 1) rfl rfl (fun _ => rfl) (m_ (eS x2.X.Key) rfl (o_ld tk rfl rfl) ?_))))))
     refine wpo_bdr H77 (fun r => .tup [e_aEn r.1, eB r.2]) rfl rfl rfl (fun v80 hv => h_callr rfl rfl (.cons wr (.cons wr .nil)) (ram_Ram_Peek_ok hv _ (hH.at_ 1 rfl) (hH.at_ 2 rfl) (hH.at_ 3 rfl) (hH.at_ 4 rfl) (hH.at_ 5 rfl) (hH.at_ 6 rfl) (hH.at_ 7 rfl) (hH.at_ 8 rfl) (hH.at_ 9 rfl) (hH.at_ 10 rfl) (hH.pw [1, 2, 3, 4, 5, 6, 7, 8, 9, 10] rfl (by decide)))) fun v80 hv80 H79 => ?_
     refine mm tk (.tup [(e_aEn v80.1), (eB v80.2)]) rfl rfl (m_ (e_aEn v80.1) rfl (o_ext tk rfl rfl) (m_ (eB v80.2) rfl (o_ext tk rfl rfl) ?_))
     refine wpo_a (av := fun id => .ref id 0) rfl rfl rfl (h_alloc tk hH ty39 [(eS z_aEn.Key), (eI z_aEn.Version), (eI z_aEn.AsOf), (eI z_aEn.Ends), AV.nils] rfl) fun id81 τ ⟨hH, n82⟩ => ?_
     refine wpo_z rfl rfl (h_st tk hH 0 rfl ty39 (by simp) rfl rfl wr (b := (e_aEn v80.1)) (enc39.flat _) rfl (nb rfl) (c_aEn (v80.1 : aEn)) rfl) fun τ hH => ?_
     refine ma tk (eB v80.2) rfl rfl (wpo_nil (awp_seq ?_))
     refine awp_drawS mixed [18] rfl (by decide +kernel) rfl rfl ?_
     refine wpdS_mv (a := (e_R11_Ram x1)) rfl rfl rfl (o_ld tk rfl rfl) (wpdS_mv (a := (eB v80.2)) rfl rfl rfl (o_mv tk rfl (Wk.refl _)) (wpdS_mv (a := (eI v78)) rfl rfl rfl (o_mv tk rfl (Wk.refl _)) ?_))
     refine wpdS_lt H79 eB rfl rfl rfl (o_ar tk rfl rfl rfl) fun v85 H84 => ?_
     refine wpdS_lt H84 eB rfl rfl rfl (o_bool_eql tk td4 rfl rfl) fun v87 H86 => ?_
     refine wpdS_mv (a := (eB v87)) rfl rfl rfl (o_mv tk rfl (Wk.refl _)) ?_
     refine if_split H86 (fun hb H88 => ?_) (fun hb H88 => ?_)
     ·subst hb
      refine wpdS_mv (a := (eB v80.2)) rfl rfl rfl (o_mv tk rfl (Wk.refl _)) ?_
      refine wpdS_lt H88 eB rfl rfl rfl (o_un tk rfl rfl) fun v90 H89 => ?_
      refine wpdS_mv (a := (eB v90)) rfl rfl rfl (o_mv tk rfl (Wk.refl _)) ?_
      refine if_split H89 (fun hb H91 => ?_) (fun hb H91 => ?_)
      ·subst hb
       refine wpdS_skip rfl rfl rfl (wpdS_skip rfl rfl rfl (wpdS_skip rfl rfl rfl (wpdS_skip rfl rfl rfl (wpdS_skip rfl rfl rfl (wpdS_skip rfl rfl rfl (wpdS_skip rfl rfl rfl (wpdS_mv (a := (eB true)) rfl rfl rfl (o_pick_t tk rfl rfl (Wk.refl _)) (wpdS_mv (a := (eB true)) rfl rfl rfl (o_pick_t tk rfl rfl (Wk.refl _)) ?_))))))))
       refine wpdS_z rfl rfl rfl (h_st tk hH 1 rfl ty33 (by simp) rfl rfl wr (b := (e_R11_Ram x1)) (enc33.flat _) rfl (nb rfl) (c_R11_Ram (x1 : R11_Ram)) rfl) fun τ hH => ?_
       refine wpdS_mv (a := (eB true)) rfl rfl rfl (o_as tk rfl (Wk.refl _)) (wpdS_nil (awp_ret ?_))
       obtain rfl := oi H91
       exact ⟨_, (.tup [(e_R11_Ram (x1 : R11_Ram)), (eB true)]), (ares_2 (ares_cell hH 1 rfl rfl rfl) rfl), (wk_tup (.cons wr (.cons wr .nil))), .of_eq (by simp only [cutAV, cutL, enc33.cut _ _ _, (enc_b td4 sz4).cut _ _ _]), ((hH.noT.drop n82).drop n2)⟩
      ·subst hb
       refine wpdS_rd (a := (e_aEn (v80.1 : aEn))) rfl (by decide +kernel) rfl rfl (h_ld tk hH 0 rfl rfl rfl) (wpdS_mv (a := (.fptr (c_R11_Ram x1) 1)) rfl rfl rfl (o_c tk false rfl (fun _ => rfl)) (wpdS_mv (a := ((eL 5 e_aEn) x1.L)) rfl rfl rfl (o_ld tk rfl rfl) (wpdS_mv (a := (eI v78)) rfl rfl rfl (o_mv tk rfl (Wk.refl _)) ?_)))
       refine wpdS_bd H91 (fun y => .fptr (e_aEn y).cells 0) rfl rfl rfl (fun v94 hv => o_ixa tk hv td31 enc39 rfl rfl) fun v94 hv94 H93 => ?_
       refine wpdS_mv (a := (e_aEn v94)) rfl rfl rfl (o_ld_e tk enc39 rfl rfl) ?_
       refine wpdS_bd H93 eB rfl rfl rfl (fun v96 hv => OpP.of_call rfl rfl (.cons wr (.cons wr .nil)) (R06_Same_ok hv)) fun v96 hv96 H95 => ?_
       refine wpdS_mv (a := (eB v96)) rfl rfl rfl (o_pick_f tk rfl rfl (Wk.refl _)) (wpdS_mv (a := (eB v96)) rfl rfl rfl (o_pick_t tk rfl rfl (Wk.refl _)) ?_)
       refine wpdS_z rfl rfl rfl (h_st tk hH 1 rfl ty33 (by simp) rfl rfl wr (b := (e_R11_Ram x1)) (enc33.flat _) rfl (nb rfl) (c_R11_Ram (x1 : R11_Ram)) rfl) fun τ hH => ?_
       refine wpdS_mv (a := (eB v96)) rfl rfl rfl (o_as tk rfl (Wk.refl _)) (wpdS_nil (awp_ret ?_))
       obtain rfl := oi H95
       exact ⟨_, (.tup [(e_R11_Ram (x1 : R11_Ram)), (eB v96)]), (ares_2 (ares_cell hH 1 rfl rfl rfl) rfl), (wk_tup (.cons wr (.cons wr .nil))), .of_eq (by simp only [cutAV, cutL, enc33.cut _ _ _, (enc_b td4 sz4).cut _ _ _]), ((hH.noT.drop n82).drop n2)⟩
     ·subst hb
      refine wpdS_skip rfl rfl rfl (wpdS_skip rfl rfl rfl (wpdS_skip rfl rfl rfl (wpdS_skip rfl rfl rfl (wpdS_skip rfl rfl rfl (wpdS_skip rfl rfl rfl (wpdS_skip rfl rfl rfl (wpdS_skip rfl rfl rfl (wpdS_skip rfl rfl rfl ?_))))))))
      refine wpdS_skip rfl rfl rfl (wpdS_skip rfl rfl rfl (wpdS_mv (a := (eB false)) rfl rfl rfl (o_pick_f tk rfl rfl (Wk.refl _)) ?_))
      refine wpdS_z rfl rfl rfl (h_st tk hH 1 rfl ty33 (by simp) rfl rfl wr (b := (e_R11_Ram x1)) (enc33.flat _) rfl (nb rfl) (c_R11_Ram (x1 : R11_Ram)) rfl) fun τ hH => ?_
      refine wpdS_mv (a := (eB false)) rfl rfl rfl (o_as tk rfl (Wk.refl _)) (wpdS_nil (awp_ret ?_))
      obtain rfl := oi H88
      exact ⟨_, (.tup [(e_R11_Ram (x1 : R11_Ram)), (eB false)]), (ares_2 (ares_cell hH 1 rfl rfl rfl) rfl), (wk_tup (.cons wr (.cons wr .nil))), .of_eq (by simp only [cutAV, cutL, enc33.cut _ _ _, (enc_b td4 sz4).cut _ _ _]), ((hH.noT.drop n82).drop n2)⟩
    ·refine sr rfl ?_
     refine l_ H76 eB rfl (o_ar tk rfl rfl rfl) fun v100 H99 => ?_
     refine ma tk (eB v100) rfl rfl (wpo_nil ?_)
     refine awp_if H99 rfl (fun H101 => ?_) (fun H101 => ?_)
     ·refine sr rfl (m_ (e_R11_Ram x1) rfl (o_ld tk rfl rfl) (mc tk (.fptr (c_L11_Op x2) 6) rfl rfl (fun _ => rfl) (m_ (eI x2.Now) rfl (o_ld tk rfl rfl) ?_)))
      refine b_ H101 (fun r => .tup [e_R11_Ram r.1, eI r.2]) rfl (fun v103 hv => OpP.of_call rfl rfl (.cons wr (.cons wr .nil)) (R11_Sweep_ok hv)) fun v103 hv103 H102 => ?_
      refine mm tk (.tup [(e_R11_Ram v103.1), (eI v103.2)]) rfl rfl (m_ (e_R11_Ram v103.1) rfl (o_ext tk rfl rfl) (m_ (eI v103.2) rfl (o_ext tk rfl rfl) ?_))
      refine wpo_a (av := fun id => .ref id 0) rfl rfl rfl (h_alloc tk hH ty33 [(eI z_R11_Ram.Limit), AV.nils] rfl) fun id104 τ ⟨hH, n105⟩ => ?_
      refine wpo_z rfl rfl (h_st tk hH 0 rfl ty33 (by simp) rfl rfl wr (b := (e_R11_Ram v103.1)) (enc33.flat _) rfl (nb rfl) (c_R11_Ram (v103.1 : R11_Ram)) rfl) fun τ hH => ?_
      refine ma tk (eI v103.2) rfl rfl (wpo_nil (awp_seq ?_))
      refine awp_drawR mixed [4, 7] rfl (by decide +kernel) rfl rfl (fun σ => σ.objs[id104]? = some (c_R11_Ram (v103.1 : R11_Ram))) 1 (hH.at_ 0 rfl) ?_
      refine wpdR_rdp (a := (e_R11_Ram (v103.1 : R11_Ram))) rfl (by decide +kernel) rfl rfl (fun σ hF => (h_ld tk (Holds.one hF) 0 rfl rfl rfl)) ?_
      refine wpdR_mv (a := (.ref p0 0)) rfl rfl rfl (o_mv tk rfl (Wk.refl _)) ?_
      refine wpdR_mv (a := (.fptr (c_L11_Op x2) 6)) rfl rfl rfl (o_c tk false rfl (fun _ => rfl)) ?_
      refine wpdR_mv (a := (eI x2.Now)) rfl rfl rfl (o_ld tk rfl rfl) ?_
      refine wpdR_cb H102 (fun x _ => eI x.1) rfl rfl rfl (fun v108 hv => h_call1 hH [(2, (p0, [(.ref p0B 0), (.ref p0I 0), (.vec p0H 1 (v108.2.heads).length), (.vec p0X 1 (v108.2.next_).length), (.vec p0G 5 (v108.2.things).length), (eI v108.2.count)])), (3, (p0B, (c_slab_Budget v108.2.budget))), (4, (p0I, [(.vec p0N 4 (v108.2.lists.nodes).length), (.vec p0F 1 (v108.2.lists.first_).length), (.vec p0L 1 (v108.2.lists.last_).length), (.vec p0C 1 (v108.2.lists.count).length), (eI v108.2.lists.free), (eI v108.2.lists.clock)])), (5, (p0N, (cL e_lists_link v108.2.lists.nodes))), (6, (p0F, (cL eI v108.2.lists.first_))), (7, (p0L, (cL eI v108.2.lists.last_))), (8, (p0C, (cL eI v108.2.lists.count))), (9, (p0H, (cL eI v108.2.heads))), (10, (p0X, (cL eI v108.2.next_))), (11, (p0G, (cL e_aEn v108.2.things)))] ⟨⟨_, rfl⟩, ⟨⟨_, rfl⟩, ⟨⟨_, rfl⟩, ⟨⟨_, rfl⟩, ⟨⟨_, rfl⟩, ⟨⟨_, rfl⟩, ⟨⟨_, rfl⟩, ⟨⟨_, rfl⟩, ⟨⟨_, rfl⟩, ⟨⟨_, rfl⟩, trivial⟩⟩⟩⟩⟩⟩⟩⟩⟩⟩ rfl rfl (.cons wr (.cons wr .nil)) (ram_Ram_Sweep_ok hv _ (hH.at_ 2 rfl) (hH.at_ 3 rfl) (hH.at_ 4 rfl) (hH.at_ 5 rfl) (hH.at_ 6 rfl) (hH.at_ 7 rfl) (hH.at_ 8 rfl) (hH.at_ 9 rfl) (hH.at_ 10 rfl) (hH.at_ 11 rfl) (hH.pw [2, 3, 4, 5, 6, 7, 8, 9, 10, 11] rfl (by decide)))) fun v108 _ τ hv108 H107 (hH : Holds σ [(id104, (c_R11_Ram (v103.1 : R11_Ram))), (id1, [(eI z_R11_Ram.Limit), AV.nils]), (p0, [(.ref p0B 0), (.ref p0I 0), (.vec p0H 1 (v108.2.heads).length), (.vec p0X 1 (v108.2.next_).length), (.vec p0G 5 (v108.2.things).length), (eI v108.2.count)]), (p0B, (c_slab_Budget v108.2.budget)), (p0I, [(.vec p0N 4 (v108.2.lists.nodes).length), (.vec p0F 1 (v108.2.lists.first_).length), (.vec p0L 1 (v108.2.lists.last_).length), (.vec p0C 1 (v108.2.lists.count).length), (eI v108.2.lists.free), (eI v108.2.lists.clock)]), (p0N, (cL e_lists_link v108.2.lists.nodes)), (p0F, (cL eI v108.2.lists.first_)), (p0L, (cL eI v108.2.lists.last_)), (p0C, (cL eI v108.2.lists.count)), (p0H, (cL eI v108.2.heads)), (p0X, (cL eI v108.2.next_)), (p0G, (cL e_aEn v108.2.things))] [] τ) => ⟨fun _ => (hH.at_ 0 rfl), ?_⟩
      refine wpdR_mv (a := (eI v103.2)) rfl rfl rfl (o_mv tk rfl (Wk.refl _)) ?_
      refine wpdR_lt H107 eB rfl rfl rfl (o_ar tk rfl rfl rfl) fun v110 H109 => ?_
      refine wpdR_z rfl rfl rfl (h_st tk hH 1 rfl ty33 (by simp) rfl rfl wr (b := (e_R11_Ram (v103.1 : R11_Ram))) (enc33.flat _) rfl (nb rfl) (c_R11_Ram ((v103.1 : R11_Ram) : R11_Ram)) rfl) fun τ hH => ⟨fun h => absurd h (by decide +kernel), ?_⟩
      refine wpdR_mv (a := (eB v110)) rfl rfl rfl (o_as tk rfl (Wk.refl _)) ?_
      refine wpdR_nil ?_
      refine awp_ret ?_
      obtain rfl := oi H109
      exact ⟨_, (.tup [(e_R11_Ram ((v103.1 : R11_Ram) : R11_Ram)), (eB v110)]), (ares_2 (ares_cell hH 1 rfl rfl rfl) rfl), (wk_tup (.cons wr (.cons wr .nil))), .of_eq (by simp only [cutAV, cutL, enc33.cut _ _ _, (enc_b td4 sz4).cut _ _ _]), ((hH.noT.drop n105).drop n2)⟩
     ·refine awp_skip (sr rfl (m_ (e_R11_Ram x1) rfl (o_ld tk rfl rfl) ?_))
      refine wpo_z rfl rfl (h_st tk hH 0 rfl ty33 (by simp) rfl rfl wr (b := (e_R11_Ram x1)) (enc33.flat _) rfl (nb rfl) (c_R11_Ram (x1 : R11_Ram)) rfl) fun τ hH => ?_
      refine ma tk (eB true) rfl rfl (wpo_nil (awp_ret ?_))
      obtain rfl := oi H101
      exact ⟨_, (.tup [(e_R11_Ram (x1 : R11_Ram)), (eB true)]), (ares_2 (ares_cell hH 0 rfl rfl rfl) rfl), (wk_tup (.cons wr (.cons wr .nil))), .of_eq (by simp only [cutAV, cutL, enc33.cut _ _ _, (enc_b td4 sz4).cut _ _ _]), (hH.noT.drop n2)⟩
end Go.Proofs.YtggeboakilalhaaDoor
