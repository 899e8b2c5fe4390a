/- WHAT IS USED IS LAST TO GO: a node that was touched is ahead of all others of its list, which stay in their order; if there are others, it is not the oldest. (part 5 of 7) -/
import Derived.Test.YtobbifgmjkgkfaaDoorKListsTouch4
namespace Go.Proofs.YtobbifgmjkgkfaaDoor
open Go Go.Va
set_option linter.unusedVariables false
set_option linter.unusedSimpArgs false
set_option maxRecDepth 20000
set_option maxHeartbeats 2000000
theorem butterylaw09_works_ok  {r : Bool} (H : butterylaw09_works = some r) (σ : St)  (hg : σ.gl = gls) : ACall Tryd.prog 23 [] σ (fun a τ => a = eB r ∧ τ = σ) := by
  unfold butterylaw09_works at H
  refine ACall.pure (acall_start tk Tryd.func23 (by decide) rfl (Nat.le_of_ble_eq_true rfl) ?_)
  have hH := Holds.init σ
  refine awp_seq ?_
  refine awp_region rfl ?_
  refine wpo_mv (a := (eB false)) rfl rfl rfl (o_as tk rfl (Wk.refl _)) ?_
  refine wpo_nil ?_
  refine awp_seq ?_
  refine awp_region rfl ?_
  obtain ⟨v2, hvv2, H1⟩ := Option.bind_eq_some_iff.1 H
  rcases hz6 : v2.1 with _ | c3
  · rw [hz6, Option.elim_none] at H1
    refine wpo_a (av := fun _ => .tup [.nilp, (eErr v2.2)]) rfl rfl rfl (h_callnb0 hH hz6 rfl rfl (.cons (.of_eq rfl) (.cons (.of_eq rfl) .nil)) (lists_New_ok hvv2 _)) fun _ τ hH => ?_
    refine wpo_mv (a := (.tup [.nilp, (eErr v2.2)])) rfl rfl rfl (o_mv tk rfl (Wk.refl _)) ?_
    refine wpo_mv (a := .nilp) rfl rfl rfl (o_ext tk rfl rfl) ?_
    refine wpo_mv (a := (eErr v2.2)) rfl rfl rfl (o_ext tk rfl rfl) ?_
    refine wpo_mv (a := .nilp) rfl rfl rfl (o_as tk rfl (Wk.refl _)) ?_
    refine wpo_mv (a := (eErr v2.2)) rfl rfl rfl (o_as tk rfl (Wk.refl _)) ?_
    refine wpo_nil ?_
    refine awp_seq ?_
    refine awp_region rfl ?_
    obtain ⟨v8, hvv8, H7⟩ := Option.bind_eq_some_iff.1 H1
    rcases hz12 : v8.1 with _ | c9
    · rw [hz12, Option.elim_none] at H7
      refine wpo_a (av := fun _ => .tup [.nilp, (eErr v8.2)]) rfl rfl rfl (h_callnb0 hH hz12 rfl rfl (.cons (.of_eq rfl) (.cons (.of_eq rfl) .nil)) (lists_New_ok hvv8 _)) fun _ τ hH => ?_
      refine wpo_mv (a := (.tup [.nilp, (eErr v8.2)])) rfl rfl rfl (o_mv tk rfl (Wk.refl _)) ?_
      refine wpo_mv (a := .nilp) rfl rfl rfl (o_ext tk rfl rfl) ?_
      refine wpo_mv (a := (eErr v8.2)) rfl rfl rfl (o_ext tk rfl rfl) ?_
      refine wpo_mv (a := .nilp) rfl rfl rfl (o_as tk rfl (Wk.refl _)) ?_
      refine wpo_mv (a := (eErr v8.2)) rfl rfl rfl (o_as tk rfl (Wk.refl _)) ?_
      refine wpo_nil ?_
      refine awp_seq ?_
      refine awp_seq ?_
      refine awp_region rfl ?_
      refine wpo_mv (a := .nilp) rfl rfl rfl (o_mv tk rfl (Wk.refl _)) ?_
      refine wpo_mv (a := (eB true)) rfl rfl rfl (o_c tk false rfl (fun _ => rfl)) ?_
      refine wpo_mv (a := (eB true)) rfl rfl rfl (o_mv tk rfl (Wk.refl _)) ?_
      refine wpo_skip rfl rfl rfl ?_
      refine wpo_skip rfl rfl rfl ?_
      refine wpo_mv (a := (eB true)) rfl rfl rfl (o_pick_t tk rfl rfl (Wk.refl _)) ?_
      refine wpo_nil ?_
      refine awp_true rfl ?_
      refine awp_seq ?_
      refine awp_region rfl ?_
      refine wpo_mv (a := (eB false)) rfl rfl rfl (o_as tk rfl (Wk.refl _)) ?_
      refine wpo_nil ?_
      refine awp_ret ?_
      obtain rfl := Option.some.inj H7
      exact ⟨_, (eB false), rfl, (.of_eq rfl), .of_eq ((enc_b td4 sz4).cut _ _ _), hH.noT⟩
    · rw [hz12, Option.elim_some] at H7
      refine wpo_a (av := fun id => .tup [.ref id 0, (eErr v8.2)]) rfl rfl rfl (h_callnb1 hH hz12 rfl rfl (.cons (.of_eq rfl) (.cons (.of_eq rfl) .nil)) (lists_New_ok hvv8 _)) fun id10 τ ⟨hH, n11⟩ => ?_
      obtain ⟨id10_nodes, h_id10_nodes⟩ : ∃ x, x = id10 + 1 := ⟨_, rfl⟩
      obtain ⟨id10_first_, h_id10_first_⟩ : ∃ x, x = id10 + 2 := ⟨_, rfl⟩
      obtain ⟨id10_last_, h_id10_last_⟩ : ∃ x, x = id10 + 3 := ⟨_, rfl⟩
      obtain ⟨id10_count, h_id10_count⟩ : ∃ x, x = id10 + 4 := ⟨_, rfl⟩
      have hH : Holds σ [(id10, [(.vec id10_nodes 4 (c9.nodes).length), (.vec id10_first_ 1 (c9.first_).length), (.vec id10_last_ 1 (c9.last_).length), (.vec id10_count 1 (c9.count).length), (eI c9.free), (eI c9.clock)]), (id10_nodes, (cL e_lists_link c9.nodes)), (id10_first_, (cL eI c9.first_)), (id10_last_, (cL eI c9.last_)), (id10_count, (cL eI c9.count))] [] τ := by rw [h_id10_nodes, h_id10_first_, h_id10_last_, h_id10_count]; exact hH
      have n11_1 : σ.objs.length ≤ id10_nodes := by omega
      have n11_2 : σ.objs.length ≤ id10_first_ := by omega
      have n11_3 : σ.objs.length ≤ id10_last_ := by omega
      have n11_4 : σ.objs.length ≤ id10_count := by omega
      refine wpo_mv (a := (.tup [(.ref id10 0), (eErr v8.2)])) rfl rfl rfl (o_mv tk rfl (Wk.refl _)) ?_
      refine wpo_mv (a := (.ref id10 0)) rfl rfl rfl (o_ext tk rfl rfl) ?_
      refine wpo_mv (a := (eErr v8.2)) rfl rfl rfl (o_ext tk rfl rfl) ?_
      refine wpo_mv (a := (.ref id10 0)) rfl rfl rfl (o_as tk rfl (Wk.refl _)) ?_
      refine wpo_mv (a := (eErr v8.2)) rfl rfl rfl (o_as tk rfl (Wk.refl _)) ?_
      refine wpo_nil ?_
      refine awp_seq ?_
      refine awp_seq ?_
      refine awp_region rfl ?_
      refine wpo_mv (a := .nilp) rfl rfl rfl (o_mv tk rfl (Wk.refl _)) ?_
      refine wpo_mv (a := (eB true)) rfl rfl rfl (o_c tk false rfl (fun _ => rfl)) ?_
      refine wpo_mv (a := (eB true)) rfl rfl rfl (o_mv tk rfl (Wk.refl _)) ?_
      refine wpo_skip rfl rfl rfl ?_
      refine wpo_skip rfl rfl rfl ?_
      refine wpo_mv (a := (eB true)) rfl rfl rfl (o_pick_t tk rfl rfl (Wk.refl _)) ?_
      refine wpo_nil ?_
      refine awp_true rfl ?_
      refine awp_seq ?_
      refine awp_region rfl ?_
      refine wpo_mv (a := (eB false)) rfl rfl rfl (o_as tk rfl (Wk.refl _)) ?_
      refine wpo_nil ?_
      refine awp_ret ?_
      obtain rfl := Option.some.inj H7
      exact ⟨_, (eB false), rfl, (.of_eq rfl), .of_eq ((enc_b td4 sz4).cut _ _ _), (((((hH.noT.drop n11).drop n11_1).drop n11_2).drop n11_3).drop n11_4)⟩
  · rw [hz6, Option.elim_some] at H1
    refine wpo_a (av := fun id => .tup [.ref id 0, (eErr v2.2)]) rfl rfl rfl (h_callnb1 hH hz6 rfl rfl (.cons (.of_eq rfl) (.cons (.of_eq rfl) .nil)) (lists_New_ok hvv2 _)) fun id4 τ ⟨hH, n5⟩ => ?_
    obtain ⟨id4_nodes, h_id4_nodes⟩ : ∃ x, x = id4 + 1 := ⟨_, rfl⟩
    obtain ⟨id4_first_, h_id4_first_⟩ : ∃ x, x = id4 + 2 := ⟨_, rfl⟩
    obtain ⟨id4_last_, h_id4_last_⟩ : ∃ x, x = id4 + 3 := ⟨_, rfl⟩
    obtain ⟨id4_count, h_id4_count⟩ : ∃ x, x = id4 + 4 := ⟨_, rfl⟩
    have hH : Holds σ [(id4, [(.vec id4_nodes 4 (c3.nodes).length), (.vec id4_first_ 1 (c3.first_).length), (.vec id4_last_ 1 (c3.last_).length), (.vec id4_count 1 (c3.count).length), (eI c3.free), (eI c3.clock)]), (id4_nodes, (cL e_lists_link c3.nodes)), (id4_first_, (cL eI c3.first_)), (id4_last_, (cL eI c3.last_)), (id4_count, (cL eI c3.count))] [] τ := by rw [h_id4_nodes, h_id4_first_, h_id4_last_, h_id4_count]; exact hH
    have n5_1 : σ.objs.length ≤ id4_nodes := by omega
    have n5_2 : σ.objs.length ≤ id4_first_ := by omega
    have n5_3 : σ.objs.length ≤ id4_last_ := by omega
    have n5_4 : σ.objs.length ≤ id4_count := by omega
    refine wpo_mv (a := (.tup [(.ref id4 0), (eErr v2.2)])) rfl rfl rfl (o_mv tk rfl (Wk.refl _)) ?_
    refine wpo_mv (a := (.ref id4 0)) rfl rfl rfl (o_ext tk rfl rfl) ?_
    refine wpo_mv (a := (eErr v2.2)) rfl rfl rfl (o_ext tk rfl rfl) ?_
    refine wpo_mv (a := (.ref id4 0)) rfl rfl rfl (o_as tk rfl (Wk.refl _)) ?_
    refine wpo_mv (a := (eErr v2.2)) rfl rfl rfl (o_as tk rfl (Wk.refl _)) ?_
    refine wpo_nil ?_
    refine awp_seq ?_
    refine awp_region rfl ?_
    obtain ⟨v14, hvv14, H13⟩ := Option.bind_eq_some_iff.1 H1
    rcases hz18 : v14.1 with _ | c15
    · rw [hz18, Option.elim_none] at H13
      refine wpo_a (av := fun _ => .tup [.nilp, (eErr v14.2)]) rfl rfl rfl (h_callnb0 hH hz18 rfl rfl (.cons (.of_eq rfl) (.cons (.of_eq rfl) .nil)) (lists_New_ok hvv14 _)) fun _ τ hH => ?_
      refine wpo_mv (a := (.tup [.nilp, (eErr v14.2)])) rfl rfl rfl (o_mv tk rfl (Wk.refl _)) ?_
      refine wpo_mv (a := .nilp) rfl rfl rfl (o_ext tk rfl rfl) ?_
      refine wpo_mv (a := (eErr v14.2)) rfl rfl rfl (o_ext tk rfl rfl) ?_
      refine wpo_mv (a := .nilp) rfl rfl rfl (o_as tk rfl (Wk.refl _)) ?_
      refine wpo_mv (a := (eErr v14.2)) rfl rfl rfl (o_as tk rfl (Wk.refl _)) ?_
      refine wpo_nil ?_
      refine awp_seq ?_
      refine awp_seq ?_
      refine awp_region rfl ?_
      refine wpo_mv (a := (.ref id4 0)) rfl rfl rfl (o_mv tk rfl (Wk.refl _)) ?_
      refine wpo_mv (a := (eB false)) rfl rfl rfl (o_c tk false rfl (fun _ => rfl)) ?_
      refine wpo_mv (a := (eB false)) rfl rfl rfl (o_mv tk rfl (Wk.refl _)) ?_
      refine wpo_mv (a := (eErr v2.2)) rfl rfl rfl (o_mv tk rfl (Wk.refl _)) ?_
      refine wpo_lt H13 eB rfl rfl rfl (o_err_neq tk rfl rfl rfl) fun v20 H19 => ?_
      refine wpo_mv (a := (eB v20)) rfl rfl rfl (o_pick_f tk rfl rfl (Wk.refl _)) ?_
      refine wpo_nil ?_
      refine awp_if H19 rfl (fun H21 => ?_) (fun H21 => ?_)
      · refine awp_seq ?_
        refine awp_region rfl ?_
        refine wpo_mv (a := (eB false)) rfl rfl rfl (o_as tk rfl (Wk.refl _)) ?_
        refine wpo_nil ?_
        refine awp_ret ?_
        obtain rfl := Option.some.inj H21
        exact ⟨_, (eB false), rfl, (.of_eq rfl), .of_eq ((enc_b td4 sz4).cut _ _ _), (((((hH.noT.drop n5).drop n5_1).drop n5_2).drop n5_3).drop n5_4)⟩
      · refine awp_skip ?_
        refine awp_seq ?_
        refine awp_region rfl ?_
        refine wpo_mv (a := (.ref id4 0)) rfl rfl rfl (o_mv tk rfl (Wk.refl _)) ?_
        refine wpo_cb H21 (fun x _ => .tup [eI x.1, eErr x.2.1]) rfl rfl rfl (fun v23 hv => h_call1 hH [(0, (id4, [(.vec id4_nodes 4 (v23.2.2.nodes).length), (.vec id4_first_ 1 (v23.2.2.first_).length), (.vec id4_last_ 1 (v23.2.2.last_).length), (.vec id4_count 1 (v23.2.2.count).length), (eI v23.2.2.free), (eI v23.2.2.clock)])), (1, (id4_nodes, (cL e_lists_link v23.2.2.nodes))), (2, (id4_first_, (cL eI v23.2.2.first_))), (3, (id4_last_, (cL eI v23.2.2.last_))), (4, (id4_count, (cL eI v23.2.2.count)))] ⟨⟨_, rfl⟩, ⟨⟨_, rfl⟩, ⟨⟨_, rfl⟩, ⟨⟨_, rfl⟩, ⟨⟨_, rfl⟩, trivial⟩⟩⟩⟩⟩ rfl rfl (.cons (.of_eq rfl) (.cons (.of_eq rfl) .nil)) (lists_Lists_Add_ok hv _ (hH.at_ 0 rfl) (hH.at_ 1 rfl) (hH.at_ 2 rfl) (hH.at_ 3 rfl) (hH.at_ 4 rfl) (hH.pw [0, 1, 2, 3, 4] rfl (by decide)))) fun v23 _ τ hv23 H22 (hH : Holds σ [(id4, [(.vec id4_nodes 4 (v23.2.2.nodes).length), (.vec id4_first_ 1 (v23.2.2.first_).length), (.vec id4_last_ 1 (v23.2.2.last_).length), (.vec id4_count 1 (v23.2.2.count).length), (eI v23.2.2.free), (eI v23.2.2.clock)]), (id4_nodes, (cL e_lists_link v23.2.2.nodes)), (id4_first_, (cL eI v23.2.2.first_)), (id4_last_, (cL eI v23.2.2.last_)), (id4_count, (cL eI v23.2.2.count))] [] τ) => ?_
        refine wpo_mv (a := (.tup [(eI v23.1), (eErr v23.2.1)])) rfl rfl rfl (o_mv tk rfl (Wk.refl _)) ?_
        refine wpo_mv (a := (eI v23.1)) rfl rfl rfl (o_ext tk rfl rfl) ?_
        refine wpo_mv (a := (eErr v23.2.1)) rfl rfl rfl (o_ext tk rfl rfl) ?_
        refine wpo_mv (a := (eI v23.1)) rfl rfl rfl (o_as tk rfl (Wk.refl _)) ?_
        refine wpo_mv (a := (eErr v23.2.1)) rfl rfl rfl (o_as tk rfl (Wk.refl _)) ?_
        refine wpo_nil ?_
        refine awp_seq ?_
        refine awp_region rfl ?_
        refine wpo_mv (a := (.ref id4 0)) rfl rfl rfl (o_mv tk rfl (Wk.refl _)) ?_
        refine wpo_cb H22 (fun x _ => .tup [eI x.1, eErr x.2.1]) rfl rfl rfl (fun v25 hv => h_call1 hH [(0, (id4, [(.vec id4_nodes 4 (v25.2.2.nodes).length), (.vec id4_first_ 1 (v25.2.2.first_).length), (.vec id4_last_ 1 (v25.2.2.last_).length), (.vec id4_count 1 (v25.2.2.count).length), (eI v25.2.2.free), (eI v25.2.2.clock)])), (1, (id4_nodes, (cL e_lists_link v25.2.2.nodes))), (2, (id4_first_, (cL eI v25.2.2.first_))), (3, (id4_last_, (cL eI v25.2.2.last_))), (4, (id4_count, (cL eI v25.2.2.count)))] ⟨⟨_, rfl⟩, ⟨⟨_, rfl⟩, ⟨⟨_, rfl⟩, ⟨⟨_, rfl⟩, ⟨⟨_, rfl⟩, trivial⟩⟩⟩⟩⟩ rfl rfl (.cons (.of_eq rfl) (.cons (.of_eq rfl) .nil)) (lists_Lists_Add_ok hv _ (hH.at_ 0 rfl) (hH.at_ 1 rfl) (hH.at_ 2 rfl) (hH.at_ 3 rfl) (hH.at_ 4 rfl) (hH.pw [0, 1, 2, 3, 4] rfl (by decide)))) fun v25 _ τ hv25 H24 (hH : Holds σ [(id4, [(.vec id4_nodes 4 (v25.2.2.nodes).length), (.vec id4_first_ 1 (v25.2.2.first_).length), (.vec id4_last_ 1 (v25.2.2.last_).length), (.vec id4_count 1 (v25.2.2.count).length), (eI v25.2.2.free), (eI v25.2.2.clock)]), (id4_nodes, (cL e_lists_link v25.2.2.nodes)), (id4_first_, (cL eI v25.2.2.first_)), (id4_last_, (cL eI v25.2.2.last_)), (id4_count, (cL eI v25.2.2.count))] [] τ) => ?_
        refine wpo_mv (a := (.tup [(eI v25.1), (eErr v25.2.1)])) rfl rfl rfl (o_mv tk rfl (Wk.refl _)) ?_
        refine wpo_mv (a := (eI v25.1)) rfl rfl rfl (o_ext tk rfl rfl) ?_
        refine wpo_mv (a := (eErr v25.2.1)) rfl rfl rfl (o_ext tk rfl rfl) ?_
        refine wpo_mv (a := (eI v25.1)) rfl rfl rfl (o_as tk rfl (Wk.refl _)) ?_
        refine wpo_mv (a := (eErr v25.2.1)) rfl rfl rfl (o_as tk rfl (Wk.refl _)) ?_
        refine wpo_nil ?_
        refine awp_seq ?_
        refine awp_region rfl ?_
        refine wpo_mv (a := (.ref id4 0)) rfl rfl rfl (o_mv tk rfl (Wk.refl _)) ?_
        refine wpo_mv (a := (eI v23.1)) rfl rfl rfl (o_mv tk rfl (Wk.refl _)) ?_
        refine wpo_cb H24 (fun x _ => eErr x.1) rfl rfl rfl (fun v27 hv => h_call1 hH [(0, (id4, [(.vec id4_nodes 4 (v27.2.nodes).length), (.vec id4_first_ 1 (v27.2.first_).length), (.vec id4_last_ 1 (v27.2.last_).length), (.vec id4_count 1 (v27.2.count).length), (eI v27.2.free), (eI v27.2.clock)])), (1, (id4_nodes, (cL e_lists_link v27.2.nodes))), (2, (id4_first_, (cL eI v27.2.first_))), (3, (id4_last_, (cL eI v27.2.last_))), (4, (id4_count, (cL eI v27.2.count)))] ⟨⟨_, rfl⟩, ⟨⟨_, rfl⟩, ⟨⟨_, rfl⟩, ⟨⟨_, rfl⟩, ⟨⟨_, rfl⟩, trivial⟩⟩⟩⟩⟩ rfl rfl (.cons (.of_eq rfl) (.cons (.of_eq rfl) .nil)) (lists_Lists_Touch_ok hv _ (hH.at_ 0 rfl) (hH.at_ 1 rfl) (hH.at_ 2 rfl) (hH.at_ 3 rfl) (hH.at_ 4 rfl) (hH.pw [0, 1, 2, 3, 4] rfl (by decide)))) fun v27 _ τ hv27 H26 (hH : Holds σ [(id4, [(.vec id4_nodes 4 (v27.2.nodes).length), (.vec id4_first_ 1 (v27.2.first_).length), (.vec id4_last_ 1 (v27.2.last_).length), (.vec id4_count 1 (v27.2.count).length), (eI v27.2.free), (eI v27.2.clock)]), (id4_nodes, (cL e_lists_link v27.2.nodes)), (id4_first_, (cL eI v27.2.first_)), (id4_last_, (cL eI v27.2.last_)), (id4_count, (cL eI v27.2.count))] [] τ) => ?_
        refine wpo_mv (a := (eErr v27.1)) rfl rfl rfl (o_as tk rfl (Wk.refl _)) ?_
        refine wpo_nil ?_
        refine awp_seq ?_
        refine awp_region rfl ?_
        refine wpo_mv (a := (.ref id4 0)) rfl rfl rfl (o_mv tk rfl (Wk.refl _)) ?_
        refine wpo_cb H26 (fun x _ => eErr x.1) rfl rfl rfl (fun v29 hv => h_call1 hH [(0, (id4, [(.vec id4_nodes 4 (v29.2.nodes).length), (.vec id4_first_ 1 (v29.2.first_).length), (.vec id4_last_ 1 (v29.2.last_).length), (.vec id4_count 1 (v29.2.count).length), (eI v29.2.free), (eI v29.2.clock)])), (1, (id4_nodes, (cL e_lists_link v29.2.nodes))), (2, (id4_first_, (cL eI v29.2.first_))), (3, (id4_last_, (cL eI v29.2.last_))), (4, (id4_count, (cL eI v29.2.count)))] ⟨⟨_, rfl⟩, ⟨⟨_, rfl⟩, ⟨⟨_, rfl⟩, ⟨⟨_, rfl⟩, ⟨⟨_, rfl⟩, trivial⟩⟩⟩⟩⟩ rfl rfl (.cons (.of_eq rfl) (.cons (.of_eq rfl) .nil)) (lists_Lists_Drop_ok hv _ (hH.at_ 0 rfl) (hH.at_ 1 rfl) (hH.at_ 2 rfl) (hH.at_ 3 rfl) (hH.at_ 4 rfl) (hH.pw [0, 1, 2, 3, 4] rfl (by decide)))) fun v29 _ τ hv29 H28 (hH : Holds σ [(id4, [(.vec id4_nodes 4 (v29.2.nodes).length), (.vec id4_first_ 1 (v29.2.first_).length), (.vec id4_last_ 1 (v29.2.last_).length), (.vec id4_count 1 (v29.2.count).length), (eI v29.2.free), (eI v29.2.clock)]), (id4_nodes, (cL e_lists_link v29.2.nodes)), (id4_first_, (cL eI v29.2.first_)), (id4_last_, (cL eI v29.2.last_)), (id4_count, (cL eI v29.2.count))] [] τ) => ?_
        refine wpo_mv (a := (eErr v29.1)) rfl rfl rfl (o_as tk rfl (Wk.refl _)) ?_
        refine wpo_nil ?_
        refine awp_seq ?_
        refine awp_region rfl ?_
        refine wpo_mv (a := (eErr v14.2)) rfl rfl rfl (o_mv tk rfl (Wk.refl _)) ?_
        refine wpo_bdr H28 eI rfl rfl rfl (fun v31 hv => h_callr rfl rfl (.cons (.of_eq rfl) .nil) (trouble_Of_ok hv _ (hH.gl.trans hg))) fun v31 hv31 H30 => ?_
        refine wpo_lt H30 eB rfl rfl rfl (o_ar tk rfl rfl rfl) fun v33 H32 => ?_
        refine wpo_mv (a := (eB v33)) rfl rfl rfl (o_mv tk rfl (Wk.refl _)) ?_
        refine if_split H32 (fun hb H34 => ?_) (fun hb H34 => ?_)
        · subst hb
          refine wpo_mv (a := (eI v23.1)) rfl rfl rfl (o_mv tk rfl (Wk.refl _)) ?_
          refine wpo_lt H34 eB rfl rfl rfl (o_ar tk rfl rfl rfl) fun v36 H35 => ?_
          refine wpo_mv (a := (eB v36)) rfl rfl rfl (o_pick_t tk rfl rfl (Wk.refl _)) ?_
          refine wpo_mv (a := (eB v36)) rfl rfl rfl (o_mv tk rfl (Wk.refl _)) ?_
          refine if_split H35 (fun hb H37 => ?_) (fun hb H37 => ?_)
          · subst hb
            refine wpo_mv (a := (eI v25.1)) rfl rfl rfl (o_mv tk rfl (Wk.refl _)) ?_
            refine wpo_lt H37 eB rfl rfl rfl (o_ar tk rfl rfl rfl) fun v39 H38 => ?_
            refine wpo_mv (a := (eB v39)) rfl rfl rfl (o_pick_t tk rfl rfl (Wk.refl _)) ?_
            refine wpo_mv (a := (eB v39)) rfl rfl rfl (o_mv tk rfl (Wk.refl _)) ?_
            refine if_split H38 (fun hb H40 => ?_) (fun hb H40 => ?_)
            · subst hb
              refine wpo_mv (a := (eErr v23.2.1)) rfl rfl rfl (o_mv tk rfl (Wk.refl _)) ?_
              refine wpo_lt H40 eB rfl rfl rfl (o_err_eql tk rfl rfl rfl) fun v42 H41 => ?_
              refine wpo_mv (a := (eB v42)) rfl rfl rfl (o_pick_t tk rfl rfl (Wk.refl _)) ?_
              refine wpo_mv (a := (eB v42)) rfl rfl rfl (o_mv tk rfl (Wk.refl _)) ?_
              refine if_split H41 (fun hb H43 => ?_) (fun hb H43 => ?_)
              · subst hb
                refine wpo_mv (a := (eErr v25.2.1)) rfl rfl rfl (o_mv tk rfl (Wk.refl _)) ?_
                refine wpo_lt H43 eB rfl rfl rfl (o_err_eql tk rfl rfl rfl) fun v45 H44 => ?_
                refine wpo_mv (a := (eB v45)) rfl rfl rfl (o_pick_t tk rfl rfl (Wk.refl _)) ?_
                refine wpo_mv (a := (eB v45)) rfl rfl rfl (o_mv tk rfl (Wk.refl _)) ?_
                refine if_split H44 (fun hb H46 => ?_) (fun hb H46 => ?_)
                · subst hb
                  refine wpo_mv (a := (eErr v27.1)) rfl rfl rfl (o_mv tk rfl (Wk.refl _)) ?_
                  refine wpo_lt H46 eB rfl rfl rfl (o_err_eql tk rfl rfl rfl) fun v48 H47 => ?_
                  refine wpo_mv (a := (eB v48)) rfl rfl rfl (o_pick_t tk rfl rfl (Wk.refl _)) ?_
                  refine wpo_mv (a := (eB v48)) rfl rfl rfl (o_mv tk rfl (Wk.refl _)) ?_
                  refine if_split H47 (fun hb H49 => ?_) (fun hb H49 => ?_)
                  · subst hb
                    refine wpo_mv (a := (eErr v29.1)) rfl rfl rfl (o_mv tk rfl (Wk.refl _)) ?_
                    refine wpo_bdr H49 eI rfl rfl rfl (fun v51 hv => h_callr rfl rfl (.cons (.of_eq rfl) .nil) (trouble_Of_ok hv _ (hH.gl.trans hg))) fun v51 hv51 H50 => ?_
                    refine wpo_lt H50 eB rfl rfl rfl (o_ar tk rfl rfl rfl) fun v53 H52 => ?_
                    refine wpo_mv (a := (eB v53)) rfl rfl rfl (o_pick_t tk rfl rfl (Wk.refl _)) ?_
                    refine wpo_mv (a := (eB v53)) rfl rfl rfl (o_mv tk rfl (Wk.refl _)) ?_
                    refine if_split H52 (fun hb H54 => ?_) (fun hb H54 => ?_)
                    · subst hb
                      refine wpo_mv (a := (.ref id4 0)) rfl rfl rfl (o_mv tk rfl (Wk.refl _)) ?_
                      refine wpo_bdr H54 (eL 1 eI) rfl rfl rfl (fun v56 hv => h_callr rfl rfl (.cons (.of_eq rfl) (.cons (.of_eq rfl) .nil)) (lists_Lists_Order_ok hv _ (hH.at_ 0 rfl) (hH.at_ 1 rfl) (hH.at_ 2 rfl) (hH.at_ 3 rfl) (hH.at_ 4 rfl) (hH.pw [0, 1, 2, 3, 4] rfl (by decide)))) fun v56 hv56 H55 => ?_
                      refine wpo_mv (a := (eF 1 eI ([(0 : Int), (1 : Int)] : List Int))) rfl rfl rfl (o_c tk false rfl (fun _ => rfl)) ?_
                      refine wpo_bd H55 eB rfl rfl rfl (fun v58 hv => OpP.of_call rfl rfl (.cons (.of_eq rfl) (.cons wk_no .nil)) (butteryref02_Ints_ok hv)) fun v58 hv58 H57 => ?_
                      refine wpo_mv (a := (eB v58)) rfl rfl rfl (o_pick_t tk rfl rfl (Wk.refl _)) ?_
                      refine wpo_mv (a := (eB v58)) rfl rfl rfl (o_mv tk rfl (Wk.refl _)) ?_
                      refine if_split H57 (fun hb H59 => ?_) (fun hb H59 => ?_)
                      · subst hb
                        refine wpo_mv (a := (.ref id4 0)) rfl rfl rfl (o_mv tk rfl (Wk.refl _)) ?_
                        refine wpo_bdr H59 eI rfl rfl rfl (fun v61 hv => h_callr rfl rfl (.cons (.of_eq rfl) (.cons (.of_eq rfl) .nil)) (lists_Lists_Last_ok hv _ (hH.at_ 0 rfl) (hH.at_ 1 rfl) (hH.at_ 2 rfl) (hH.at_ 3 rfl) (hH.at_ 4 rfl) (hH.pw [0, 1, 2, 3, 4] rfl (by decide)))) fun v61 hv61 H60 => ?_
                        refine wpo_lt H60 eB rfl rfl rfl (o_ar tk rfl rfl rfl) fun v63 H62 => ?_
                        refine wpo_mv (a := (eB v63)) rfl rfl rfl (o_pick_t tk rfl rfl (Wk.refl _)) ?_
                        refine wpo_mv (a := (eB v63)) rfl rfl rfl (o_mv tk rfl (Wk.refl _)) ?_
                        refine if_split H62 (fun hb H64 => ?_) (fun hb H64 => ?_)
                        · subst hb
                          refine wpo_mv (a := (.ref id4 0)) rfl rfl rfl (o_mv tk rfl (Wk.refl _)) ?_
                          refine wpo_bdr H64 eI rfl rfl rfl (fun v66 hv => h_callr rfl rfl (.cons (.of_eq rfl) .nil) (lists_Lists_Oldest_ok hv _ (hH.at_ 0 rfl) (hH.at_ 1 rfl) (hH.at_ 2 rfl) (hH.at_ 3 rfl) (hH.at_ 4 rfl) (hH.pw [0, 1, 2, 3, 4] rfl (by decide)))) fun v66 hv66 H65 => ?_
                          refine wpo_lt H65 eB rfl rfl rfl (o_ar tk rfl rfl rfl) fun v68 H67 => ?_
                          refine wpo_mv (a := (eB v68)) rfl rfl rfl (o_pick_t tk rfl rfl (Wk.refl _)) ?_
                          refine wpo_mv (a := (eB v68)) rfl rfl rfl (o_mv tk rfl (Wk.refl _)) ?_
                          refine if_split H67 (fun hb H69 => ?_) (fun hb H69 => ?_)
                          · subst hb
                            refine wpo_mv (a := (.ref id4 0)) rfl rfl rfl (o_mv tk rfl (Wk.refl _)) ?_
                            refine wpo_bdr H69 eI rfl rfl rfl (fun v71 hv => h_callr rfl rfl (.cons (.of_eq rfl) (.cons (.of_eq rfl) .nil)) (lists_Lists_List_ok hv _ (hH.at_ 0 rfl) (hH.at_ 1 rfl) (hH.at_ 2 rfl) (hH.at_ 3 rfl) (hH.at_ 4 rfl) (hH.pw [0, 1, 2, 3, 4] rfl (by decide)))) fun v71 hv71 H70 => ?_
                            refine wpo_lt H70 eB rfl rfl rfl (o_ar tk rfl rfl rfl) fun v73 H72 => ?_
                            refine wpo_mv (a := (eB v73)) rfl rfl rfl (o_pick_t tk rfl rfl (Wk.refl _)) ?_
                            refine wpo_mv (a := (eB v73)) rfl rfl rfl (o_mv tk rfl (Wk.refl _)) ?_
                            refine if_split H72 (fun hb H74 => ?_) (fun hb H74 => ?_)
                            · subst hb
                              refine wpo_mv (a := (.ref id4 0)) rfl rfl rfl (o_mv tk rfl (Wk.refl _)) ?_
                              refine wpo_bdr H74 eI rfl rfl rfl (fun v76 hv => h_callr rfl rfl (.cons (.of_eq rfl) (.cons (.of_eq rfl) .nil)) (lists_Lists_Len_ok hv _ (hH.at_ 0 rfl) (hH.at_ 1 rfl) (hH.at_ 2 rfl) (hH.at_ 3 rfl) (hH.at_ 4 rfl) (hH.pw [0, 1, 2, 3, 4] rfl (by decide)))) fun v76 hv76 H75 => ?_
                              refine wpo_lt H75 eB rfl rfl rfl (o_ar tk rfl rfl rfl) fun v78 H77 => ?_
                              refine wpo_mv (a := (eB v78)) rfl rfl rfl (o_pick_t tk rfl rfl (Wk.refl _)) ?_
                              refine wpo_mv (a := (eB v78)) rfl rfl rfl (o_mv tk rfl (Wk.refl _)) ?_
                              refine if_split H77 (fun hb H79 => ?_) (fun hb H79 => ?_)
                              · subst hb
                                refine wpo_mv (a := (.ref id4 0)) rfl rfl rfl (o_mv tk rfl (Wk.refl _)) ?_
                                refine wpo_bdr H79 eB rfl rfl rfl (fun v81 hv => h_callr rfl rfl (.cons (.of_eq rfl) .nil) (lists_Lists_Sound_ok hv _ (hH.at_ 0 rfl) (hH.at_ 1 rfl) (hH.at_ 2 rfl) (hH.at_ 3 rfl) (hH.at_ 4 rfl) (hH.pw [0, 1, 2, 3, 4] rfl (by decide)))) fun v81 hv81 H80 => ?_
                                refine wpo_mv (a := (eB v81)) rfl rfl rfl (o_pick_t tk rfl rfl (Wk.refl _)) ?_
                                refine wpo_mv (a := (eB v81)) rfl rfl rfl (o_as tk rfl (Wk.refl _)) ?_
                                refine wpo_nil ?_
                                refine awp_ret ?_
                                obtain rfl := Option.some.inj H80
                                exact ⟨_, (eB v81), rfl, (.of_eq rfl), .of_eq ((enc_b td4 sz4).cut _ _ _), (((((hH.noT.drop n5).drop n5_1).drop n5_2).drop n5_3).drop n5_4)⟩
                              · subst hb
                                refine wpo_skip rfl rfl rfl ?_
                                refine wpo_skip rfl rfl rfl ?_
                                refine wpo_mv (a := (eB false)) rfl rfl rfl (o_pick_f tk rfl rfl (Wk.refl _)) ?_
                                refine wpo_mv (a := (eB false)) rfl rfl rfl (o_as tk rfl (Wk.refl _)) ?_
                                refine wpo_nil ?_
                                refine awp_ret ?_
                                obtain rfl := Option.some.inj H79
                                exact ⟨_, (eB false), rfl, (.of_eq rfl), .of_eq ((enc_b td4 sz4).cut _ _ _), (((((hH.noT.drop n5).drop n5_1).drop n5_2).drop n5_3).drop n5_4)⟩
                            · subst hb
                              refine wpo_skip rfl rfl rfl ?_
                              refine wpo_skip rfl rfl rfl ?_
                              refine wpo_skip rfl rfl rfl ?_
                              refine wpo_mv (a := (eB false)) rfl rfl rfl (o_pick_f tk rfl rfl (Wk.refl _)) ?_
                              refine wpo_mv (a := (eB false)) rfl rfl rfl (o_mv tk rfl (Wk.refl _)) ?_
                              refine wpo_skip rfl rfl rfl ?_
                              refine wpo_skip rfl rfl rfl ?_
                              refine wpo_mv (a := (eB false)) rfl rfl rfl (o_pick_f tk rfl rfl (Wk.refl _)) ?_
                              refine wpo_mv (a := (eB false)) rfl rfl rfl (o_as tk rfl (Wk.refl _)) ?_
                              refine wpo_nil ?_
                              refine awp_ret ?_
                              obtain rfl := Option.some.inj H74
                              exact ⟨_, (eB false), rfl, (.of_eq rfl), .of_eq ((enc_b td4 sz4).cut _ _ _), (((((hH.noT.drop n5).drop n5_1).drop n5_2).drop n5_3).drop n5_4)⟩
                          · subst hb
                            refine wpo_skip rfl rfl rfl ?_
                            refine wpo_skip rfl rfl rfl ?_
                            refine wpo_skip rfl rfl rfl ?_
                            refine wpo_mv (a := (eB false)) rfl rfl rfl (o_pick_f tk rfl rfl (Wk.refl _)) ?_
                            refine wpo_mv (a := (eB false)) rfl rfl rfl (o_mv tk rfl (Wk.refl _)) ?_
                            refine wpo_skip rfl rfl rfl ?_
                            refine wpo_skip rfl rfl rfl ?_
                            refine wpo_skip rfl rfl rfl ?_
                            refine wpo_mv (a := (eB false)) rfl rfl rfl (o_pick_f tk rfl rfl (Wk.refl _)) ?_
                            refine wpo_mv (a := (eB false)) rfl rfl rfl (o_mv tk rfl (Wk.refl _)) ?_
                            refine wpo_skip rfl rfl rfl ?_
                            refine wpo_skip rfl rfl rfl ?_
                            refine wpo_mv (a := (eB false)) rfl rfl rfl (o_pick_f tk rfl rfl (Wk.refl _)) ?_
                            refine wpo_mv (a := (eB false)) rfl rfl rfl (o_as tk rfl (Wk.refl _)) ?_
                            refine wpo_nil ?_
                            refine awp_ret ?_
                            obtain rfl := Option.some.inj H69
                            exact ⟨_, (eB false), rfl, (.of_eq rfl), .of_eq ((enc_b td4 sz4).cut _ _ _), (((((hH.noT.drop n5).drop n5_1).drop n5_2).drop n5_3).drop n5_4)⟩
                        · subst hb
                          refine wpo_skip rfl rfl rfl ?_
                          refine wpo_skip rfl rfl rfl ?_
                          refine wpo_skip rfl rfl rfl ?_
                          refine wpo_mv (a := (eB false)) rfl rfl rfl (o_pick_f tk rfl rfl (Wk.refl _)) ?_
                          refine wpo_mv (a := (eB false)) rfl rfl rfl (o_mv tk rfl (Wk.refl _)) ?_
                          refine wpo_skip rfl rfl rfl ?_
                          refine wpo_skip rfl rfl rfl ?_
                          refine wpo_skip rfl rfl rfl ?_
                          refine wpo_mv (a := (eB false)) rfl rfl rfl (o_pick_f tk rfl rfl (Wk.refl _)) ?_
                          refine wpo_mv (a := (eB false)) rfl rfl rfl (o_mv tk rfl (Wk.refl _)) ?_
                          refine wpo_skip rfl rfl rfl ?_
                          refine wpo_skip rfl rfl rfl ?_
                          refine wpo_skip rfl rfl rfl ?_
                          refine wpo_mv (a := (eB false)) rfl rfl rfl (o_pick_f tk rfl rfl (Wk.refl _)) ?_
                          refine wpo_mv (a := (eB false)) rfl rfl rfl (o_mv tk rfl (Wk.refl _)) ?_
                          refine wpo_skip rfl rfl rfl ?_
                          refine wpo_skip rfl rfl rfl ?_
                          refine wpo_mv (a := (eB false)) rfl rfl rfl (o_pick_f tk rfl rfl (Wk.refl _)) ?_
                          refine wpo_mv (a := (eB false)) rfl rfl rfl (o_as tk rfl (Wk.refl _)) ?_
                          refine wpo_nil ?_
                          refine awp_ret ?_
                          obtain rfl := Option.some.inj H64
                          exact ⟨_, (eB false), rfl, (.of_eq rfl), .of_eq ((enc_b td4 sz4).cut _ _ _), (((((hH.noT.drop n5).drop n5_1).drop n5_2).drop n5_3).drop n5_4)⟩
                      · subst hb
                        refine wpo_skip rfl rfl rfl ?_
                        refine wpo_skip rfl rfl rfl ?_
                        refine wpo_skip rfl rfl rfl ?_
                        refine wpo_mv (a := (eB false)) rfl rfl rfl (o_pick_f tk rfl rfl (Wk.refl _)) ?_
                        refine wpo_mv (a := (eB false)) rfl rfl rfl (o_mv tk rfl (Wk.refl _)) ?_
                        refine wpo_skip rfl rfl rfl ?_
                        refine wpo_skip rfl rfl rfl ?_
                        refine wpo_skip rfl rfl rfl ?_
                        refine wpo_mv (a := (eB false)) rfl rfl rfl (o_pick_f tk rfl rfl (Wk.refl _)) ?_
                        refine wpo_mv (a := (eB false)) rfl rfl rfl (o_mv tk rfl (Wk.refl _)) ?_
                        refine wpo_skip rfl rfl rfl ?_
                        refine wpo_skip rfl rfl rfl ?_
                        refine wpo_skip rfl rfl rfl ?_
                        refine wpo_mv (a := (eB false)) rfl rfl rfl (o_pick_f tk rfl rfl (Wk.refl _)) ?_
                        refine wpo_mv (a := (eB false)) rfl rfl rfl (o_mv tk rfl (Wk.refl _)) ?_
                        refine wpo_skip rfl rfl rfl ?_
                        refine wpo_skip rfl rfl rfl ?_
                        refine wpo_skip rfl rfl rfl ?_
                        refine wpo_mv (a := (eB false)) rfl rfl rfl (o_pick_f tk rfl rfl (Wk.refl _)) ?_
                        refine wpo_mv (a := (eB false)) rfl rfl rfl (o_mv tk rfl (Wk.refl _)) ?_
                        refine wpo_skip rfl rfl rfl ?_
                        refine wpo_skip rfl rfl rfl ?_
                        refine wpo_mv (a := (eB false)) rfl rfl rfl (o_pick_f tk rfl rfl (Wk.refl _)) ?_
                        refine wpo_mv (a := (eB false)) rfl rfl rfl (o_as tk rfl (Wk.refl _)) ?_
                        refine wpo_nil ?_
                        refine awp_ret ?_
                        obtain rfl := Option.some.inj H59
                        exact ⟨_, (eB false), rfl, (.of_eq rfl), .of_eq ((enc_b td4 sz4).cut _ _ _), (((((hH.noT.drop n5).drop n5_1).drop n5_2).drop n5_3).drop n5_4)⟩
                    · subst hb
                      refine wpo_skip rfl rfl rfl ?_
                      refine wpo_skip rfl rfl rfl ?_
                      refine wpo_skip rfl rfl rfl ?_
                      refine wpo_skip rfl rfl rfl ?_
                      refine wpo_mv (a := (eB false)) rfl rfl rfl (o_pick_f tk rfl rfl (Wk.refl _)) ?_
                      refine wpo_mv (a := (eB false)) rfl rfl rfl (o_mv tk rfl (Wk.refl _)) ?_
                      refine wpo_skip rfl rfl rfl ?_
                      refine wpo_skip rfl rfl rfl ?_
                      refine wpo_skip rfl rfl rfl ?_
                      refine wpo_mv (a := (eB false)) rfl rfl rfl (o_pick_f tk rfl rfl (Wk.refl _)) ?_
                      refine wpo_mv (a := (eB false)) rfl rfl rfl (o_mv tk rfl (Wk.refl _)) ?_
                      refine wpo_skip rfl rfl rfl ?_
                      refine wpo_skip rfl rfl rfl ?_
                      refine wpo_skip rfl rfl rfl ?_
                      refine wpo_mv (a := (eB false)) rfl rfl rfl (o_pick_f tk rfl rfl (Wk.refl _)) ?_
                      refine wpo_mv (a := (eB false)) rfl rfl rfl (o_mv tk rfl (Wk.refl _)) ?_
                      refine wpo_skip rfl rfl rfl ?_
                      refine wpo_skip rfl rfl rfl ?_
                      refine wpo_skip rfl rfl rfl ?_
                      refine wpo_mv (a := (eB false)) rfl rfl rfl (o_pick_f tk rfl rfl (Wk.refl _)) ?_
                      refine wpo_mv (a := (eB false)) rfl rfl rfl (o_mv tk rfl (Wk.refl _)) ?_
                      refine wpo_skip rfl rfl rfl ?_
                      refine wpo_skip rfl rfl rfl ?_
                      refine wpo_skip rfl rfl rfl ?_
                      refine wpo_mv (a := (eB false)) rfl rfl rfl (o_pick_f tk rfl rfl (Wk.refl _)) ?_
                      refine wpo_mv (a := (eB false)) rfl rfl rfl (o_mv tk rfl (Wk.refl _)) ?_
                      refine wpo_skip rfl rfl rfl ?_
                      refine wpo_skip rfl rfl rfl ?_
                      refine wpo_mv (a := (eB false)) rfl rfl rfl (o_pick_f tk rfl rfl (Wk.refl _)) ?_
                      refine wpo_mv (a := (eB false)) rfl rfl rfl (o_as tk rfl (Wk.refl _)) ?_
                      refine wpo_nil ?_
                      refine awp_ret ?_
                      obtain rfl := Option.some.inj H54
                      exact ⟨_, (eB false), rfl, (.of_eq rfl), .of_eq ((enc_b td4 sz4).cut _ _ _), (((((hH.noT.drop n5).drop n5_1).drop n5_2).drop n5_3).drop n5_4)⟩
                  · subst hb
                    refine wpo_skip rfl rfl rfl ?_
                    refine wpo_skip rfl rfl rfl ?_
                    refine wpo_skip rfl rfl rfl ?_
                    refine wpo_mv (a := (eB false)) rfl rfl rfl (o_pick_f tk rfl rfl (Wk.refl _)) ?_
                    refine wpo_mv (a := (eB false)) rfl rfl rfl (o_mv tk rfl (Wk.refl _)) ?_
                    refine wpo_skip rfl rfl rfl ?_
                    refine wpo_skip rfl rfl rfl ?_
                    refine wpo_skip rfl rfl rfl ?_
                    refine wpo_skip rfl rfl rfl ?_
                    refine wpo_mv (a := (eB false)) rfl rfl rfl (o_pick_f tk rfl rfl (Wk.refl _)) ?_
                    refine wpo_mv (a := (eB false)) rfl rfl rfl (o_mv tk rfl (Wk.refl _)) ?_
                    refine wpo_skip rfl rfl rfl ?_
                    refine wpo_skip rfl rfl rfl ?_
                    refine wpo_skip rfl rfl rfl ?_
                    refine wpo_mv (a := (eB false)) rfl rfl rfl (o_pick_f tk rfl rfl (Wk.refl _)) ?_
                    refine wpo_mv (a := (eB false)) rfl rfl rfl (o_mv tk rfl (Wk.refl _)) ?_
                    refine wpo_skip rfl rfl rfl ?_
                    refine wpo_skip rfl rfl rfl ?_
                    refine wpo_skip rfl rfl rfl ?_
                    refine wpo_mv (a := (eB false)) rfl rfl rfl (o_pick_f tk rfl rfl (Wk.refl _)) ?_
                    refine wpo_mv (a := (eB false)) rfl rfl rfl (o_mv tk rfl (Wk.refl _)) ?_
                    refine wpo_skip rfl rfl rfl ?_
                    refine wpo_skip rfl rfl rfl ?_
                    refine wpo_skip rfl rfl rfl ?_
                    refine wpo_mv (a := (eB false)) rfl rfl rfl (o_pick_f tk rfl rfl (Wk.refl _)) ?_
                    refine wpo_mv (a := (eB false)) rfl rfl rfl (o_mv tk rfl (Wk.refl _)) ?_
                    refine wpo_skip rfl rfl rfl ?_
                    refine wpo_skip rfl rfl rfl ?_
                    refine wpo_skip rfl rfl rfl ?_
                    refine wpo_mv (a := (eB false)) rfl rfl rfl (o_pick_f tk rfl rfl (Wk.refl _)) ?_
                    refine wpo_mv (a := (eB false)) rfl rfl rfl (o_mv tk rfl (Wk.refl _)) ?_
                    refine wpo_skip rfl rfl rfl ?_
                    refine wpo_skip rfl rfl rfl ?_
                    refine wpo_mv (a := (eB false)) rfl rfl rfl (o_pick_f tk rfl rfl (Wk.refl _)) ?_
                    refine wpo_mv (a := (eB false)) rfl rfl rfl (o_as tk rfl (Wk.refl _)) ?_
                    refine wpo_nil ?_
                    refine awp_ret ?_
                    obtain rfl := Option.some.inj H49
                    exact ⟨_, (eB false), rfl, (.of_eq rfl), .of_eq ((enc_b td4 sz4).cut _ _ _), (((((hH.noT.drop n5).drop n5_1).drop n5_2).drop n5_3).drop n5_4)⟩
                · subst hb
                  refine wpo_skip rfl rfl rfl ?_
                  refine wpo_skip rfl rfl rfl ?_
                  refine wpo_mv (a := (eB false)) rfl rfl rfl (o_pick_f tk rfl rfl (Wk.refl _)) ?_
                  refine wpo_mv (a := (eB false)) rfl rfl rfl (o_mv tk rfl (Wk.refl _)) ?_
                  refine wpo_skip rfl rfl rfl ?_
                  refine wpo_skip rfl rfl rfl ?_
                  refine wpo_skip rfl rfl rfl ?_
                  refine wpo_mv (a := (eB false)) rfl rfl rfl (o_pick_f tk rfl rfl (Wk.refl _)) ?_
                  refine wpo_mv (a := (eB false)) rfl rfl rfl (o_mv tk rfl (Wk.refl _)) ?_
                  refine wpo_skip rfl rfl rfl ?_
                  refine wpo_skip rfl rfl rfl ?_
                  refine wpo_skip rfl rfl rfl ?_
                  refine wpo_skip rfl rfl rfl ?_
                  refine wpo_mv (a := (eB false)) rfl rfl rfl (o_pick_f tk rfl rfl (Wk.refl _)) ?_
                  refine wpo_mv (a := (eB false)) rfl rfl rfl (o_mv tk rfl (Wk.refl _)) ?_
                  refine wpo_skip rfl rfl rfl ?_
                  refine wpo_skip rfl rfl rfl ?_
                  refine wpo_skip rfl rfl rfl ?_
                  refine wpo_mv (a := (eB false)) rfl rfl rfl (o_pick_f tk rfl rfl (Wk.refl _)) ?_
                  refine wpo_mv (a := (eB false)) rfl rfl rfl (o_mv tk rfl (Wk.refl _)) ?_
                  refine wpo_skip rfl rfl rfl ?_
                  refine wpo_skip rfl rfl rfl ?_
                  refine wpo_skip rfl rfl rfl ?_
                  refine wpo_mv (a := (eB false)) rfl rfl rfl (o_pick_f tk rfl rfl (Wk.refl _)) ?_
                  refine wpo_mv (a := (eB false)) rfl rfl rfl (o_mv tk rfl (Wk.refl _)) ?_
                  refine wpo_skip rfl rfl rfl ?_
                  refine wpo_skip rfl rfl rfl ?_
                  refine wpo_skip rfl rfl rfl ?_
                  refine wpo_mv (a := (eB false)) rfl rfl rfl (o_pick_f tk rfl rfl (Wk.refl _)) ?_
                  refine wpo_mv (a := (eB false)) rfl rfl rfl (o_mv tk rfl (Wk.refl _)) ?_
                  refine wpo_skip rfl rfl rfl ?_
                  refine wpo_skip rfl rfl rfl ?_
                  refine wpo_skip rfl rfl rfl ?_
                  refine wpo_mv (a := (eB false)) rfl rfl rfl (o_pick_f tk rfl rfl (Wk.refl _)) ?_
                  refine wpo_mv (a := (eB false)) rfl rfl rfl (o_mv tk rfl (Wk.refl _)) ?_
                  refine wpo_skip rfl rfl rfl ?_
                  refine wpo_skip rfl rfl rfl ?_
                  refine wpo_mv (a := (eB false)) rfl rfl rfl (o_pick_f tk rfl rfl (Wk.refl _)) ?_
                  refine wpo_mv (a := (eB false)) rfl rfl rfl (o_as tk rfl (Wk.refl _)) ?_
                  refine wpo_nil ?_
                  refine awp_ret ?_
                  obtain rfl := Option.some.inj H46
                  exact ⟨_, (eB false), rfl, (.of_eq rfl), .of_eq ((enc_b td4 sz4).cut _ _ _), (((((hH.noT.drop n5).drop n5_1).drop n5_2).drop n5_3).drop n5_4)⟩
              · subst hb
                refine wpo_skip rfl rfl rfl ?_
                refine wpo_skip rfl rfl rfl ?_
                refine wpo_mv (a := (eB false)) rfl rfl rfl (o_pick_f tk rfl rfl (Wk.refl _)) ?_
                refine wpo_mv (a := (eB false)) rfl rfl rfl (o_mv tk rfl (Wk.refl _)) ?_
                refine wpo_skip rfl rfl rfl ?_
                refine wpo_skip rfl rfl rfl ?_
                refine wpo_mv (a := (eB false)) rfl rfl rfl (o_pick_f tk rfl rfl (Wk.refl _)) ?_
                refine wpo_mv (a := (eB false)) rfl rfl rfl (o_mv tk rfl (Wk.refl _)) ?_
                refine wpo_skip rfl rfl rfl ?_
                refine wpo_skip rfl rfl rfl ?_
                refine wpo_skip rfl rfl rfl ?_
                refine wpo_mv (a := (eB false)) rfl rfl rfl (o_pick_f tk rfl rfl (Wk.refl _)) ?_
                refine wpo_mv (a := (eB false)) rfl rfl rfl (o_mv tk rfl (Wk.refl _)) ?_
                refine wpo_skip rfl rfl rfl ?_
                refine wpo_skip rfl rfl rfl ?_
                refine wpo_skip rfl rfl rfl ?_
                refine wpo_skip rfl rfl rfl ?_
                refine wpo_mv (a := (eB false)) rfl rfl rfl (o_pick_f tk rfl rfl (Wk.refl _)) ?_
                refine wpo_mv (a := (eB false)) rfl rfl rfl (o_mv tk rfl (Wk.refl _)) ?_
                refine wpo_skip rfl rfl rfl ?_
                refine wpo_skip rfl rfl rfl ?_
                refine wpo_skip rfl rfl rfl ?_
                refine wpo_mv (a := (eB false)) rfl rfl rfl (o_pick_f tk rfl rfl (Wk.refl _)) ?_
                refine wpo_mv (a := (eB false)) rfl rfl rfl (o_mv tk rfl (Wk.refl _)) ?_
                refine wpo_skip rfl rfl rfl ?_
                refine wpo_skip rfl rfl rfl ?_
                refine wpo_skip rfl rfl rfl ?_
                refine wpo_mv (a := (eB false)) rfl rfl rfl (o_pick_f tk rfl rfl (Wk.refl _)) ?_
                refine wpo_mv (a := (eB false)) rfl rfl rfl (o_mv tk rfl (Wk.refl _)) ?_
                refine wpo_skip rfl rfl rfl ?_
                refine wpo_skip rfl rfl rfl ?_
                refine wpo_skip rfl rfl rfl ?_
                refine wpo_mv (a := (eB false)) rfl rfl rfl (o_pick_f tk rfl rfl (Wk.refl _)) ?_
                refine wpo_mv (a := (eB false)) rfl rfl rfl (o_mv tk rfl (Wk.refl _)) ?_
                refine wpo_skip rfl rfl rfl ?_
                refine wpo_skip rfl rfl rfl ?_
                refine wpo_skip rfl rfl rfl ?_
                refine wpo_mv (a := (eB false)) rfl rfl rfl (o_pick_f tk rfl rfl (Wk.refl _)) ?_
                refine wpo_mv (a := (eB false)) rfl rfl rfl (o_mv tk rfl (Wk.refl _)) ?_
                refine wpo_skip rfl rfl rfl ?_
                refine wpo_skip rfl rfl rfl ?_
                refine wpo_mv (a := (eB false)) rfl rfl rfl (o_pick_f tk rfl rfl (Wk.refl _)) ?_
                refine wpo_mv (a := (eB false)) rfl rfl rfl (o_as tk rfl (Wk.refl _)) ?_
                refine wpo_nil ?_
                refine awp_ret ?_
                obtain rfl := Option.some.inj H43
                exact ⟨_, (eB false), rfl, (.of_eq rfl), .of_eq ((enc_b td4 sz4).cut _ _ _), (((((hH.noT.drop n5).drop n5_1).drop n5_2).drop n5_3).drop n5_4)⟩
            · subst hb
              refine wpo_skip rfl rfl rfl ?_
              refine wpo_skip rfl rfl rfl ?_
              refine wpo_mv (a := (eB false)) rfl rfl rfl (o_pick_f tk rfl rfl (Wk.refl _)) ?_
              refine wpo_mv (a := (eB false)) rfl rfl rfl (o_mv tk rfl (Wk.refl _)) ?_
              refine wpo_skip rfl rfl rfl ?_
              refine wpo_skip rfl rfl rfl ?_
              refine wpo_mv (a := (eB false)) rfl rfl rfl (o_pick_f tk rfl rfl (Wk.refl _)) ?_
              refine wpo_mv (a := (eB false)) rfl rfl rfl (o_mv tk rfl (Wk.refl _)) ?_
              refine wpo_skip rfl rfl rfl ?_
              refine wpo_skip rfl rfl rfl ?_
              refine wpo_mv (a := (eB false)) rfl rfl rfl (o_pick_f tk rfl rfl (Wk.refl _)) ?_
              refine wpo_mv (a := (eB false)) rfl rfl rfl (o_mv tk rfl (Wk.refl _)) ?_
              refine wpo_skip rfl rfl rfl ?_
              refine wpo_skip rfl rfl rfl ?_
              refine wpo_skip rfl rfl rfl ?_
              refine wpo_mv (a := (eB false)) rfl rfl rfl (o_pick_f tk rfl rfl (Wk.refl _)) ?_
              refine wpo_mv (a := (eB false)) rfl rfl rfl (o_mv tk rfl (Wk.refl _)) ?_
              refine wpo_skip rfl rfl rfl ?_
              refine wpo_skip rfl rfl rfl ?_
              refine wpo_skip rfl rfl rfl ?_
              refine wpo_skip rfl rfl rfl ?_
              refine wpo_mv (a := (eB false)) rfl rfl rfl (o_pick_f tk rfl rfl (Wk.refl _)) ?_
              refine wpo_mv (a := (eB false)) rfl rfl rfl (o_mv tk rfl (Wk.refl _)) ?_
              refine wpo_skip rfl rfl rfl ?_
              refine wpo_skip rfl rfl rfl ?_
              refine wpo_skip rfl rfl rfl ?_
              refine wpo_mv (a := (eB false)) rfl rfl rfl (o_pick_f tk rfl rfl (Wk.refl _)) ?_
              refine wpo_mv (a := (eB false)) rfl rfl rfl (o_mv tk rfl (Wk.refl _)) ?_
              refine wpo_skip rfl rfl rfl ?_
              refine wpo_skip rfl rfl rfl ?_
              refine wpo_skip rfl rfl rfl ?_
              refine wpo_mv (a := (eB false)) rfl rfl rfl (o_pick_f tk rfl rfl (Wk.refl _)) ?_
              refine wpo_mv (a := (eB false)) rfl rfl rfl (o_mv tk rfl (Wk.refl _)) ?_
              refine wpo_skip rfl rfl rfl ?_
              refine wpo_skip rfl rfl rfl ?_
              refine wpo_skip rfl rfl rfl ?_
              refine wpo_mv (a := (eB false)) rfl rfl rfl (o_pick_f tk rfl rfl (Wk.refl _)) ?_
              refine wpo_mv (a := (eB false)) rfl rfl rfl (o_mv tk rfl (Wk.refl _)) ?_
              refine wpo_skip rfl rfl rfl ?_
              refine wpo_skip rfl rfl rfl ?_
              refine wpo_skip rfl rfl rfl ?_
              refine wpo_mv (a := (eB false)) rfl rfl rfl (o_pick_f tk rfl rfl (Wk.refl _)) ?_
              refine wpo_mv (a := (eB false)) rfl rfl rfl (o_mv tk rfl (Wk.refl _)) ?_
              refine wpo_skip rfl rfl rfl ?_
              refine wpo_skip rfl rfl rfl ?_
              refine wpo_mv (a := (eB false)) rfl rfl rfl (o_pick_f tk rfl rfl (Wk.refl _)) ?_
              refine wpo_mv (a := (eB false)) rfl rfl rfl (o_as tk rfl (Wk.refl _)) ?_
              refine wpo_nil ?_
              refine awp_ret ?_
              obtain rfl := Option.some.inj H40
              exact ⟨_, (eB false), rfl, (.of_eq rfl), .of_eq ((enc_b td4 sz4).cut _ _ _), (((((hH.noT.drop n5).drop n5_1).drop n5_2).drop n5_3).drop n5_4)⟩
          · subst hb
            refine wpo_skip rfl rfl rfl ?_
            refine wpo_skip rfl rfl rfl ?_
            refine wpo_mv (a := (eB false)) rfl rfl rfl (o_pick_f tk rfl rfl (Wk.refl _)) ?_
            refine wpo_mv (a := (eB false)) rfl rfl rfl (o_mv tk rfl (Wk.refl _)) ?_
            refine wpo_skip rfl rfl rfl ?_
            refine wpo_skip rfl rfl rfl ?_
            refine wpo_mv (a := (eB false)) rfl rfl rfl (o_pick_f tk rfl rfl (Wk.refl _)) ?_
            refine wpo_mv (a := (eB false)) rfl rfl rfl (o_mv tk rfl (Wk.refl _)) ?_
            refine wpo_skip rfl rfl rfl ?_
            refine wpo_skip rfl rfl rfl ?_
            refine wpo_mv (a := (eB false)) rfl rfl rfl (o_pick_f tk rfl rfl (Wk.refl _)) ?_
            refine wpo_mv (a := (eB false)) rfl rfl rfl (o_mv tk rfl (Wk.refl _)) ?_
            refine wpo_skip rfl rfl rfl ?_
            refine wpo_skip rfl rfl rfl ?_
            refine wpo_mv (a := (eB false)) rfl rfl rfl (o_pick_f tk rfl rfl (Wk.refl _)) ?_
            refine wpo_mv (a := (eB false)) rfl rfl rfl (o_mv tk rfl (Wk.refl _)) ?_
            refine wpo_skip rfl rfl rfl ?_
            refine wpo_skip rfl rfl rfl ?_
            refine wpo_skip rfl rfl rfl ?_
            refine wpo_mv (a := (eB false)) rfl rfl rfl (o_pick_f tk rfl rfl (Wk.refl _)) ?_
            refine wpo_mv (a := (eB false)) rfl rfl rfl (o_mv tk rfl (Wk.refl _)) ?_
            refine wpo_skip rfl rfl rfl ?_
            refine wpo_skip rfl rfl rfl ?_
            refine wpo_skip rfl rfl rfl ?_
            refine wpo_skip rfl rfl rfl ?_
            refine wpo_mv (a := (eB false)) rfl rfl rfl (o_pick_f tk rfl rfl (Wk.refl _)) ?_
            refine wpo_mv (a := (eB false)) rfl rfl rfl (o_mv tk rfl (Wk.refl _)) ?_
            refine wpo_skip rfl rfl rfl ?_
            refine wpo_skip rfl rfl rfl ?_
            refine wpo_skip rfl rfl rfl ?_
            refine wpo_mv (a := (eB false)) rfl rfl rfl (o_pick_f tk rfl rfl (Wk.refl _)) ?_
            refine wpo_mv (a := (eB false)) rfl rfl rfl (o_mv tk rfl (Wk.refl _)) ?_
            refine wpo_skip rfl rfl rfl ?_
            refine wpo_skip rfl rfl rfl ?_
            refine wpo_skip rfl rfl rfl ?_
            refine wpo_mv (a := (eB false)) rfl rfl rfl (o_pick_f tk rfl rfl (Wk.refl _)) ?_
            refine wpo_mv (a := (eB false)) rfl rfl rfl (o_mv tk rfl (Wk.refl _)) ?_
            refine wpo_skip rfl rfl rfl ?_
            refine wpo_skip rfl rfl rfl ?_
            refine wpo_skip rfl rfl rfl ?_
            refine wpo_mv (a := (eB false)) rfl rfl rfl (o_pick_f tk rfl rfl (Wk.refl _)) ?_
            refine wpo_mv (a := (eB false)) rfl rfl rfl (o_mv tk rfl (Wk.refl _)) ?_
            refine wpo_skip rfl rfl rfl ?_
            refine wpo_skip rfl rfl rfl ?_
            refine wpo_skip rfl rfl rfl ?_
            refine wpo_mv (a := (eB false)) rfl rfl rfl (o_pick_f tk rfl rfl (Wk.refl _)) ?_
            refine wpo_mv (a := (eB false)) rfl rfl rfl (o_mv tk rfl (Wk.refl _)) ?_
            refine wpo_skip rfl rfl rfl ?_
            refine wpo_skip rfl rfl rfl ?_
            refine wpo_mv (a := (eB false)) rfl rfl rfl (o_pick_f tk rfl rfl (Wk.refl _)) ?_
            refine wpo_mv (a := (eB false)) rfl rfl rfl (o_as tk rfl (Wk.refl _)) ?_
            refine wpo_nil ?_
            refine awp_ret ?_
            obtain rfl := Option.some.inj H37
            exact ⟨_, (eB false), rfl, (.of_eq rfl), .of_eq ((enc_b td4 sz4).cut _ _ _), (((((hH.noT.drop n5).drop n5_1).drop n5_2).drop n5_3).drop n5_4)⟩
        · subst hb
          refine wpo_skip rfl rfl rfl ?_
          refine wpo_skip rfl rfl rfl ?_
          refine wpo_mv (a := (eB false)) rfl rfl rfl (o_pick_f tk rfl rfl (Wk.refl _)) ?_
          refine wpo_mv (a := (eB false)) rfl rfl rfl (o_mv tk rfl (Wk.refl _)) ?_
          refine wpo_skip rfl rfl rfl ?_
          refine wpo_skip rfl rfl rfl ?_
          refine wpo_mv (a := (eB false)) rfl rfl rfl (o_pick_f tk rfl rfl (Wk.refl _)) ?_
          refine wpo_mv (a := (eB false)) rfl rfl rfl (o_mv tk rfl (Wk.refl _)) ?_
          refine wpo_skip rfl rfl rfl ?_
          refine wpo_skip rfl rfl rfl ?_
          refine wpo_mv (a := (eB false)) rfl rfl rfl (o_pick_f tk rfl rfl (Wk.refl _)) ?_
          refine wpo_mv (a := (eB false)) rfl rfl rfl (o_mv tk rfl (Wk.refl _)) ?_
          refine wpo_skip rfl rfl rfl ?_
          refine wpo_skip rfl rfl rfl ?_
          refine wpo_mv (a := (eB false)) rfl rfl rfl (o_pick_f tk rfl rfl (Wk.refl _)) ?_
          refine wpo_mv (a := (eB false)) rfl rfl rfl (o_mv tk rfl (Wk.refl _)) ?_
          refine wpo_skip rfl rfl rfl ?_
          refine wpo_skip rfl rfl rfl ?_
          refine wpo_mv (a := (eB false)) rfl rfl rfl (o_pick_f tk rfl rfl (Wk.refl _)) ?_
          refine wpo_mv (a := (eB false)) rfl rfl rfl (o_mv tk rfl (Wk.refl _)) ?_
          refine wpo_skip rfl rfl rfl ?_
          refine wpo_skip rfl rfl rfl ?_
          refine wpo_skip rfl rfl rfl ?_
          refine wpo_mv (a := (eB false)) rfl rfl rfl (o_pick_f tk rfl rfl (Wk.refl _)) ?_
          refine wpo_mv (a := (eB false)) rfl rfl rfl (o_mv tk rfl (Wk.refl _)) ?_
          refine wpo_skip rfl rfl rfl ?_
          refine wpo_skip rfl rfl rfl ?_
          refine wpo_skip rfl rfl rfl ?_
          refine wpo_skip rfl rfl rfl ?_
          refine wpo_mv (a := (eB false)) rfl rfl rfl (o_pick_f tk rfl rfl (Wk.refl _)) ?_
          refine wpo_mv (a := (eB false)) rfl rfl rfl (o_mv tk rfl (Wk.refl _)) ?_
          refine wpo_skip rfl rfl rfl ?_
          refine wpo_skip rfl rfl rfl ?_
          refine wpo_skip rfl rfl rfl ?_
          refine wpo_mv (a := (eB false)) rfl rfl rfl (o_pick_f tk rfl rfl (Wk.refl _)) ?_
          refine wpo_mv (a := (eB false)) rfl rfl rfl (o_mv tk rfl (Wk.refl _)) ?_
          refine wpo_skip rfl rfl rfl ?_
          refine wpo_skip rfl rfl rfl ?_
          refine wpo_skip rfl rfl rfl ?_
          refine wpo_mv (a := (eB false)) rfl rfl rfl (o_pick_f tk rfl rfl (Wk.refl _)) ?_
          refine wpo_mv (a := (eB false)) rfl rfl rfl (o_mv tk rfl (Wk.refl _)) ?_
          refine wpo_skip rfl rfl rfl ?_
          refine wpo_skip rfl rfl rfl ?_
          refine wpo_skip rfl rfl rfl ?_
          refine wpo_mv (a := (eB false)) rfl rfl rfl (o_pick_f tk rfl rfl (Wk.refl _)) ?_
          refine wpo_mv (a := (eB false)) rfl rfl rfl (o_mv tk rfl (Wk.refl _)) ?_
          refine wpo_skip rfl rfl rfl ?_
          refine wpo_skip rfl rfl rfl ?_
          refine wpo_skip rfl rfl rfl ?_
          refine wpo_mv (a := (eB false)) rfl rfl rfl (o_pick_f tk rfl rfl (Wk.refl _)) ?_
          refine wpo_mv (a := (eB false)) rfl rfl rfl (o_mv tk rfl (Wk.refl _)) ?_
          refine wpo_skip rfl rfl rfl ?_
          refine wpo_skip rfl rfl rfl ?_
          refine wpo_mv (a := (eB false)) rfl rfl rfl (o_pick_f tk rfl rfl (Wk.refl _)) ?_
          refine wpo_mv (a := (eB false)) rfl rfl rfl (o_as tk rfl (Wk.refl _)) ?_
          refine wpo_nil ?_
          refine awp_ret ?_
          obtain rfl := Option.some.inj H34
          exact ⟨_, (eB false), rfl, (.of_eq rfl), .of_eq ((enc_b td4 sz4).cut _ _ _), (((((hH.noT.drop n5).drop n5_1).drop n5_2).drop n5_3).drop n5_4)⟩
    · rw [hz18, Option.elim_some] at H13
      refine wpo_a (av := fun id => .tup [.ref id 0, (eErr v14.2)]) rfl rfl rfl (h_callnb1 hH hz18 rfl rfl (.cons (.of_eq rfl) (.cons (.of_eq rfl) .nil)) (lists_New_ok hvv14 _)) fun id16 τ ⟨hH, n17⟩ => ?_
      obtain ⟨id16_nodes, h_id16_nodes⟩ : ∃ x, x = id16 + 1 := ⟨_, rfl⟩
      obtain ⟨id16_first_, h_id16_first_⟩ : ∃ x, x = id16 + 2 := ⟨_, rfl⟩
      obtain ⟨id16_last_, h_id16_last_⟩ : ∃ x, x = id16 + 3 := ⟨_, rfl⟩
      obtain ⟨id16_count, h_id16_count⟩ : ∃ x, x = id16 + 4 := ⟨_, rfl⟩
      have hH : Holds σ [(id16, [(.vec id16_nodes 4 (c15.nodes).length), (.vec id16_first_ 1 (c15.first_).length), (.vec id16_last_ 1 (c15.last_).length), (.vec id16_count 1 (c15.count).length), (eI c15.free), (eI c15.clock)]), (id16_nodes, (cL e_lists_link c15.nodes)), (id16_first_, (cL eI c15.first_)), (id16_last_, (cL eI c15.last_)), (id16_count, (cL eI c15.count)), (id4, [(.vec id4_nodes 4 (c3.nodes).length), (.vec id4_first_ 1 (c3.first_).length), (.vec id4_last_ 1 (c3.last_).length), (.vec id4_count 1 (c3.count).length), (eI c3.free), (eI c3.clock)]), (id4_nodes, (cL e_lists_link c3.nodes)), (id4_first_, (cL eI c3.first_)), (id4_last_, (cL eI c3.last_)), (id4_count, (cL eI c3.count))] [] τ := by rw [h_id16_nodes, h_id16_first_, h_id16_last_, h_id16_count]; exact hH
      have n17_1 : σ.objs.length ≤ id16_nodes := by omega
      have n17_2 : σ.objs.length ≤ id16_first_ := by omega
      have n17_3 : σ.objs.length ≤ id16_last_ := by omega
      have n17_4 : σ.objs.length ≤ id16_count := by omega
      refine wpo_mv (a := (.tup [(.ref id16 0), (eErr v14.2)])) rfl rfl rfl (o_mv tk rfl (Wk.refl _)) ?_
      refine wpo_mv (a := (.ref id16 0)) rfl rfl rfl (o_ext tk rfl rfl) ?_
      refine wpo_mv (a := (eErr v14.2)) rfl rfl rfl (o_ext tk rfl rfl) ?_
      refine wpo_mv (a := (.ref id16 0)) rfl rfl rfl (o_as tk rfl (Wk.refl _)) ?_
      refine wpo_mv (a := (eErr v14.2)) rfl rfl rfl (o_as tk rfl (Wk.refl _)) ?_
      refine wpo_nil ?_
      refine awp_seq ?_
      refine awp_seq ?_
      refine awp_region rfl ?_
      refine wpo_mv (a := (.ref id4 0)) rfl rfl rfl (o_mv tk rfl (Wk.refl _)) ?_
      refine wpo_mv (a := (eB false)) rfl rfl rfl (o_c tk false rfl (fun _ => rfl)) ?_
      refine wpo_mv (a := (eB false)) rfl rfl rfl (o_mv tk rfl (Wk.refl _)) ?_
      refine wpo_mv (a := (eErr v2.2)) rfl rfl rfl (o_mv tk rfl (Wk.refl _)) ?_
      refine wpo_lt H13 eB rfl rfl rfl (o_err_neq tk rfl rfl rfl) fun v83 H82 => ?_
      refine wpo_mv (a := (eB v83)) rfl rfl rfl (o_pick_f tk rfl rfl (Wk.refl _)) ?_
      refine wpo_nil ?_
      refine awp_if H82 rfl (fun H84 => ?_) (fun H84 => ?_)
      · refine awp_seq ?_
        refine awp_region rfl ?_
        refine wpo_mv (a := (eB false)) rfl rfl rfl (o_as tk rfl (Wk.refl _)) ?_
        refine wpo_nil ?_
        refine awp_ret ?_
        obtain rfl := Option.some.inj H84
        exact ⟨_, (eB false), rfl, (.of_eq rfl), .of_eq ((enc_b td4 sz4).cut _ _ _), ((((((((((hH.noT.drop n17).drop n17_1).drop n17_2).drop n17_3).drop n17_4).drop n5).drop n5_1).drop n5_2).drop n5_3).drop n5_4)⟩
      · refine awp_skip ?_
        refine awp_seq ?_
        refine awp_region rfl ?_
        refine wpo_mv (a := (.ref id4 0)) rfl rfl rfl (o_mv tk rfl (Wk.refl _)) ?_
        refine wpo_cb H84 (fun x _ => .tup [eI x.1, eErr x.2.1]) rfl rfl rfl (fun v86 hv => h_call1 hH [(5, (id4, [(.vec id4_nodes 4 (v86.2.2.nodes).length), (.vec id4_first_ 1 (v86.2.2.first_).length), (.vec id4_last_ 1 (v86.2.2.last_).length), (.vec id4_count 1 (v86.2.2.count).length), (eI v86.2.2.free), (eI v86.2.2.clock)])), (6, (id4_nodes, (cL e_lists_link v86.2.2.nodes))), (7, (id4_first_, (cL eI v86.2.2.first_))), (8, (id4_last_, (cL eI v86.2.2.last_))), (9, (id4_count, (cL eI v86.2.2.count)))] ⟨⟨_, rfl⟩, ⟨⟨_, rfl⟩, ⟨⟨_, rfl⟩, ⟨⟨_, rfl⟩, ⟨⟨_, rfl⟩, trivial⟩⟩⟩⟩⟩ rfl rfl (.cons (.of_eq rfl) (.cons (.of_eq rfl) .nil)) (lists_Lists_Add_ok hv _ (hH.at_ 5 rfl) (hH.at_ 6 rfl) (hH.at_ 7 rfl) (hH.at_ 8 rfl) (hH.at_ 9 rfl) (hH.pw [5, 6, 7, 8, 9] rfl (by decide)))) fun v86 _ τ hv86 H85 (hH : Holds σ [(id16, [(.vec id16_nodes 4 (c15.nodes).length), (.vec id16_first_ 1 (c15.first_).length), (.vec id16_last_ 1 (c15.last_).length), (.vec id16_count 1 (c15.count).length), (eI c15.free), (eI c15.clock)]), (id16_nodes, (cL e_lists_link c15.nodes)), (id16_first_, (cL eI c15.first_)), (id16_last_, (cL eI c15.last_)), (id16_count, (cL eI c15.count)), (id4, [(.vec id4_nodes 4 (v86.2.2.nodes).length), (.vec id4_first_ 1 (v86.2.2.first_).length), (.vec id4_last_ 1 (v86.2.2.last_).length), (.vec id4_count 1 (v86.2.2.count).length), (eI v86.2.2.free), (eI v86.2.2.clock)]), (id4_nodes, (cL e_lists_link v86.2.2.nodes)), (id4_first_, (cL eI v86.2.2.first_)), (id4_last_, (cL eI v86.2.2.last_)), (id4_count, (cL eI v86.2.2.count))] [] τ) => ?_
        refine wpo_mv (a := (.tup [(eI v86.1), (eErr v86.2.1)])) rfl rfl rfl (o_mv tk rfl (Wk.refl _)) ?_
        refine wpo_mv (a := (eI v86.1)) rfl rfl rfl (o_ext tk rfl rfl) ?_
        refine wpo_mv (a := (eErr v86.2.1)) rfl rfl rfl (o_ext tk rfl rfl) ?_
        refine wpo_mv (a := (eI v86.1)) rfl rfl rfl (o_as tk rfl (Wk.refl _)) ?_
        refine wpo_mv (a := (eErr v86.2.1)) rfl rfl rfl (o_as tk rfl (Wk.refl _)) ?_
        refine wpo_nil ?_
        refine awp_seq ?_
        refine awp_region rfl ?_
        refine wpo_mv (a := (.ref id4 0)) rfl rfl rfl (o_mv tk rfl (Wk.refl _)) ?_
        refine wpo_cb H85 (fun x _ => .tup [eI x.1, eErr x.2.1]) rfl rfl rfl (fun v88 hv => h_call1 hH [(5, (id4, [(.vec id4_nodes 4 (v88.2.2.nodes).length), (.vec id4_first_ 1 (v88.2.2.first_).length), (.vec id4_last_ 1 (v88.2.2.last_).length), (.vec id4_count 1 (v88.2.2.count).length), (eI v88.2.2.free), (eI v88.2.2.clock)])), (6, (id4_nodes, (cL e_lists_link v88.2.2.nodes))), (7, (id4_first_, (cL eI v88.2.2.first_))), (8, (id4_last_, (cL eI v88.2.2.last_))), (9, (id4_count, (cL eI v88.2.2.count)))] ⟨⟨_, rfl⟩, ⟨⟨_, rfl⟩, ⟨⟨_, rfl⟩, ⟨⟨_, rfl⟩, ⟨⟨_, rfl⟩, trivial⟩⟩⟩⟩⟩ rfl rfl (.cons (.of_eq rfl) (.cons (.of_eq rfl) .nil)) (lists_Lists_Add_ok hv _ (hH.at_ 5 rfl) (hH.at_ 6 rfl) (hH.at_ 7 rfl) (hH.at_ 8 rfl) (hH.at_ 9 rfl) (hH.pw [5, 6, 7, 8, 9] rfl (by decide)))) fun v88 _ τ hv88 H87 (hH : Holds σ [(id16, [(.vec id16_nodes 4 (c15.nodes).length), (.vec id16_first_ 1 (c15.first_).length), (.vec id16_last_ 1 (c15.last_).length), (.vec id16_count 1 (c15.count).length), (eI c15.free), (eI c15.clock)]), (id16_nodes, (cL e_lists_link c15.nodes)), (id16_first_, (cL eI c15.first_)), (id16_last_, (cL eI c15.last_)), (id16_count, (cL eI c15.count)), (id4, [(.vec id4_nodes 4 (v88.2.2.nodes).length), (.vec id4_first_ 1 (v88.2.2.first_).length), (.vec id4_last_ 1 (v88.2.2.last_).length), (.vec id4_count 1 (v88.2.2.count).length), (eI v88.2.2.free), (eI v88.2.2.clock)]), (id4_nodes, (cL e_lists_link v88.2.2.nodes)), (id4_first_, (cL eI v88.2.2.first_)), (id4_last_, (cL eI v88.2.2.last_)), (id4_count, (cL eI v88.2.2.count))] [] τ) => ?_
        refine wpo_mv (a := (.tup [(eI v88.1), (eErr v88.2.1)])) rfl rfl rfl (o_mv tk rfl (Wk.refl _)) ?_
        refine wpo_mv (a := (eI v88.1)) rfl rfl rfl (o_ext tk rfl rfl) ?_
        refine wpo_mv (a := (eErr v88.2.1)) rfl rfl rfl (o_ext tk rfl rfl) ?_
        refine wpo_mv (a := (eI v88.1)) rfl rfl rfl (o_as tk rfl (Wk.refl _)) ?_
        refine wpo_mv (a := (eErr v88.2.1)) rfl rfl rfl (o_as tk rfl (Wk.refl _)) ?_
        refine wpo_nil ?_
        refine awp_seq ?_
        refine awp_region rfl ?_
        refine wpo_mv (a := (.ref id4 0)) rfl rfl rfl (o_mv tk rfl (Wk.refl _)) ?_
        refine wpo_mv (a := (eI v86.1)) rfl rfl rfl (o_mv tk rfl (Wk.refl _)) ?_
        refine wpo_cb H87 (fun x _ => eErr x.1) rfl rfl rfl (fun v90 hv => h_call1 hH [(5, (id4, [(.vec id4_nodes 4 (v90.2.nodes).length), (.vec id4_first_ 1 (v90.2.first_).length), (.vec id4_last_ 1 (v90.2.last_).length), (.vec id4_count 1 (v90.2.count).length), (eI v90.2.free), (eI v90.2.clock)])), (6, (id4_nodes, (cL e_lists_link v90.2.nodes))), (7, (id4_first_, (cL eI v90.2.first_))), (8, (id4_last_, (cL eI v90.2.last_))), (9, (id4_count, (cL eI v90.2.count)))] ⟨⟨_, rfl⟩, ⟨⟨_, rfl⟩, ⟨⟨_, rfl⟩, ⟨⟨_, rfl⟩, ⟨⟨_, rfl⟩, trivial⟩⟩⟩⟩⟩ rfl rfl (.cons (.of_eq rfl) (.cons (.of_eq rfl) .nil)) (lists_Lists_Touch_ok hv _ (hH.at_ 5 rfl) (hH.at_ 6 rfl) (hH.at_ 7 rfl) (hH.at_ 8 rfl) (hH.at_ 9 rfl) (hH.pw [5, 6, 7, 8, 9] rfl (by decide)))) fun v90 _ τ hv90 H89 (hH : Holds σ [(id16, [(.vec id16_nodes 4 (c15.nodes).length), (.vec id16_first_ 1 (c15.first_).length), (.vec id16_last_ 1 (c15.last_).length), (.vec id16_count 1 (c15.count).length), (eI c15.free), (eI c15.clock)]), (id16_nodes, (cL e_lists_link c15.nodes)), (id16_first_, (cL eI c15.first_)), (id16_last_, (cL eI c15.last_)), (id16_count, (cL eI c15.count)), (id4, [(.vec id4_nodes 4 (v90.2.nodes).length), (.vec id4_first_ 1 (v90.2.first_).length), (.vec id4_last_ 1 (v90.2.last_).length), (.vec id4_count 1 (v90.2.count).length), (eI v90.2.free), (eI v90.2.clock)]), (id4_nodes, (cL e_lists_link v90.2.nodes)), (id4_first_, (cL eI v90.2.first_)), (id4_last_, (cL eI v90.2.last_)), (id4_count, (cL eI v90.2.count))] [] τ) => ?_
        refine wpo_mv (a := (eErr v90.1)) rfl rfl rfl (o_as tk rfl (Wk.refl _)) ?_
        refine wpo_nil ?_
        refine awp_seq ?_
        refine awp_region rfl ?_
        refine wpo_mv (a := (.ref id4 0)) rfl rfl rfl (o_mv tk rfl (Wk.refl _)) ?_
        refine wpo_cb H89 (fun x _ => eErr x.1) rfl rfl rfl (fun v92 hv => h_call1 hH [(5, (id4, [(.vec id4_nodes 4 (v92.2.nodes).length), (.vec id4_first_ 1 (v92.2.first_).length), (.vec id4_last_ 1 (v92.2.last_).length), (.vec id4_count 1 (v92.2.count).length), (eI v92.2.free), (eI v92.2.clock)])), (6, (id4_nodes, (cL e_lists_link v92.2.nodes))), (7, (id4_first_, (cL eI v92.2.first_))), (8, (id4_last_, (cL eI v92.2.last_))), (9, (id4_count, (cL eI v92.2.count)))] ⟨⟨_, rfl⟩, ⟨⟨_, rfl⟩, ⟨⟨_, rfl⟩, ⟨⟨_, rfl⟩, ⟨⟨_, rfl⟩, trivial⟩⟩⟩⟩⟩ rfl rfl (.cons (.of_eq rfl) (.cons (.of_eq rfl) .nil)) (lists_Lists_Drop_ok hv _ (hH.at_ 5 rfl) (hH.at_ 6 rfl) (hH.at_ 7 rfl) (hH.at_ 8 rfl) (hH.at_ 9 rfl) (hH.pw [5, 6, 7, 8, 9] rfl (by decide)))) fun v92 _ τ hv92 H91 (hH : Holds σ [(id16, [(.vec id16_nodes 4 (c15.nodes).length), (.vec id16_first_ 1 (c15.first_).length), (.vec id16_last_ 1 (c15.last_).length), (.vec id16_count 1 (c15.count).length), (eI c15.free), (eI c15.clock)]), (id16_nodes, (cL e_lists_link c15.nodes)), (id16_first_, (cL eI c15.first_)), (id16_last_, (cL eI c15.last_)), (id16_count, (cL eI c15.count)), (id4, [(.vec id4_nodes 4 (v92.2.nodes).length), (.vec id4_first_ 1 (v92.2.first_).length), (.vec id4_last_ 1 (v92.2.last_).length), (.vec id4_count 1 (v92.2.count).length), (eI v92.2.free), (eI v92.2.clock)]), (id4_nodes, (cL e_lists_link v92.2.nodes)), (id4_first_, (cL eI v92.2.first_)), (id4_last_, (cL eI v92.2.last_)), (id4_count, (cL eI v92.2.count))] [] τ) => ?_
        refine wpo_mv (a := (eErr v92.1)) rfl rfl rfl (o_as tk rfl (Wk.refl _)) ?_
        refine wpo_nil ?_
        refine awp_seq ?_
        refine awp_region rfl ?_
        refine wpo_mv (a := (eErr v14.2)) rfl rfl rfl (o_mv tk rfl (Wk.refl _)) ?_
        refine wpo_bdr H91 eI rfl rfl rfl (fun v94 hv => h_callr rfl rfl (.cons (.of_eq rfl) .nil) (trouble_Of_ok hv _ (hH.gl.trans hg))) fun v94 hv94 H93 => ?_
        refine wpo_lt H93 eB rfl rfl rfl (o_ar tk rfl rfl rfl) fun v96 H95 => ?_
        refine wpo_mv (a := (eB v96)) rfl rfl rfl (o_mv tk rfl (Wk.refl _)) ?_
        refine if_split H95 (fun hb H97 => ?_) (fun hb H97 => ?_)
        · subst hb
          refine wpo_mv (a := (eI v86.1)) rfl rfl rfl (o_mv tk rfl (Wk.refl _)) ?_
          refine wpo_lt H97 eB rfl rfl rfl (o_ar tk rfl rfl rfl) fun v99 H98 => ?_
          refine wpo_mv (a := (eB v99)) rfl rfl rfl (o_pick_t tk rfl rfl (Wk.refl _)) ?_
          refine wpo_mv (a := (eB v99)) rfl rfl rfl (o_mv tk rfl (Wk.refl _)) ?_
          refine if_split H98 (fun hb H100 => ?_) (fun hb H100 => ?_)
          · subst hb
            refine wpo_mv (a := (eI v88.1)) rfl rfl rfl (o_mv tk rfl (Wk.refl _)) ?_
            refine wpo_lt H100 eB rfl rfl rfl (o_ar tk rfl rfl rfl) fun v102 H101 => ?_
            refine wpo_mv (a := (eB v102)) rfl rfl rfl (o_pick_t tk rfl rfl (Wk.refl _)) ?_
            refine wpo_mv (a := (eB v102)) rfl rfl rfl (o_mv tk rfl (Wk.refl _)) ?_
            refine if_split H101 (fun hb H103 => ?_) (fun hb H103 => ?_)
            · subst hb
              refine wpo_mv (a := (eErr v86.2.1)) rfl rfl rfl (o_mv tk rfl (Wk.refl _)) ?_
              refine wpo_lt H103 eB rfl rfl rfl (o_err_eql tk rfl rfl rfl) fun v105 H104 => ?_
              refine wpo_mv (a := (eB v105)) rfl rfl rfl (o_pick_t tk rfl rfl (Wk.refl _)) ?_
              refine wpo_mv (a := (eB v105)) rfl rfl rfl (o_mv tk rfl (Wk.refl _)) ?_
              refine if_split H104 (fun hb H106 => ?_) (fun hb H106 => ?_)
              · subst hb
                refine wpo_mv (a := (eErr v88.2.1)) rfl rfl rfl (o_mv tk rfl (Wk.refl _)) ?_
                refine wpo_lt H106 eB rfl rfl rfl (o_err_eql tk rfl rfl rfl) fun v108 H107 => ?_
                refine wpo_mv (a := (eB v108)) rfl rfl rfl (o_pick_t tk rfl rfl (Wk.refl _)) ?_
                refine wpo_mv (a := (eB v108)) rfl rfl rfl (o_mv tk rfl (Wk.refl _)) ?_
                refine if_split H107 (fun hb H109 => ?_) (fun hb H109 => ?_)
                · subst hb
                  refine wpo_mv (a := (eErr v90.1)) rfl rfl rfl (o_mv tk rfl (Wk.refl _)) ?_
                  refine wpo_lt H109 eB rfl rfl rfl (o_err_eql tk rfl rfl rfl) fun v111 H110 => ?_
                  refine wpo_mv (a := (eB v111)) rfl rfl rfl (o_pick_t tk rfl rfl (Wk.refl _)) ?_
                  refine wpo_mv (a := (eB v111)) rfl rfl rfl (o_mv tk rfl (Wk.refl _)) ?_
                  refine if_split H110 (fun hb H112 => ?_) (fun hb H112 => ?_)
                  · subst hb
                    refine wpo_mv (a := (eErr v92.1)) rfl rfl rfl (o_mv tk rfl (Wk.refl _)) ?_
                    refine wpo_bdr H112 eI rfl rfl rfl (fun v114 hv => h_callr rfl rfl (.cons (.of_eq rfl) .nil) (trouble_Of_ok hv _ (hH.gl.trans hg))) fun v114 hv114 H113 => ?_
                    refine wpo_lt H113 eB rfl rfl rfl (o_ar tk rfl rfl rfl) fun v116 H115 => ?_
                    refine wpo_mv (a := (eB v116)) rfl rfl rfl (o_pick_t tk rfl rfl (Wk.refl _)) ?_
                    refine wpo_mv (a := (eB v116)) rfl rfl rfl (o_mv tk rfl (Wk.refl _)) ?_
                    refine if_split H115 (fun hb H117 => ?_) (fun hb H117 => ?_)
                    · subst hb
                      refine wpo_mv (a := (.ref id4 0)) rfl rfl rfl (o_mv tk rfl (Wk.refl _)) ?_
                      refine wpo_bdr H117 (eL 1 eI) rfl rfl rfl (fun v119 hv => h_callr rfl rfl (.cons (.of_eq rfl) (.cons (.of_eq rfl) .nil)) (lists_Lists_Order_ok hv _ (hH.at_ 5 rfl) (hH.at_ 6 rfl) (hH.at_ 7 rfl) (hH.at_ 8 rfl) (hH.at_ 9 rfl) (hH.pw [5, 6, 7, 8, 9] rfl (by decide)))) fun v119 hv119 H118 => ?_
                      refine wpo_mv (a := (eF 1 eI ([(0 : Int), (1 : Int)] : List Int))) rfl rfl rfl (o_c tk false rfl (fun _ => rfl)) ?_
                      refine wpo_bd H118 eB rfl rfl rfl (fun v121 hv => OpP.of_call rfl rfl (.cons (.of_eq rfl) (.cons wk_no .nil)) (butteryref02_Ints_ok hv)) fun v121 hv121 H120 => ?_
                      refine wpo_mv (a := (eB v121)) rfl rfl rfl (o_pick_t tk rfl rfl (Wk.refl _)) ?_
                      refine wpo_mv (a := (eB v121)) rfl rfl rfl (o_mv tk rfl (Wk.refl _)) ?_
                      refine if_split H120 (fun hb H122 => ?_) (fun hb H122 => ?_)
                      · subst hb
                        refine wpo_mv (a := (.ref id4 0)) rfl rfl rfl (o_mv tk rfl (Wk.refl _)) ?_
                        refine wpo_bdr H122 eI rfl rfl rfl (fun v124 hv => h_callr rfl rfl (.cons (.of_eq rfl) (.cons (.of_eq rfl) .nil)) (lists_Lists_Last_ok hv _ (hH.at_ 5 rfl) (hH.at_ 6 rfl) (hH.at_ 7 rfl) (hH.at_ 8 rfl) (hH.at_ 9 rfl) (hH.pw [5, 6, 7, 8, 9] rfl (by decide)))) fun v124 hv124 H123 => ?_
                        refine wpo_lt H123 eB rfl rfl rfl (o_ar tk rfl rfl rfl) fun v126 H125 => ?_
                        refine wpo_mv (a := (eB v126)) rfl rfl rfl (o_pick_t tk rfl rfl (Wk.refl _)) ?_
                        refine wpo_mv (a := (eB v126)) rfl rfl rfl (o_mv tk rfl (Wk.refl _)) ?_
                        refine if_split H125 (fun hb H127 => ?_) (fun hb H127 => ?_)
                        · subst hb
                          refine wpo_mv (a := (.ref id4 0)) rfl rfl rfl (o_mv tk rfl (Wk.refl _)) ?_
                          refine wpo_bdr H127 eI rfl rfl rfl (fun v129 hv => h_callr rfl rfl (.cons (.of_eq rfl) .nil) (lists_Lists_Oldest_ok hv _ (hH.at_ 5 rfl) (hH.at_ 6 rfl) (hH.at_ 7 rfl) (hH.at_ 8 rfl) (hH.at_ 9 rfl) (hH.pw [5, 6, 7, 8, 9] rfl (by decide)))) fun v129 hv129 H128 => ?_
                          refine wpo_lt H128 eB rfl rfl rfl (o_ar tk rfl rfl rfl) fun v131 H130 => ?_
                          refine wpo_mv (a := (eB v131)) rfl rfl rfl (o_pick_t tk rfl rfl (Wk.refl _)) ?_
                          refine wpo_mv (a := (eB v131)) rfl rfl rfl (o_mv tk rfl (Wk.refl _)) ?_
                          refine if_split H130 (fun hb H132 => ?_) (fun hb H132 => ?_)
                          · subst hb
                            refine wpo_mv (a := (.ref id4 0)) rfl rfl rfl (o_mv tk rfl (Wk.refl _)) ?_
                            refine wpo_bdr H132 eI rfl rfl rfl (fun v134 hv => h_callr rfl rfl (.cons (.of_eq rfl) (.cons (.of_eq rfl) .nil)) (lists_Lists_List_ok hv _ (hH.at_ 5 rfl) (hH.at_ 6 rfl) (hH.at_ 7 rfl) (hH.at_ 8 rfl) (hH.at_ 9 rfl) (hH.pw [5, 6, 7, 8, 9] rfl (by decide)))) fun v134 hv134 H133 => ?_
                            refine wpo_lt H133 eB rfl rfl rfl (o_ar tk rfl rfl rfl) fun v136 H135 => ?_
                            refine wpo_mv (a := (eB v136)) rfl rfl rfl (o_pick_t tk rfl rfl (Wk.refl _)) ?_
                            refine wpo_mv (a := (eB v136)) rfl rfl rfl (o_mv tk rfl (Wk.refl _)) ?_
                            refine if_split H135 (fun hb H137 => ?_) (fun hb H137 => ?_)
                            · subst hb
                              refine wpo_mv (a := (.ref id4 0)) rfl rfl rfl (o_mv tk rfl (Wk.refl _)) ?_
                              refine wpo_bdr H137 eI rfl rfl rfl (fun v139 hv => h_callr rfl rfl (.cons (.of_eq rfl) (.cons (.of_eq rfl) .nil)) (lists_Lists_Len_ok hv _ (hH.at_ 5 rfl) (hH.at_ 6 rfl) (hH.at_ 7 rfl) (hH.at_ 8 rfl) (hH.at_ 9 rfl) (hH.pw [5, 6, 7, 8, 9] rfl (by decide)))) fun v139 hv139 H138 => ?_
                              refine wpo_lt H138 eB rfl rfl rfl (o_ar tk rfl rfl rfl) fun v141 H140 => ?_
                              refine wpo_mv (a := (eB v141)) rfl rfl rfl (o_pick_t tk rfl rfl (Wk.refl _)) ?_
                              refine wpo_mv (a := (eB v141)) rfl rfl rfl (o_mv tk rfl (Wk.refl _)) ?_
                              refine if_split H140 (fun hb H142 => ?_) (fun hb H142 => ?_)
                              · subst hb
                                refine wpo_mv (a := (.ref id4 0)) rfl rfl rfl (o_mv tk rfl (Wk.refl _)) ?_
                                refine wpo_bdr H142 eB rfl rfl rfl (fun v144 hv => h_callr rfl rfl (.cons (.of_eq rfl) .nil) (lists_Lists_Sound_ok hv _ (hH.at_ 5 rfl) (hH.at_ 6 rfl) (hH.at_ 7 rfl) (hH.at_ 8 rfl) (hH.at_ 9 rfl) (hH.pw [5, 6, 7, 8, 9] rfl (by decide)))) fun v144 hv144 H143 => ?_
                                refine wpo_mv (a := (eB v144)) rfl rfl rfl (o_pick_t tk rfl rfl (Wk.refl _)) ?_
                                refine wpo_mv (a := (eB v144)) rfl rfl rfl (o_as tk rfl (Wk.refl _)) ?_
                                refine wpo_nil ?_
                                refine awp_ret ?_
                                obtain rfl := Option.some.inj H143
                                exact ⟨_, (eB v144), rfl, (.of_eq rfl), .of_eq ((enc_b td4 sz4).cut _ _ _), ((((((((((hH.noT.drop n17).drop n17_1).drop n17_2).drop n17_3).drop n17_4).drop n5).drop n5_1).drop n5_2).drop n5_3).drop n5_4)⟩
                              · subst hb
                                refine wpo_skip rfl rfl rfl ?_
                                refine wpo_skip rfl rfl rfl ?_
                                refine wpo_mv (a := (eB false)) rfl rfl rfl (o_pick_f tk rfl rfl (Wk.refl _)) ?_
                                refine wpo_mv (a := (eB false)) rfl rfl rfl (o_as tk rfl (Wk.refl _)) ?_
                                refine wpo_nil ?_
                                refine awp_ret ?_
                                obtain rfl := Option.some.inj H142
                                exact ⟨_, (eB false), rfl, (.of_eq rfl), .of_eq ((enc_b td4 sz4).cut _ _ _), ((((((((((hH.noT.drop n17).drop n17_1).drop n17_2).drop n17_3).drop n17_4).drop n5).drop n5_1).drop n5_2).drop n5_3).drop n5_4)⟩
                            · subst hb
                              refine wpo_skip rfl rfl rfl ?_
                              refine wpo_skip rfl rfl rfl ?_
                              refine wpo_skip rfl rfl rfl ?_
                              refine wpo_mv (a := (eB false)) rfl rfl rfl (o_pick_f tk rfl rfl (Wk.refl _)) ?_
                              refine wpo_mv (a := (eB false)) rfl rfl rfl (o_mv tk rfl (Wk.refl _)) ?_
                              refine wpo_skip rfl rfl rfl ?_
                              refine wpo_skip rfl rfl rfl ?_
                              refine wpo_mv (a := (eB false)) rfl rfl rfl (o_pick_f tk rfl rfl (Wk.refl _)) ?_
                              refine wpo_mv (a := (eB false)) rfl rfl rfl (o_as tk rfl (Wk.refl _)) ?_
                              refine wpo_nil ?_
                              refine awp_ret ?_
                              obtain rfl := Option.some.inj H137
                              exact ⟨_, (eB false), rfl, (.of_eq rfl), .of_eq ((enc_b td4 sz4).cut _ _ _), ((((((((((hH.noT.drop n17).drop n17_1).drop n17_2).drop n17_3).drop n17_4).drop n5).drop n5_1).drop n5_2).drop n5_3).drop n5_4)⟩
                          · subst hb
                            refine wpo_skip rfl rfl rfl ?_
                            refine wpo_skip rfl rfl rfl ?_
                            refine wpo_skip rfl rfl rfl ?_
                            refine wpo_mv (a := (eB false)) rfl rfl rfl (o_pick_f tk rfl rfl (Wk.refl _)) ?_
                            refine wpo_mv (a := (eB false)) rfl rfl rfl (o_mv tk rfl (Wk.refl _)) ?_
                            refine wpo_skip rfl rfl rfl ?_
                            refine wpo_skip rfl rfl rfl ?_
                            refine wpo_skip rfl rfl rfl ?_
                            refine wpo_mv (a := (eB false)) rfl rfl rfl (o_pick_f tk rfl rfl (Wk.refl _)) ?_
                            refine wpo_mv (a := (eB false)) rfl rfl rfl (o_mv tk rfl (Wk.refl _)) ?_
                            refine wpo_skip rfl rfl rfl ?_
                            refine wpo_skip rfl rfl rfl ?_
                            refine wpo_mv (a := (eB false)) rfl rfl rfl (o_pick_f tk rfl rfl (Wk.refl _)) ?_
                            refine wpo_mv (a := (eB false)) rfl rfl rfl (o_as tk rfl (Wk.refl _)) ?_
                            refine wpo_nil ?_
                            refine awp_ret ?_
                            obtain rfl := Option.some.inj H132
                            exact ⟨_, (eB false), rfl, (.of_eq rfl), .of_eq ((enc_b td4 sz4).cut _ _ _), ((((((((((hH.noT.drop n17).drop n17_1).drop n17_2).drop n17_3).drop n17_4).drop n5).drop n5_1).drop n5_2).drop n5_3).drop n5_4)⟩
                        · subst hb
                          refine wpo_skip rfl rfl rfl ?_
                          refine wpo_skip rfl rfl rfl ?_
                          refine wpo_skip rfl rfl rfl ?_
                          refine wpo_mv (a := (eB false)) rfl rfl rfl (o_pick_f tk rfl rfl (Wk.refl _)) ?_
                          refine wpo_mv (a := (eB false)) rfl rfl rfl (o_mv tk rfl (Wk.refl _)) ?_
                          refine wpo_skip rfl rfl rfl ?_
                          refine wpo_skip rfl rfl rfl ?_
                          refine wpo_skip rfl rfl rfl ?_
                          refine wpo_mv (a := (eB false)) rfl rfl rfl (o_pick_f tk rfl rfl (Wk.refl _)) ?_
                          refine wpo_mv (a := (eB false)) rfl rfl rfl (o_mv tk rfl (Wk.refl _)) ?_
                          refine wpo_skip rfl rfl rfl ?_
                          refine wpo_skip rfl rfl rfl ?_
                          refine wpo_skip rfl rfl rfl ?_
                          refine wpo_mv (a := (eB false)) rfl rfl rfl (o_pick_f tk rfl rfl (Wk.refl _)) ?_
                          refine wpo_mv (a := (eB false)) rfl rfl rfl (o_mv tk rfl (Wk.refl _)) ?_
                          refine wpo_skip rfl rfl rfl ?_
                          refine wpo_skip rfl rfl rfl ?_
                          refine wpo_mv (a := (eB false)) rfl rfl rfl (o_pick_f tk rfl rfl (Wk.refl _)) ?_
                          refine wpo_mv (a := (eB false)) rfl rfl rfl (o_as tk rfl (Wk.refl _)) ?_
                          refine wpo_nil ?_
                          refine awp_ret ?_
                          obtain rfl := Option.some.inj H127
                          exact ⟨_, (eB false), rfl, (.of_eq rfl), .of_eq ((enc_b td4 sz4).cut _ _ _), ((((((((((hH.noT.drop n17).drop n17_1).drop n17_2).drop n17_3).drop n17_4).drop n5).drop n5_1).drop n5_2).drop n5_3).drop n5_4)⟩
                      · subst hb
                        refine wpo_skip rfl rfl rfl ?_
                        refine wpo_skip rfl rfl rfl ?_
                        refine wpo_skip rfl rfl rfl ?_
                        refine wpo_mv (a := (eB false)) rfl rfl rfl (o_pick_f tk rfl rfl (Wk.refl _)) ?_
                        refine wpo_mv (a := (eB false)) rfl rfl rfl (o_mv tk rfl (Wk.refl _)) ?_
                        refine wpo_skip rfl rfl rfl ?_
                        refine wpo_skip rfl rfl rfl ?_
                        refine wpo_skip rfl rfl rfl ?_
                        refine wpo_mv (a := (eB false)) rfl rfl rfl (o_pick_f tk rfl rfl (Wk.refl _)) ?_
                        refine wpo_mv (a := (eB false)) rfl rfl rfl (o_mv tk rfl (Wk.refl _)) ?_
                        refine wpo_skip rfl rfl rfl ?_
                        refine wpo_skip rfl rfl rfl ?_
                        refine wpo_skip rfl rfl rfl ?_
                        refine wpo_mv (a := (eB false)) rfl rfl rfl (o_pick_f tk rfl rfl (Wk.refl _)) ?_
                        refine wpo_mv (a := (eB false)) rfl rfl rfl (o_mv tk rfl (Wk.refl _)) ?_
                        refine wpo_skip rfl rfl rfl ?_
                        refine wpo_skip rfl rfl rfl ?_
                        refine wpo_skip rfl rfl rfl ?_
                        refine wpo_mv (a := (eB false)) rfl rfl rfl (o_pick_f tk rfl rfl (Wk.refl _)) ?_
                        refine wpo_mv (a := (eB false)) rfl rfl rfl (o_mv tk rfl (Wk.refl _)) ?_
                        refine wpo_skip rfl rfl rfl ?_
                        refine wpo_skip rfl rfl rfl ?_
                        refine wpo_mv (a := (eB false)) rfl rfl rfl (o_pick_f tk rfl rfl (Wk.refl _)) ?_
                        refine wpo_mv (a := (eB false)) rfl rfl rfl (o_as tk rfl (Wk.refl _)) ?_
                        refine wpo_nil ?_
                        refine awp_ret ?_
                        obtain rfl := Option.some.inj H122
                        exact ⟨_, (eB false), rfl, (.of_eq rfl), .of_eq ((enc_b td4 sz4).cut _ _ _), ((((((((((hH.noT.drop n17).drop n17_1).drop n17_2).drop n17_3).drop n17_4).drop n5).drop n5_1).drop n5_2).drop n5_3).drop n5_4)⟩
                    · subst hb
                      refine wpo_skip rfl rfl rfl ?_
                      refine wpo_skip rfl rfl rfl ?_
                      refine wpo_skip rfl rfl rfl ?_
                      refine wpo_skip rfl rfl rfl ?_
                      refine wpo_mv (a := (eB false)) rfl rfl rfl (o_pick_f tk rfl rfl (Wk.refl _)) ?_
                      refine wpo_mv (a := (eB false)) rfl rfl rfl (o_mv tk rfl (Wk.refl _)) ?_
                      refine wpo_skip rfl rfl rfl ?_
                      refine wpo_skip rfl rfl rfl ?_
                      refine wpo_skip rfl rfl rfl ?_
                      refine wpo_mv (a := (eB false)) rfl rfl rfl (o_pick_f tk rfl rfl (Wk.refl _)) ?_
                      refine wpo_mv (a := (eB false)) rfl rfl rfl (o_mv tk rfl (Wk.refl _)) ?_
                      refine wpo_skip rfl rfl rfl ?_
                      refine wpo_skip rfl rfl rfl ?_
                      refine wpo_skip rfl rfl rfl ?_
                      refine wpo_mv (a := (eB false)) rfl rfl rfl (o_pick_f tk rfl rfl (Wk.refl _)) ?_
                      refine wpo_mv (a := (eB false)) rfl rfl rfl (o_mv tk rfl (Wk.refl _)) ?_
                      refine wpo_skip rfl rfl rfl ?_
                      refine wpo_skip rfl rfl rfl ?_
                      refine wpo_skip rfl rfl rfl ?_
                      refine wpo_mv (a := (eB false)) rfl rfl rfl (o_pick_f tk rfl rfl (Wk.refl _)) ?_
                      refine wpo_mv (a := (eB false)) rfl rfl rfl (o_mv tk rfl (Wk.refl _)) ?_
                      refine wpo_skip rfl rfl rfl ?_
                      refine wpo_skip rfl rfl rfl ?_
                      refine wpo_skip rfl rfl rfl ?_
                      refine wpo_mv (a := (eB false)) rfl rfl rfl (o_pick_f tk rfl rfl (Wk.refl _)) ?_
                      refine wpo_mv (a := (eB false)) rfl rfl rfl (o_mv tk rfl (Wk.refl _)) ?_
                      refine wpo_skip rfl rfl rfl ?_
                      refine wpo_skip rfl rfl rfl ?_
                      refine wpo_mv (a := (eB false)) rfl rfl rfl (o_pick_f tk rfl rfl (Wk.refl _)) ?_
                      refine wpo_mv (a := (eB false)) rfl rfl rfl (o_as tk rfl (Wk.refl _)) ?_
                      refine wpo_nil ?_
                      refine awp_ret ?_
                      obtain rfl := Option.some.inj H117
                      exact ⟨_, (eB false), rfl, (.of_eq rfl), .of_eq ((enc_b td4 sz4).cut _ _ _), ((((((((((hH.noT.drop n17).drop n17_1).drop n17_2).drop n17_3).drop n17_4).drop n5).drop n5_1).drop n5_2).drop n5_3).drop n5_4)⟩
                  · subst hb
                    refine wpo_skip rfl rfl rfl ?_
                    refine wpo_skip rfl rfl rfl ?_
                    refine wpo_skip rfl rfl rfl ?_
                    refine wpo_mv (a := (eB false)) rfl rfl rfl (o_pick_f tk rfl rfl (Wk.refl _)) ?_
                    refine wpo_mv (a := (eB false)) rfl rfl rfl (o_mv tk rfl (Wk.refl _)) ?_
                    refine wpo_skip rfl rfl rfl ?_
                    refine wpo_skip rfl rfl rfl ?_
                    refine wpo_skip rfl rfl rfl ?_
                    refine wpo_skip rfl rfl rfl ?_
                    refine wpo_mv (a := (eB false)) rfl rfl rfl (o_pick_f tk rfl rfl (Wk.refl _)) ?_
                    refine wpo_mv (a := (eB false)) rfl rfl rfl (o_mv tk rfl (Wk.refl _)) ?_
                    refine wpo_skip rfl rfl rfl ?_
                    refine wpo_skip rfl rfl rfl ?_
                    refine wpo_skip rfl rfl rfl ?_
                    refine wpo_mv (a := (eB false)) rfl rfl rfl (o_pick_f tk rfl rfl (Wk.refl _)) ?_
                    refine wpo_mv (a := (eB false)) rfl rfl rfl (o_mv tk rfl (Wk.refl _)) ?_
                    refine wpo_skip rfl rfl rfl ?_
                    refine wpo_skip rfl rfl rfl ?_
                    refine wpo_skip rfl rfl rfl ?_
                    refine wpo_mv (a := (eB false)) rfl rfl rfl (o_pick_f tk rfl rfl (Wk.refl _)) ?_
                    refine wpo_mv (a := (eB false)) rfl rfl rfl (o_mv tk rfl (Wk.refl _)) ?_
                    refine wpo_skip rfl rfl rfl ?_
                    refine wpo_skip rfl rfl rfl ?_
                    refine wpo_skip rfl rfl rfl ?_
                    refine wpo_mv (a := (eB false)) rfl rfl rfl (o_pick_f tk rfl rfl (Wk.refl _)) ?_
                    refine wpo_mv (a := (eB false)) rfl rfl rfl (o_mv tk rfl (Wk.refl _)) ?_
                    refine wpo_skip rfl rfl rfl ?_
                    refine wpo_skip rfl rfl rfl ?_
                    refine wpo_skip rfl rfl rfl ?_
                    refine wpo_mv (a := (eB false)) rfl rfl rfl (o_pick_f tk rfl rfl (Wk.refl _)) ?_
                    refine wpo_mv (a := (eB false)) rfl rfl rfl (o_mv tk rfl (Wk.refl _)) ?_
                    refine wpo_skip rfl rfl rfl ?_
                    refine wpo_skip rfl rfl rfl ?_
                    refine wpo_mv (a := (eB false)) rfl rfl rfl (o_pick_f tk rfl rfl (Wk.refl _)) ?_
                    refine wpo_mv (a := (eB false)) rfl rfl rfl (o_as tk rfl (Wk.refl _)) ?_
                    refine wpo_nil ?_
                    refine awp_ret ?_
                    obtain rfl := Option.some.inj H112
                    exact ⟨_, (eB false), rfl, (.of_eq rfl), .of_eq ((enc_b td4 sz4).cut _ _ _), ((((((((((hH.noT.drop n17).drop n17_1).drop n17_2).drop n17_3).drop n17_4).drop n5).drop n5_1).drop n5_2).drop n5_3).drop n5_4)⟩
                · subst hb
                  refine wpo_skip rfl rfl rfl ?_
                  refine wpo_skip rfl rfl rfl ?_
                  refine wpo_mv (a := (eB false)) rfl rfl rfl (o_pick_f tk rfl rfl (Wk.refl _)) ?_
                  refine wpo_mv (a := (eB false)) rfl rfl rfl (o_mv tk rfl (Wk.refl _)) ?_
                  refine wpo_skip rfl rfl rfl ?_
                  refine wpo_skip rfl rfl rfl ?_
                  refine wpo_skip rfl rfl rfl ?_
                  refine wpo_mv (a := (eB false)) rfl rfl rfl (o_pick_f tk rfl rfl (Wk.refl _)) ?_
                  refine wpo_mv (a := (eB false)) rfl rfl rfl (o_mv tk rfl (Wk.refl _)) ?_
                  refine wpo_skip rfl rfl rfl ?_
                  refine wpo_skip rfl rfl rfl ?_
                  refine wpo_skip rfl rfl rfl ?_
                  refine wpo_skip rfl rfl rfl ?_
                  refine wpo_mv (a := (eB false)) rfl rfl rfl (o_pick_f tk rfl rfl (Wk.refl _)) ?_
                  refine wpo_mv (a := (eB false)) rfl rfl rfl (o_mv tk rfl (Wk.refl _)) ?_
                  refine wpo_skip rfl rfl rfl ?_
                  refine wpo_skip rfl rfl rfl ?_
                  refine wpo_skip rfl rfl rfl ?_
                  refine wpo_mv (a := (eB false)) rfl rfl rfl (o_pick_f tk rfl rfl (Wk.refl _)) ?_
                  refine wpo_mv (a := (eB false)) rfl rfl rfl (o_mv tk rfl (Wk.refl _)) ?_
                  refine wpo_skip rfl rfl rfl ?_
                  refine wpo_skip rfl rfl rfl ?_
                  refine wpo_skip rfl rfl rfl ?_
                  refine wpo_mv (a := (eB false)) rfl rfl rfl (o_pick_f tk rfl rfl (Wk.refl _)) ?_
                  refine wpo_mv (a := (eB false)) rfl rfl rfl (o_mv tk rfl (Wk.refl _)) ?_
                  refine wpo_skip rfl rfl rfl ?_
                  refine wpo_skip rfl rfl rfl ?_
                  refine wpo_skip rfl rfl rfl ?_
                  refine wpo_mv (a := (eB false)) rfl rfl rfl (o_pick_f tk rfl rfl (Wk.refl _)) ?_
                  refine wpo_mv (a := (eB false)) rfl rfl rfl (o_mv tk rfl (Wk.refl _)) ?_
                  refine wpo_skip rfl rfl rfl ?_
                  refine wpo_skip rfl rfl rfl ?_
                  refine wpo_skip rfl rfl rfl ?_
                  refine wpo_mv (a := (eB false)) rfl rfl rfl (o_pick_f tk rfl rfl (Wk.refl _)) ?_
                  refine wpo_mv (a := (eB false)) rfl rfl rfl (o_mv tk rfl (Wk.refl _)) ?_
                  refine wpo_skip rfl rfl rfl ?_
                  refine wpo_skip rfl rfl rfl ?_
                  refine wpo_mv (a := (eB false)) rfl rfl rfl (o_pick_f tk rfl rfl (Wk.refl _)) ?_
                  refine wpo_mv (a := (eB false)) rfl rfl rfl (o_as tk rfl (Wk.refl _)) ?_
                  refine wpo_nil ?_
                  refine awp_ret ?_
                  obtain rfl := Option.some.inj H109
                  exact ⟨_, (eB false), rfl, (.of_eq rfl), .of_eq ((enc_b td4 sz4).cut _ _ _), ((((((((((hH.noT.drop n17).drop n17_1).drop n17_2).drop n17_3).drop n17_4).drop n5).drop n5_1).drop n5_2).drop n5_3).drop n5_4)⟩
              · subst hb
                refine wpo_skip rfl rfl rfl ?_
                refine wpo_skip rfl rfl rfl ?_
                refine wpo_mv (a := (eB false)) rfl rfl rfl (o_pick_f tk rfl rfl (Wk.refl _)) ?_
                refine wpo_mv (a := (eB false)) rfl rfl rfl (o_mv tk rfl (Wk.refl _)) ?_
                refine wpo_skip rfl rfl rfl ?_
                refine wpo_skip rfl rfl rfl ?_
                refine wpo_mv (a := (eB false)) rfl rfl rfl (o_pick_f tk rfl rfl (Wk.refl _)) ?_
                refine wpo_mv (a := (eB false)) rfl rfl rfl (o_mv tk rfl (Wk.refl _)) ?_
                refine wpo_skip rfl rfl rfl ?_
                refine wpo_skip rfl rfl rfl ?_
                refine wpo_skip rfl rfl rfl ?_
                refine wpo_mv (a := (eB false)) rfl rfl rfl (o_pick_f tk rfl rfl (Wk.refl _)) ?_
                refine wpo_mv (a := (eB false)) rfl rfl rfl (o_mv tk rfl (Wk.refl _)) ?_
                refine wpo_skip rfl rfl rfl ?_
                refine wpo_skip rfl rfl rfl ?_
                refine wpo_skip rfl rfl rfl ?_
                refine wpo_skip rfl rfl rfl ?_
                refine wpo_mv (a := (eB false)) rfl rfl rfl (o_pick_f tk rfl rfl (Wk.refl _)) ?_
                refine wpo_mv (a := (eB false)) rfl rfl rfl (o_mv tk rfl (Wk.refl _)) ?_
                refine wpo_skip rfl rfl rfl ?_
                refine wpo_skip rfl rfl rfl ?_
                refine wpo_skip rfl rfl rfl ?_
                refine wpo_mv (a := (eB false)) rfl rfl rfl (o_pick_f tk rfl rfl (Wk.refl _)) ?_
                refine wpo_mv (a := (eB false)) rfl rfl rfl (o_mv tk rfl (Wk.refl _)) ?_
                refine wpo_skip rfl rfl rfl ?_
                refine wpo_skip rfl rfl rfl ?_
                refine wpo_skip rfl rfl rfl ?_
                refine wpo_mv (a := (eB false)) rfl rfl rfl (o_pick_f tk rfl rfl (Wk.refl _)) ?_
                refine wpo_mv (a := (eB false)) rfl rfl rfl (o_mv tk rfl (Wk.refl _)) ?_
                refine wpo_skip rfl rfl rfl ?_
                refine wpo_skip rfl rfl rfl ?_
                refine wpo_skip rfl rfl rfl ?_
                refine wpo_mv (a := (eB false)) rfl rfl rfl (o_pick_f tk rfl rfl (Wk.refl _)) ?_
                refine wpo_mv (a := (eB false)) rfl rfl rfl (o_mv tk rfl (Wk.refl _)) ?_
                refine wpo_skip rfl rfl rfl ?_
                refine wpo_skip rfl rfl rfl ?_
                refine wpo_skip rfl rfl rfl ?_
                refine wpo_mv (a := (eB false)) rfl rfl rfl (o_pick_f tk rfl rfl (Wk.refl _)) ?_
                refine wpo_mv (a := (eB false)) rfl rfl rfl (o_mv tk rfl (Wk.refl _)) ?_
                refine wpo_skip rfl rfl rfl ?_
                refine wpo_skip rfl rfl rfl ?_
                refine wpo_mv (a := (eB false)) rfl rfl rfl (o_pick_f tk rfl rfl (Wk.refl _)) ?_
                refine wpo_mv (a := (eB false)) rfl rfl rfl (o_as tk rfl (Wk.refl _)) ?_
                refine wpo_nil ?_
                refine awp_ret ?_
                obtain rfl := Option.some.inj H106
                exact ⟨_, (eB false), rfl, (.of_eq rfl), .of_eq ((enc_b td4 sz4).cut _ _ _), ((((((((((hH.noT.drop n17).drop n17_1).drop n17_2).drop n17_3).drop n17_4).drop n5).drop n5_1).drop n5_2).drop n5_3).drop n5_4)⟩
            · subst hb
              refine wpo_skip rfl rfl rfl ?_
              refine wpo_skip rfl rfl rfl ?_
              refine wpo_mv (a := (eB false)) rfl rfl rfl (o_pick_f tk rfl rfl (Wk.refl _)) ?_
              refine wpo_mv (a := (eB false)) rfl rfl rfl (o_mv tk rfl (Wk.refl _)) ?_
              refine wpo_skip rfl rfl rfl ?_
              refine wpo_skip rfl rfl rfl ?_
              refine wpo_mv (a := (eB false)) rfl rfl rfl (o_pick_f tk rfl rfl (Wk.refl _)) ?_
              refine wpo_mv (a := (eB false)) rfl rfl rfl (o_mv tk rfl (Wk.refl _)) ?_
              refine wpo_skip rfl rfl rfl ?_
              refine wpo_skip rfl rfl rfl ?_
              refine wpo_mv (a := (eB false)) rfl rfl rfl (o_pick_f tk rfl rfl (Wk.refl _)) ?_
              refine wpo_mv (a := (eB false)) rfl rfl rfl (o_mv tk rfl (Wk.refl _)) ?_
              refine wpo_skip rfl rfl rfl ?_
              refine wpo_skip rfl rfl rfl ?_
              refine wpo_skip rfl rfl rfl ?_
              refine wpo_mv (a := (eB false)) rfl rfl rfl (o_pick_f tk rfl rfl (Wk.refl _)) ?_
              refine wpo_mv (a := (eB false)) rfl rfl rfl (o_mv tk rfl (Wk.refl _)) ?_
              refine wpo_skip rfl rfl rfl ?_
              refine wpo_skip rfl rfl rfl ?_
              refine wpo_skip rfl rfl rfl ?_
              refine wpo_skip rfl rfl rfl ?_
              refine wpo_mv (a := (eB false)) rfl rfl rfl (o_pick_f tk rfl rfl (Wk.refl _)) ?_
              refine wpo_mv (a := (eB false)) rfl rfl rfl (o_mv tk rfl (Wk.refl _)) ?_
              refine wpo_skip rfl rfl rfl ?_
              refine wpo_skip rfl rfl rfl ?_
              refine wpo_skip rfl rfl rfl ?_
              refine wpo_mv (a := (eB false)) rfl rfl rfl (o_pick_f tk rfl rfl (Wk.refl _)) ?_
              refine wpo_mv (a := (eB false)) rfl rfl rfl (o_mv tk rfl (Wk.refl _)) ?_
              refine wpo_skip rfl rfl rfl ?_
              refine wpo_skip rfl rfl rfl ?_
              refine wpo_skip rfl rfl rfl ?_
              refine wpo_mv (a := (eB false)) rfl rfl rfl (o_pick_f tk rfl rfl (Wk.refl _)) ?_
              refine wpo_mv (a := (eB false)) rfl rfl rfl (o_mv tk rfl (Wk.refl _)) ?_
              refine wpo_skip rfl rfl rfl ?_
              refine wpo_skip rfl rfl rfl ?_
              refine wpo_skip rfl rfl rfl ?_
              refine wpo_mv (a := (eB false)) rfl rfl rfl (o_pick_f tk rfl rfl (Wk.refl _)) ?_
              refine wpo_mv (a := (eB false)) rfl rfl rfl (o_mv tk rfl (Wk.refl _)) ?_
              refine wpo_skip rfl rfl rfl ?_
              refine wpo_skip rfl rfl rfl ?_
              refine wpo_skip rfl rfl rfl ?_
              refine wpo_mv (a := (eB false)) rfl rfl rfl (o_pick_f tk rfl rfl (Wk.refl _)) ?_
              refine wpo_mv (a := (eB false)) rfl rfl rfl (o_mv tk rfl (Wk.refl _)) ?_
              refine wpo_skip rfl rfl rfl ?_
              refine wpo_skip rfl rfl rfl ?_
              refine wpo_mv (a := (eB false)) rfl rfl rfl (o_pick_f tk rfl rfl (Wk.refl _)) ?_
              refine wpo_mv (a := (eB false)) rfl rfl rfl (o_as tk rfl (Wk.refl _)) ?_
              refine wpo_nil ?_
              refine awp_ret ?_
              obtain rfl := Option.some.inj H103
              exact ⟨_, (eB false), rfl, (.of_eq rfl), .of_eq ((enc_b td4 sz4).cut _ _ _), ((((((((((hH.noT.drop n17).drop n17_1).drop n17_2).drop n17_3).drop n17_4).drop n5).drop n5_1).drop n5_2).drop n5_3).drop n5_4)⟩
          · subst hb
            refine wpo_skip rfl rfl rfl ?_
            refine wpo_skip rfl rfl rfl ?_
            refine wpo_mv (a := (eB false)) rfl rfl rfl (o_pick_f tk rfl rfl (Wk.refl _)) ?_
            refine wpo_mv (a := (eB false)) rfl rfl rfl (o_mv tk rfl (Wk.refl _)) ?_
            refine wpo_skip rfl rfl rfl ?_
            refine wpo_skip rfl rfl rfl ?_
            refine wpo_mv (a := (eB false)) rfl rfl rfl (o_pick_f tk rfl rfl (Wk.refl _)) ?_
            refine wpo_mv (a := (eB false)) rfl rfl rfl (o_mv tk rfl (Wk.refl _)) ?_
            refine wpo_skip rfl rfl rfl ?_
            refine wpo_skip rfl rfl rfl ?_
            refine wpo_mv (a := (eB false)) rfl rfl rfl (o_pick_f tk rfl rfl (Wk.refl _)) ?_
            refine wpo_mv (a := (eB false)) rfl rfl rfl (o_mv tk rfl (Wk.refl _)) ?_
            refine wpo_skip rfl rfl rfl ?_
            refine wpo_skip rfl rfl rfl ?_
            refine wpo_mv (a := (eB false)) rfl rfl rfl (o_pick_f tk rfl rfl (Wk.refl _)) ?_
            refine wpo_mv (a := (eB false)) rfl rfl rfl (o_mv tk rfl (Wk.refl _)) ?_
            refine wpo_skip rfl rfl rfl ?_
            refine wpo_skip rfl rfl rfl ?_
            refine wpo_skip rfl rfl rfl ?_
            refine wpo_mv (a := (eB false)) rfl rfl rfl (o_pick_f tk rfl rfl (Wk.refl _)) ?_
            refine wpo_mv (a := (eB false)) rfl rfl rfl (o_mv tk rfl (Wk.refl _)) ?_
            refine wpo_skip rfl rfl rfl ?_
            refine wpo_skip rfl rfl rfl ?_
            refine wpo_skip rfl rfl rfl ?_
            refine wpo_skip rfl rfl rfl ?_
            refine wpo_mv (a := (eB false)) rfl rfl rfl (o_pick_f tk rfl rfl (Wk.refl _)) ?_
            refine wpo_mv (a := (eB false)) rfl rfl rfl (o_mv tk rfl (Wk.refl _)) ?_
            refine wpo_skip rfl rfl rfl ?_
            refine wpo_skip rfl rfl rfl ?_
            refine wpo_skip rfl rfl rfl ?_
            refine wpo_mv (a := (eB false)) rfl rfl rfl (o_pick_f tk rfl rfl (Wk.refl _)) ?_
            refine wpo_mv (a := (eB false)) rfl rfl rfl (o_mv tk rfl (Wk.refl _)) ?_
            refine wpo_skip rfl rfl rfl ?_
            refine wpo_skip rfl rfl rfl ?_
            refine wpo_skip rfl rfl rfl ?_
            refine wpo_mv (a := (eB false)) rfl rfl rfl (o_pick_f tk rfl rfl (Wk.refl _)) ?_
            refine wpo_mv (a := (eB false)) rfl rfl rfl (o_mv tk rfl (Wk.refl _)) ?_
            refine wpo_skip rfl rfl rfl ?_
            refine wpo_skip rfl rfl rfl ?_
            refine wpo_skip rfl rfl rfl ?_
            refine wpo_mv (a := (eB false)) rfl rfl rfl (o_pick_f tk rfl rfl (Wk.refl _)) ?_
            refine wpo_mv (a := (eB false)) rfl rfl rfl (o_mv tk rfl (Wk.refl _)) ?_
            refine wpo_skip rfl rfl rfl ?_
            refine wpo_skip rfl rfl rfl ?_
            refine wpo_skip rfl rfl rfl ?_
            refine wpo_mv (a := (eB false)) rfl rfl rfl (o_pick_f tk rfl rfl (Wk.refl _)) ?_
            refine wpo_mv (a := (eB false)) rfl rfl rfl (o_mv tk rfl (Wk.refl _)) ?_
            refine wpo_skip rfl rfl rfl ?_
            refine wpo_skip rfl rfl rfl ?_
            refine wpo_mv (a := (eB false)) rfl rfl rfl (o_pick_f tk rfl rfl (Wk.refl _)) ?_
            refine wpo_mv (a := (eB false)) rfl rfl rfl (o_as tk rfl (Wk.refl _)) ?_
            refine wpo_nil ?_
            refine awp_ret ?_
            obtain rfl := Option.some.inj H100
            exact ⟨_, (eB false), rfl, (.of_eq rfl), .of_eq ((enc_b td4 sz4).cut _ _ _), ((((((((((hH.noT.drop n17).drop n17_1).drop n17_2).drop n17_3).drop n17_4).drop n5).drop n5_1).drop n5_2).drop n5_3).drop n5_4)⟩
        · subst hb
          refine wpo_skip rfl rfl rfl ?_
          refine wpo_skip rfl rfl rfl ?_
          refine wpo_mv (a := (eB false)) rfl rfl rfl (o_pick_f tk rfl rfl (Wk.refl _)) ?_
          refine wpo_mv (a := (eB false)) rfl rfl rfl (o_mv tk rfl (Wk.refl _)) ?_
          refine wpo_skip rfl rfl rfl ?_
          refine wpo_skip rfl rfl rfl ?_
          refine wpo_mv (a := (eB false)) rfl rfl rfl (o_pick_f tk rfl rfl (Wk.refl _)) ?_
          refine wpo_mv (a := (eB false)) rfl rfl rfl (o_mv tk rfl (Wk.refl _)) ?_
          refine wpo_skip rfl rfl rfl ?_
          refine wpo_skip rfl rfl rfl ?_
          refine wpo_mv (a := (eB false)) rfl rfl rfl (o_pick_f tk rfl rfl (Wk.refl _)) ?_
          refine wpo_mv (a := (eB false)) rfl rfl rfl (o_mv tk rfl (Wk.refl _)) ?_
          refine wpo_skip rfl rfl rfl ?_
          refine wpo_skip rfl rfl rfl ?_
          refine wpo_mv (a := (eB false)) rfl rfl rfl (o_pick_f tk rfl rfl (Wk.refl _)) ?_
          refine wpo_mv (a := (eB false)) rfl rfl rfl (o_mv tk rfl (Wk.refl _)) ?_
          refine wpo_skip rfl rfl rfl ?_
          refine wpo_skip rfl rfl rfl ?_
          refine wpo_mv (a := (eB false)) rfl rfl rfl (o_pick_f tk rfl rfl (Wk.refl _)) ?_
          refine wpo_mv (a := (eB false)) rfl rfl rfl (o_mv tk rfl (Wk.refl _)) ?_
          refine wpo_skip rfl rfl rfl ?_
          refine wpo_skip rfl rfl rfl ?_
          refine wpo_skip rfl rfl rfl ?_
          refine wpo_mv (a := (eB false)) rfl rfl rfl (o_pick_f tk rfl rfl (Wk.refl _)) ?_
          refine wpo_mv (a := (eB false)) rfl rfl rfl (o_mv tk rfl (Wk.refl _)) ?_
          refine wpo_skip rfl rfl rfl ?_
          refine wpo_skip rfl rfl rfl ?_
          refine wpo_skip rfl rfl rfl ?_
          refine wpo_skip rfl rfl rfl ?_
          refine wpo_mv (a := (eB false)) rfl rfl rfl (o_pick_f tk rfl rfl (Wk.refl _)) ?_
          refine wpo_mv (a := (eB false)) rfl rfl rfl (o_mv tk rfl (Wk.refl _)) ?_
          refine wpo_skip rfl rfl rfl ?_
          refine wpo_skip rfl rfl rfl ?_
          refine wpo_skip rfl rfl rfl ?_
          refine wpo_mv (a := (eB false)) rfl rfl rfl (o_pick_f tk rfl rfl (Wk.refl _)) ?_
          refine wpo_mv (a := (eB false)) rfl rfl rfl (o_mv tk rfl (Wk.refl _)) ?_
          refine wpo_skip rfl rfl rfl ?_
          refine wpo_skip rfl rfl rfl ?_
          refine wpo_skip rfl rfl rfl ?_
          refine wpo_mv (a := (eB false)) rfl rfl rfl (o_pick_f tk rfl rfl (Wk.refl _)) ?_
          refine wpo_mv (a := (eB false)) rfl rfl rfl (o_mv tk rfl (Wk.refl _)) ?_
          refine wpo_skip rfl rfl rfl ?_
          refine wpo_skip rfl rfl rfl ?_
          refine wpo_skip rfl rfl rfl ?_
          refine wpo_mv (a := (eB false)) rfl rfl rfl (o_pick_f tk rfl rfl (Wk.refl _)) ?_
          refine wpo_mv (a := (eB false)) rfl rfl rfl (o_mv tk rfl (Wk.refl _)) ?_
          refine wpo_skip rfl rfl rfl ?_
          refine wpo_skip rfl rfl rfl ?_
          refine wpo_skip rfl rfl rfl ?_
          refine wpo_mv (a := (eB false)) rfl rfl rfl (o_pick_f tk rfl rfl (Wk.refl _)) ?_
          refine wpo_mv (a := (eB false)) rfl rfl rfl (o_mv tk rfl (Wk.refl _)) ?_
          refine wpo_skip rfl rfl rfl ?_
          refine wpo_skip rfl rfl rfl ?_
          refine wpo_mv (a := (eB false)) rfl rfl rfl (o_pick_f tk rfl rfl (Wk.refl _)) ?_
          refine wpo_mv (a := (eB false)) rfl rfl rfl (o_as tk rfl (Wk.refl _)) ?_
          refine wpo_nil ?_
          refine awp_ret ?_
          obtain rfl := Option.some.inj H97
          exact ⟨_, (eB false), rfl, (.of_eq rfl), .of_eq ((enc_b td4 sz4).cut _ _ _), ((((((((((hH.noT.drop n17).drop n17_1).drop n17_2).drop n17_3).drop n17_4).drop n5).drop n5_1).drop n5_2).drop n5_3).drop n5_4)⟩
end Go.Proofs.YtobbifgmjkgkfaaDoor
namespace Go.Proofs.YtobbifgmjkgkfaaDoor
open Go Go.Va
set_option linter.unusedVariables false
set_option linter.unusedSimpArgs false
set_option maxRecDepth 20000
theorem butteryref09_New_ok {x0 : Int} {x1 : Int} {r : butteryref09_Lists × Int} (H : butteryref09_New x0 x1 = some r) (σ : St)  : ACall Tryd.prog 25 [(eI x0), (eI x1)] σ (fun a τ => a = .tup [e_butteryref09_Lists r.1, eI r.2] ∧ τ = σ) := by
  unfold butteryref09_New at H
  refine ACall.pure (acall_start tk Tryd.func25 (by decide) rfl (Nat.le_of_ble_eq_true rfl) ?_)
  have hH := Holds.init σ
  refine awp_seq ?_
  refine awp_region rfl ?_
  refine wpo_a (av := fun id => .ref id 0) rfl rfl rfl (h_alloc tk hH ty64 [AV.nils, AV.nils, AV.nils, (eI z_butteryref09_Lists.Nodes)] rfl) fun id1 τ ⟨hH, n2⟩ => ?_
  refine wpo_mv (a := (eI (0 : Int))) rfl rfl rfl (o_as tk rfl (Wk.refl _)) ?_
  refine wpo_nil ?_
  refine awp_seq ?_
  refine awp_seq ?_
  obtain ⟨s3, hs5, hj6⟩ := Option.bind_eq_some_iff.1 H
  refine awp_cutn (fun fr τ => WkF fr (fm [(0, (eI x0)), (1, (eI x1)), (4, (.ref id1 0)), (21, (eB s3))]) ∧ Holds σ [(id1, [AV.nils, AV.nils, AV.nils, (eI z_butteryref09_Lists.Nodes)])] [] τ) ?_ ?_
  · rintro fr τ ⟨hfr, hH⟩
    have H18 := hj6
    refine AWP.fm [(0, (eI x0)), (1, (eI x1)), (4, (.ref id1 0)), (21, (eB s3))] hfr ?_
    refine awp_if H18 rfl (fun H19 => ?_) (fun H19 => ?_)
    · refine awp_seq ?_
      refine awp_region rfl ?_
      refine wpo_mv (a := (.agg [AV.nils, AV.nils, AV.nils, (eI (⟨([] : List (List Int)), ([] : List Int), ([] : List Int), (0 : Int)⟩ : butteryref09_Lists).Nodes)])) rfl rfl rfl (o_c tk false rfl (fun _ => rfl)) ?_
      refine wpo_z rfl rfl (h_st (y := (.agg [AV.nils, AV.nils, AV.nils, (eI (⟨([] : List (List Int)), ([] : List Int), ([] : List Int), (0 : Int)⟩ : butteryref09_Lists).Nodes)])) tk hH 0 rfl ty64 (by simp) rfl rfl (.of_eq rfl) (b := (.agg [AV.nils, AV.nils, AV.nils, (eI (⟨([] : List (List Int)), ([] : List Int), ([] : List Int), (0 : Int)⟩ : butteryref09_Lists).Nodes)])) rfl rfl (Nat.le_of_ble_eq_true rfl) [AV.nils, AV.nils, AV.nils, (eI ((⟨([] : List (List Int)), ([] : List Int), ([] : List Int), (0 : Int)⟩ : butteryref09_Lists) : butteryref09_Lists).Nodes)] rfl) fun τ hH => ?_
      refine wpo_mv (a := (eI (2 : Int))) rfl rfl rfl (o_as tk rfl (Wk.refl _)) ?_
      refine wpo_nil ?_
      refine awp_ret ?_
      obtain rfl := Option.some.inj H19
      exact ⟨_, (.tup [(e_butteryref09_Lists ((⟨([] : List (List Int)), ([] : List Int), ([] : List Int), (0 : Int)⟩ : butteryref09_Lists) : butteryref09_Lists)), (eI (2 : Int))]), (ares_2 (ares_cell hH 0 rfl rfl rfl) rfl), (wk_tup (.cons (wk_agg (.cons (wk_nils _) (.cons (wk_nils _) (.cons (wk_nils _) (.cons (.of_eq rfl) .nil))))) (.cons (.of_eq rfl) .nil))), .of_eq (by simp only [cutAV, cutL, enc64.cut _ _ _, (enc_i64 td34 sz34).cut _ _ _]), (hH.noT.drop n2)⟩
    · refine awp_skip ?_
      refine awp_seq ?_
      refine awp_region rfl ?_
      refine wpo_mv (a := (eI x1)) rfl rfl rfl (o_mv tk rfl (Wk.refl _)) ?_
      refine wpo_mv (a := (eI x0)) rfl rfl rfl (o_mv tk rfl (Wk.refl _)) ?_
      obtain ⟨v22, hv23, H21⟩ := Option.bind_eq_some_iff.1 H19
      refine wpo_a (av := fun t => eT t 1 (eL 1 eI) v22) rfl rfl rfl (h_makew tk hH hv23 td61 ty62 rfl (enc_l td62 sz62 (enc_i64 td3 sz3).cut) (.cons (by exact wk_nils _) .nil) rfl rfl) fun tk24 τ hH => ?_
      refine wpo_mv (a := (.agg [(eT tk24 1 (eL 1 eI) (⟨v22, ([] : List Int), ([] : List Int), x1⟩ : butteryref09_Lists).L), AV.nils, AV.nils, (eI (⟨v22, ([] : List Int), ([] : List Int), x1⟩ : butteryref09_Lists).Nodes)])) rfl rfl rfl (o_c tk false rfl (fun _ => rfl)) ?_
      refine wpo_a (av := fun id => .ref id 0) rfl rfl rfl (h_alloc tk hH ty64 [AV.nils, AV.nils, AV.nils, (eI z_butteryref09_Lists.Nodes)] rfl) fun id25 τ ⟨hH, n26⟩ => ?_
      refine wpo_z rfl rfl (h_st (y := (.agg [(eT tk24 1 (eL 1 eI) (⟨v22, ([] : List Int), ([] : List Int), x1⟩ : butteryref09_Lists).L), AV.nils, AV.nils, (eI (⟨v22, ([] : List Int), ([] : List Int), x1⟩ : butteryref09_Lists).Nodes)])) tk hH 0 rfl ty64 (by simp) rfl rfl (.of_eq rfl) (b := (.agg [(eT tk24 1 (eL 1 eI) (⟨v22, ([] : List Int), ([] : List Int), x1⟩ : butteryref09_Lists).L), AV.nils, AV.nils, (eI (⟨v22, ([] : List Int), ([] : List Int), x1⟩ : butteryref09_Lists).Nodes)])) rfl rfl (Nat.le_of_ble_eq_true rfl) [(eT tk24 1 (eL 1 eI) ((⟨v22, ([] : List Int), ([] : List Int), x1⟩ : butteryref09_Lists) : butteryref09_Lists).L), AV.nils, AV.nils, (eI ((⟨v22, ([] : List Int), ([] : List Int), x1⟩ : butteryref09_Lists) : butteryref09_Lists).Nodes)] rfl) fun τ hH => ?_
      refine wpo_nil ?_
      refine awp_seq ?_
      refine awp_seq ?_
      refine awp_region rfl ?_
      refine wpo_mv (a := (eI (0 : Int))) rfl rfl rfl (o_as tk rfl (Wk.refl _)) ?_
      refine wpo_nil ?_
      refine awp_block ?_
      refine AWP.tokO hH 0 rfl (c1 := fun tk30 => [(eT tk24 1 (eL 1 eI) ((⟨v22, ([] : List Int), ([] : List Int), x1⟩ : butteryref09_Lists) : butteryref09_Lists).L), (eT tk30 1 eI ((⟨v22, ([] : List Int), ([] : List Int), x1⟩ : butteryref09_Lists) : butteryref09_Lists).Free), AV.nils, (eI ((⟨v22, ([] : List Int), ([] : List Int), x1⟩ : butteryref09_Lists) : butteryref09_Lists).Nodes)]) (fun _ => (.same (.tok (.same (.same .nil))))) fun tk30 τ (hH : Holds σ [(id25, [(eT tk24 1 (eL 1 eI) ((⟨v22, ([] : List Int), ([] : List Int), x1⟩ : butteryref09_Lists) : butteryref09_Lists).L), (eT tk30 1 eI ((⟨v22, ([] : List Int), ([] : List Int), x1⟩ : butteryref09_Lists) : butteryref09_Lists).Free), AV.nils, (eI ((⟨v22, ([] : List Int), ([] : List Int), x1⟩ : butteryref09_Lists) : butteryref09_Lists).Nodes)]), (id1, [AV.nils, AV.nils, AV.nils, (eI z_butteryref09_Lists.Nodes)])] [tk30, tk24] τ) => ?_
      refine AWP.wko hH 0 rfl (c1 := [(eT tk24 1 (eL 1 eI) ((⟨v22, ([] : List Int), ([] : List Int), x1⟩ : butteryref09_Lists) : butteryref09_Lists).L), (eT tk30 1 eI ((⟨v22, ([] : List Int), ([] : List Int), x1⟩ : butteryref09_Lists) : butteryref09_Lists).Free), ((eL 1 eI) ((⟨v22, ([] : List Int), ([] : List Int), x1⟩ : butteryref09_Lists) : butteryref09_Lists).Used), (eI ((⟨v22, ([] : List Int), ([] : List Int), x1⟩ : butteryref09_Lists) : butteryref09_Lists).Nodes)]) (.cons (.of_eq rfl) (.cons (.of_eq rfl) (.cons (wk_nils _) (.cons (.of_eq rfl) .nil)))) fun τ (hH : Holds σ [(id25, [(eT tk24 1 (eL 1 eI) ((⟨v22, ([] : List Int), ([] : List Int), x1⟩ : butteryref09_Lists) : butteryref09_Lists).L), (eT tk30 1 eI ((⟨v22, ([] : List Int), ([] : List Int), x1⟩ : butteryref09_Lists) : butteryref09_Lists).Free), ((eL 1 eI) ((⟨v22, ([] : List Int), ([] : List Int), x1⟩ : butteryref09_Lists) : butteryref09_Lists).Used), (eI ((⟨v22, ([] : List Int), ([] : List Int), x1⟩ : butteryref09_Lists) : butteryref09_Lists).Nodes)]), (id1, [AV.nils, AV.nils, AV.nils, (eI z_butteryref09_Lists.Nodes)])] [tk30, tk24] τ) => ?_
      obtain ⟨s38, hs32, hj33⟩ := Option.bind_eq_some_iff.1 H21
      refine awp_cutx 0 (fun fr τ => ∃ tk_id25_Free, WkF fr (fm [(4, (.ref id1 0)), (6, (.ref id25 0))]) ∧ Holds σ [(id25, [(eT tk24 1 (eL 1 eI) s38.L), (eT tk_id25_Free 1 eI s38.Free), ((eL 1 eI) s38.Used), (eI s38.Nodes)]), (id1, [AV.nils, AV.nils, AV.nils, (eI z_butteryref09_Lists.Nodes)])] [tk_id25_Free, tk24] τ) ?_ ?_
      · rintro fr τ ⟨tk_id25_Free, hfr, hH⟩
        have H52 := hj33
        refine AWP.fm [(4, (.ref id1 0)), (6, (.ref id25 0))] hfr ?_
        refine awp_seq ?_
        refine awp_region rfl ?_
        refine wpo_rd (a := (.agg [(eT tk24 1 (eL 1 eI) s38.L), (eT tk_id25_Free 1 eI s38.Free), ((eL 1 eI) s38.Used), (eI s38.Nodes)])) rfl rfl rfl (h_ld tk hH 0 rfl rfl rfl) ?_
        refine wpo_z rfl rfl (h_st (y := (.agg [(eT tk24 1 (eL 1 eI) s38.L), (eT tk_id25_Free 1 eI s38.Free), ((eL 1 eI) s38.Used), (eI s38.Nodes)])) tk hH 1 rfl ty64 (by simp) rfl rfl (.of_eq rfl) (b := (.agg [(eT tk24 1 (eL 1 eI) s38.L), (eT tk_id25_Free 1 eI s38.Free), ((eL 1 eI) s38.Used), (eI s38.Nodes)])) rfl rfl (Nat.le_of_ble_eq_true rfl) [(eT tk24 1 (eL 1 eI) (s38 : butteryref09_Lists).L), (eT tk_id25_Free 1 eI (s38 : butteryref09_Lists).Free), ((eL 1 eI) (s38 : butteryref09_Lists).Used), (eI (s38 : butteryref09_Lists).Nodes)] rfl) fun τ hH => ?_
        refine wpo_mv (a := (eI (0 : Int))) rfl rfl rfl (o_as tk rfl (Wk.refl _)) ?_
        refine wpo_nil ?_
        refine awp_ret ?_
        obtain rfl := Option.some.inj H52
        exact ⟨_, (.tup [(e_butteryref09_Lists (s38 : butteryref09_Lists)), (eI (0 : Int))]), (ares_2 (ares_cell hH 1 rfl rfl rfl) rfl), (wk_tup (.cons (wk_agg (.cons wk_no (.cons wk_no (.cons (.of_eq rfl) (.cons (.of_eq rfl) .nil))))) (.cons (.of_eq rfl) .nil))), .of_eq (by simp only [cutAV, cutL, enc64.cut _ _ _, (enc_i64 td34 sz34).cut _ _ _]), ((hH.noT.drop n26).drop n2)⟩
      · refine awp_loopO (body := fun s => butteryref09_New_b0 x1 s.1 s.2) hs32 (fun (s : Int × butteryref09_Lists) fr τ => ∃ tk_id25_Free, WkF fr (fm [(1, (eI x1)), (4, (.ref id1 0)), (6, (.ref id25 0)), (7, (eI s.1))]) ∧ Holds σ [(id25, [(eT tk24 1 (eL 1 eI) s.2.L), (eT tk_id25_Free 1 eI s.2.Free), ((eL 1 eI) s.2.Used), (eI s.2.Nodes)]), (id1, [AV.nils, AV.nils, AV.nils, (eI z_butteryref09_Lists.Nodes)])] [tk_id25_Free, tk24] τ) ⟨tk30, (wkf_cons (.of_eq rfl) (wkf_cons (.of_eq rfl) (wkf_cons (.of_eq rfl) (wkf_cons (.of_eq rfl) (wkf_nil _))))), hH⟩ ?_
        rintro ⟨c28, c29⟩ fr τ y34 ⟨tk_id25_Free, hfr, hH⟩ hb36 hy37
        have H39 : butteryref09_New_b0 x1 c28 c29 = some y34 := hb36
        unfold butteryref09_New_b0 at H39
        refine AWP.fm [(1, (eI x1)), (4, (.ref id1 0)), (6, (.ref id25 0)), (7, (eI c28))] hfr ?_
        have hH : Holds σ [(id25, [(eT tk24 1 (eL 1 eI) c29.L), (eT tk_id25_Free 1 eI c29.Free), ((eL 1 eI) c29.Used), (eI c29.Nodes)]), (id1, [AV.nils, AV.nils, AV.nils, (eI z_butteryref09_Lists.Nodes)])] [tk_id25_Free, tk24] τ := hH
        refine awp_seq ?_
        refine awp_seq ?_
        refine awp_region rfl ?_
        refine wpo_mv (a := (eI c28)) rfl rfl rfl (o_mv tk rfl (Wk.refl _)) ?_
        refine wpo_mv (a := (eI x1)) rfl rfl rfl (o_mv tk rfl (Wk.refl _)) ?_
        refine wpo_lt H39 eB rfl rfl rfl (o_ar tk rfl rfl rfl) fun v41 H40 => ?_
        refine wpo_nil ?_
        refine awp_if H40 rfl (fun H42 => ?_) (fun H42 => ?_)
        · refine awp_skip ?_
          refine awp_seq ?_
          refine awp_block ?_
          refine awp_region rfl ?_
          refine wpo_mv (a := (.ref id25 1)) rfl rfl rfl (o_c tk false rfl (fun _ => rfl)) ?_
          refine wpo_rd (a := (eT tk_id25_Free 1 eI c29.Free)) rfl rfl rfl (h_ld tk hH 0 rfl rfl rfl) ?_
          refine wpo_mv (a := (eI c28)) rfl rfl rfl (o_mv tk rfl (Wk.refl _)) ?_
          refine wpo_lt H42 (eF 1 eI) rfl rfl rfl (o_c tk false rfl (fun _ => rfl)) fun v44 H43 => ?_
          obtain ⟨v46, hv47, H45⟩ := Option.bind_eq_some_iff.1 H43
          refine wpo_a (av := fun t => eT t 1 eI v46) rfl rfl rfl (h_app tk hH 0 hv47 rfl td62 ty3 rfl (by decide) rfl (src_l td62 rfl)) fun tk48 τ hH => ?_
          refine wpo_mv (a := (.ref id25 1)) rfl rfl rfl (o_c tk false rfl (fun _ => rfl)) ?_
          refine wpo_z rfl rfl (h_st (y := (eT tk48 1 eI v46)) tk hH 0 rfl ty62 (by simp) rfl rfl (.of_eq rfl) (b := (eT tk48 1 eI v46)) rfl rfl (Nat.le_of_ble_eq_true rfl) [(eT tk24 1 (eL 1 eI) ({ c29 with Free := v46 } : butteryref09_Lists).L), (eT tk48 1 eI ({ c29 with Free := v46 } : butteryref09_Lists).Free), ((eL 1 eI) ({ c29 with Free := v46 } : butteryref09_Lists).Used), (eI ({ c29 with Free := v46 } : butteryref09_Lists).Nodes)] rfl) fun τ hH => ?_
          refine wpo_nil ?_
          refine awp_region rfl ?_
          refine wpo_mv (a := (eI c28)) rfl rfl rfl (o_mv tk rfl (Wk.refl _)) ?_
          refine wpo_lt H45 eI rfl rfl rfl (o_ar tk rfl rfl rfl) fun v51 H50 => ?_
          refine wpo_mv (a := (eI v51)) rfl rfl rfl (o_as tk rfl (Wk.refl _)) ?_
          refine wpo_nil ?_
          exact ⟨(v51, ({ c29 with Free := v46 } : butteryref09_Lists)), inj_inl H50, tk48, (wkf_cons (.of_eq rfl) (wkf_cons (.of_eq rfl) (wkf_cons (.of_eq rfl) (wkf_cons (.of_eq rfl) (wkf_nil _))))), hH⟩
        · refine awp_exit ?_
          have hz := hy37 _ (inj_inr H42)
          subst hz
          exact ⟨⟨_, inj_inr H42⟩, tk_id25_Free, (wkf_cons (.of_eq rfl) (wkf_cons (.of_eq rfl) (wkf_nil _))), hH⟩
  · refine awp_region rfl ?_
    refine wpo_mv (a := (eI x0)) rfl rfl rfl (o_mv tk rfl (Wk.refl _)) ?_
    refine wpo_lt hs5 eB rfl rfl rfl (o_ar tk rfl rfl rfl) fun v8 H7 => ?_
    refine wpo_mv (a := (eB v8)) rfl rfl rfl (o_mv tk rfl (Wk.refl _)) ?_
    refine if_split H7 (fun hb H9 => ?_) (fun hb H9 => ?_)
    · subst hb
      refine wpo_skip rfl rfl rfl ?_
      refine wpo_skip rfl rfl rfl ?_
      refine wpo_mv (a := (eB true)) rfl rfl rfl (o_pick_t tk rfl rfl (Wk.refl _)) ?_
      refine wpo_mv (a := (eB true)) rfl rfl rfl (o_mv tk rfl (Wk.refl _)) ?_
      refine wpo_skip rfl rfl rfl ?_
      refine wpo_skip rfl rfl rfl ?_
      refine wpo_mv (a := (eB true)) rfl rfl rfl (o_pick_t tk rfl rfl (Wk.refl _)) ?_
      refine wpo_mv (a := (eB true)) rfl rfl rfl (o_mv tk rfl (Wk.refl _)) ?_
      refine wpo_skip rfl rfl rfl ?_
      refine wpo_skip rfl rfl rfl ?_
      refine wpo_mv (a := (eB true)) rfl rfl rfl (o_pick_t tk rfl rfl (Wk.refl _)) ?_
      refine wpo_nil ?_
      have e := Option.some.inj H9
      subst e
      exact ⟨(wkf_cons (.of_eq rfl) (wkf_cons (.of_eq rfl) (wkf_cons (.of_eq rfl) (wkf_cons (.of_eq rfl) (wkf_nil _))))), hH⟩
    · subst hb
      refine wpo_mv (a := (eI x0)) rfl rfl rfl (o_mv tk rfl (Wk.refl _)) ?_
      refine wpo_lt H9 eB rfl rfl rfl (o_ar tk rfl rfl rfl) fun v11 H10 => ?_
      refine wpo_mv (a := (eB v11)) rfl rfl rfl (o_pick_f tk rfl rfl (Wk.refl _)) ?_
      refine wpo_mv (a := (eB v11)) rfl rfl rfl (o_mv tk rfl (Wk.refl _)) ?_
      refine if_split H10 (fun hb H12 => ?_) (fun hb H12 => ?_)
      · subst hb
        refine wpo_skip rfl rfl rfl ?_
        refine wpo_skip rfl rfl rfl ?_
        refine wpo_mv (a := (eB true)) rfl rfl rfl (o_pick_t tk rfl rfl (Wk.refl _)) ?_
        refine wpo_mv (a := (eB true)) rfl rfl rfl (o_mv tk rfl (Wk.refl _)) ?_
        refine wpo_skip rfl rfl rfl ?_
        refine wpo_skip rfl rfl rfl ?_
        refine wpo_mv (a := (eB true)) rfl rfl rfl (o_pick_t tk rfl rfl (Wk.refl _)) ?_
        refine wpo_nil ?_
        have e := Option.some.inj H12
        subst e
        exact ⟨(wkf_cons (.of_eq rfl) (wkf_cons (.of_eq rfl) (wkf_cons (.of_eq rfl) (wkf_cons (.of_eq rfl) (wkf_nil _))))), hH⟩
      · subst hb
        refine wpo_mv (a := (eI x1)) rfl rfl rfl (o_mv tk rfl (Wk.refl _)) ?_
        refine wpo_lt H12 eB rfl rfl rfl (o_ar tk rfl rfl rfl) fun v14 H13 => ?_
        refine wpo_mv (a := (eB v14)) rfl rfl rfl (o_pick_f tk rfl rfl (Wk.refl _)) ?_
        refine wpo_mv (a := (eB v14)) rfl rfl rfl (o_mv tk rfl (Wk.refl _)) ?_
        refine if_split H13 (fun hb H15 => ?_) (fun hb H15 => ?_)
        · subst hb
          refine wpo_skip rfl rfl rfl ?_
          refine wpo_skip rfl rfl rfl ?_
          refine wpo_mv (a := (eB true)) rfl rfl rfl (o_pick_t tk rfl rfl (Wk.refl _)) ?_
          refine wpo_nil ?_
          have e := Option.some.inj H15
          subst e
          exact ⟨(wkf_cons (.of_eq rfl) (wkf_cons (.of_eq rfl) (wkf_cons (.of_eq rfl) (wkf_cons (.of_eq rfl) (wkf_nil _))))), hH⟩
        · subst hb
          refine wpo_mv (a := (eI x1)) rfl rfl rfl (o_mv tk rfl (Wk.refl _)) ?_
          refine wpo_lt H15 eB rfl rfl rfl (o_ar tk rfl rfl rfl) fun v17 H16 => ?_
          refine wpo_mv (a := (eB v17)) rfl rfl rfl (o_pick_f tk rfl rfl (Wk.refl _)) ?_
          refine wpo_nil ?_
          have e := Option.some.inj H16
          subst e
          exact ⟨(wkf_cons (.of_eq rfl) (wkf_cons (.of_eq rfl) (wkf_cons (.of_eq rfl) (wkf_cons (.of_eq rfl) (wkf_nil _))))), hH⟩
end Go.Proofs.YtobbifgmjkgkfaaDoor
namespace Go.Proofs.YtobbifgmjkgkfaaDoor
open Go Go.Va
set_option linter.unusedVariables false
set_option linter.unusedSimpArgs false
set_option maxRecDepth 20000
theorem butteryref09_with_ok {x0 : butteryref09_Lists} {x1 : Int} {x2 : List Int} {r : butteryref09_Lists} (H : butteryref09_with x0 x1 x2 = some r) (σ : St)  : ACall Tryd.prog 79 [(e_butteryref09_Lists x0), (eI x1), ((eL 1 eI) x2)] σ (fun a τ => a = e_butteryref09_Lists r ∧ τ = σ) := by
  unfold butteryref09_with at H
  refine ACall.pure (acall_start tk Tryd.func79 (by decide) rfl (Nat.le_of_ble_eq_true rfl) ?_)
  have hH := Holds.init σ
  refine awp_seq ?_
  refine awp_region rfl ?_
  refine wpo_mv (a := (.fptr (c_butteryref09_Lists x0) 0)) rfl rfl rfl (o_boxf tk rfl (.of_eq rfl) (b := (e_butteryref09_Lists x0)) (enc64.flat _)) ?_
  refine wpo_a (av := fun id => .ref id 0) rfl rfl rfl (h_alloc tk hH ty64 [AV.nils, AV.nils, AV.nils, (eI z_butteryref09_Lists.Nodes)] rfl) fun id1 τ ⟨hH, n2⟩ => ?_
  refine wpo_nil ?_
  refine awp_seq ?_
  refine awp_region rfl ?_
  refine wpo_mv (a := (e_butteryref09_Lists x0)) rfl rfl rfl (o_ld tk rfl rfl) ?_
  refine wpo_a (av := fun id => .ref id 0) rfl rfl rfl (h_alloc tk hH ty64 [AV.nils, AV.nils, AV.nils, (eI z_butteryref09_Lists.Nodes)] rfl) fun id3 τ ⟨hH, n4⟩ => ?_
  refine wpo_z rfl rfl (h_st tk hH 0 rfl ty64 (by simp) rfl rfl (.of_eq rfl) (b := (e_butteryref09_Lists x0)) (enc64.flat _) rfl (Nat.le_of_ble_eq_true rfl) (c_butteryref09_Lists (x0 : butteryref09_Lists)) rfl) fun τ hH => ?_
  refine wpo_nil ?_
  refine awp_seq ?_
  refine awp_region rfl ?_
  refine wpo_mv (a := (.ref id3 0)) rfl rfl rfl (o_c tk false rfl (fun _ => rfl)) ?_
  refine wpo_z rfl rfl (h_st (y := AV.nils) tk hH 0 rfl ty61 (by simp) rfl rfl (.of_eq rfl) (b := AV.nils) rfl rfl (Nat.le_of_ble_eq_true rfl) [AV.nils, ((eL 1 eI) ({ (x0 : butteryref09_Lists) with L := [] } : butteryref09_Lists).Free), ((eL 1 eI) ({ (x0 : butteryref09_Lists) with L := [] } : butteryref09_Lists).Used), (eI ({ (x0 : butteryref09_Lists) with L := [] } : butteryref09_Lists).Nodes)] rfl) fun τ hH => ?_
  refine wpo_nil ?_
  refine awp_seq ?_
  refine awp_region rfl ?_
  refine wpo_mv (a := (.ref id3 0)) rfl rfl rfl (o_c tk false rfl (fun _ => rfl)) ?_
  refine wpo_rd (a := AV.nils) rfl rfl rfl (h_ld tk hH 0 rfl rfl rfl) ?_
  refine wpo_mv (a := (.fptr (c_butteryref09_Lists x0) 0)) rfl rfl rfl (o_c tk false rfl (fun _ => rfl)) ?_
  refine wpo_mv (a := ((eL 1 (eL 1 eI)) x0.L)) rfl rfl rfl (o_ld tk rfl rfl) ?_
  obtain ⟨v8, hv9, H7⟩ := Option.bind_eq_some_iff.1 H
  refine wpo_a (av := fun b => .vec b 1 (v8).length) rfl rfl rfl (h_appV0 tk hH hv9 (enc_l td62 sz62 (enc_i64 td3 sz3).cut) td61 ty62 rfl (by decide) (by simp) (.inl rfl) (srv_l (enc_l td62 sz62 (enc_i64 td3 sz3).cut) td61 rfl)) fun id10 τ ⟨hH, n11⟩ => ?_
  refine wpo_mv (a := (.ref id3 0)) rfl rfl rfl (o_c tk false rfl (fun _ => rfl)) ?_
  refine wpo_z rfl rfl (h_st (y := (.vec id10 1 (v8).length)) tk hH 1 rfl ty61 (by simp) rfl rfl (.of_eq rfl) (b := (.vec id10 1 (v8).length)) rfl rfl (Nat.le_of_ble_eq_true rfl) [(.vec id10 1 (v8).length), ((eL 1 eI) ({ ({ (x0 : butteryref09_Lists) with L := [] } : butteryref09_Lists) with L := v8 } : butteryref09_Lists).Free), ((eL 1 eI) ({ ({ (x0 : butteryref09_Lists) with L := [] } : butteryref09_Lists) with L := v8 } : butteryref09_Lists).Used), (eI ({ ({ (x0 : butteryref09_Lists) with L := [] } : butteryref09_Lists) with L := v8 } : butteryref09_Lists).Nodes)] rfl) fun τ hH => ?_
  refine wpo_nil ?_
  refine awp_seq ?_
  refine awp_region rfl ?_
  refine wpo_mv (a := (.ref id3 0)) rfl rfl rfl (o_c tk false rfl (fun _ => rfl)) ?_
  refine wpo_rd (a := (.vec id10 1 (v8).length)) rfl rfl rfl (h_ld tk hH 1 rfl rfl rfl) ?_
  refine wpo_mv (a := (eI x1)) rfl rfl rfl (o_mv tk rfl (Wk.refl _)) ?_
  refine wpo_mv (a := ((eL 1 eI) x2)) rfl rfl rfl (o_mv tk rfl (Wk.refl _)) ?_
  refine wpo_bd H7 (fun _ => .ref id10 (0 + (x1 : Int).toNat * 1 + 0)) rfl rfl rfl (fun v14 hv => o_vecx tk hv td61 sz62 (by decide) rfl rfl) fun v14 hv14 H13 => ?_
  obtain ⟨c16, hc17, H15⟩ := Option.bind_eq_some_iff.1 H13
  refine wpo_z rfl rfl (h_stx tk hH 0 hc17 rfl (enc_l td62 sz62 (enc_i64 td3 sz3).cut) ty62 (by simp) rfl rfl (.of_eq rfl) (b := ((eL 1 eI) x2)) rfl rfl (by decide) (fun _ => rfl)) fun τ hH => ?_
  refine wpo_nil ?_
  refine awp_seq ?_
  refine AWP.frzF hH 1 0 0 rfl rfl n11 (by decide) (enc_l td62 sz62 (enc_i64 td3 sz3).cut) rfl (updA_len hc17) fun tk18 τ (hH : Holds σ [(id3, [(eT tk18 1 (eL 1 eI) ({ ({ ({ (x0 : butteryref09_Lists) with L := [] } : butteryref09_Lists) with L := v8 } : butteryref09_Lists) with L := c16 } : butteryref09_Lists).L), ((eL 1 eI) ({ ({ ({ (x0 : butteryref09_Lists) with L := [] } : butteryref09_Lists) with L := v8 } : butteryref09_Lists) with L := c16 } : butteryref09_Lists).Free), ((eL 1 eI) ({ ({ ({ (x0 : butteryref09_Lists) with L := [] } : butteryref09_Lists) with L := v8 } : butteryref09_Lists) with L := c16 } : butteryref09_Lists).Used), (eI ({ ({ ({ (x0 : butteryref09_Lists) with L := [] } : butteryref09_Lists) with L := v8 } : butteryref09_Lists) with L := c16 } : butteryref09_Lists).Nodes)]), (id1, [AV.nils, AV.nils, AV.nils, (eI z_butteryref09_Lists.Nodes)])] [tk18] τ) => ?_
  refine awp_region rfl ?_
  refine wpo_rd (a := (.agg [(eT tk18 1 (eL 1 eI) ({ ({ ({ (x0 : butteryref09_Lists) with L := [] } : butteryref09_Lists) with L := v8 } : butteryref09_Lists) with L := c16 } : butteryref09_Lists).L), ((eL 1 eI) ({ ({ ({ (x0 : butteryref09_Lists) with L := [] } : butteryref09_Lists) with L := v8 } : butteryref09_Lists) with L := c16 } : butteryref09_Lists).Free), ((eL 1 eI) ({ ({ ({ (x0 : butteryref09_Lists) with L := [] } : butteryref09_Lists) with L := v8 } : butteryref09_Lists) with L := c16 } : butteryref09_Lists).Used), (eI ({ ({ ({ (x0 : butteryref09_Lists) with L := [] } : butteryref09_Lists) with L := v8 } : butteryref09_Lists) with L := c16 } : butteryref09_Lists).Nodes)])) rfl rfl rfl (h_ld tk hH 0 rfl rfl rfl) ?_
  refine wpo_z rfl rfl (h_st (y := (.agg [(eT tk18 1 (eL 1 eI) ({ ({ ({ (x0 : butteryref09_Lists) with L := [] } : butteryref09_Lists) with L := v8 } : butteryref09_Lists) with L := c16 } : butteryref09_Lists).L), ((eL 1 eI) ({ ({ ({ (x0 : butteryref09_Lists) with L := [] } : butteryref09_Lists) with L := v8 } : butteryref09_Lists) with L := c16 } : butteryref09_Lists).Free), ((eL 1 eI) ({ ({ ({ (x0 : butteryref09_Lists) with L := [] } : butteryref09_Lists) with L := v8 } : butteryref09_Lists) with L := c16 } : butteryref09_Lists).Used), (eI ({ ({ ({ (x0 : butteryref09_Lists) with L := [] } : butteryref09_Lists) with L := v8 } : butteryref09_Lists) with L := c16 } : butteryref09_Lists).Nodes)])) tk hH 1 rfl ty64 (by simp) rfl rfl (.of_eq rfl) (b := (.agg [(eT tk18 1 (eL 1 eI) ({ ({ ({ (x0 : butteryref09_Lists) with L := [] } : butteryref09_Lists) with L := v8 } : butteryref09_Lists) with L := c16 } : butteryref09_Lists).L), ((eL 1 eI) ({ ({ ({ (x0 : butteryref09_Lists) with L := [] } : butteryref09_Lists) with L := v8 } : butteryref09_Lists) with L := c16 } : butteryref09_Lists).Free), ((eL 1 eI) ({ ({ ({ (x0 : butteryref09_Lists) with L := [] } : butteryref09_Lists) with L := v8 } : butteryref09_Lists) with L := c16 } : butteryref09_Lists).Used), (eI ({ ({ ({ (x0 : butteryref09_Lists) with L := [] } : butteryref09_Lists) with L := v8 } : butteryref09_Lists) with L := c16 } : butteryref09_Lists).Nodes)])) rfl rfl (Nat.le_of_ble_eq_true rfl) [(eT tk18 1 (eL 1 eI) (({ ({ ({ (x0 : butteryref09_Lists) with L := [] } : butteryref09_Lists) with L := v8 } : butteryref09_Lists) with L := c16 } : butteryref09_Lists) : butteryref09_Lists).L), ((eL 1 eI) (({ ({ ({ (x0 : butteryref09_Lists) with L := [] } : butteryref09_Lists) with L := v8 } : butteryref09_Lists) with L := c16 } : butteryref09_Lists) : butteryref09_Lists).Free), ((eL 1 eI) (({ ({ ({ (x0 : butteryref09_Lists) with L := [] } : butteryref09_Lists) with L := v8 } : butteryref09_Lists) with L := c16 } : butteryref09_Lists) : butteryref09_Lists).Used), (eI (({ ({ ({ (x0 : butteryref09_Lists) with L := [] } : butteryref09_Lists) with L := v8 } : butteryref09_Lists) with L := c16 } : butteryref09_Lists) : butteryref09_Lists).Nodes)] rfl) fun τ hH => ?_
  refine wpo_nil ?_
  refine awp_ret ?_
  obtain rfl := Option.some.inj H15
  exact ⟨_, (e_butteryref09_Lists (({ ({ ({ (x0 : butteryref09_Lists) with L := [] } : butteryref09_Lists) with L := v8 } : butteryref09_Lists) with L := c16 } : butteryref09_Lists) : butteryref09_Lists)), (ares_1 (ares_cell hH 1 rfl rfl rfl)), (wk_agg (.cons wk_no (.cons (.of_eq rfl) (.cons (.of_eq rfl) (.cons (.of_eq rfl) .nil))))), .of_eq (enc64.cut _ _ _), ((hH.noT.drop n4).drop n2)⟩
end Go.Proofs.YtobbifgmjkgkfaaDoor
namespace Go.Proofs.YtobbifgmjkgkfaaDoor
open Go Go.Va
set_option linter.unusedVariables false
set_option linter.unusedSimpArgs false
set_option maxRecDepth 20000
theorem butteryref09_ahead_app {x0 : List Int} {x1 : Int} {r : (List Int)} (H : butteryref09_ahead x0 x1 = some r) (σ : St)  : ACall Tryd.prog 80 [((eL 1 eI) x0), (eI x1)] σ (fun a τ => a = .sl (.own σ.opn.length) 1 (r.map eI) ∧ τ = σ.more) := by
  unfold butteryref09_ahead at H
  refine ACall.app (fun ρ κ => cutL_enc (enc_i64 td3 sz3).cut ρ κ r) (acall_start tk Tryd.func80 (by decide) rfl (Nat.le_of_ble_eq_true rfl) ?_)
  have hH := Holds.init σ
  refine awp_seq ?_
  refine awp_region rfl ?_
  refine wpo_mv (a := AV.nils) rfl rfl rfl (o_as tk rfl (Wk.refl _)) ?_
  refine wpo_nil ?_
  refine awp_seq ?_
  refine awp_region rfl ?_
  refine wpo_mv (a := (eI x1)) rfl rfl rfl (o_mv tk rfl (Wk.refl _)) ?_
  refine wpo_lt H (eF 1 eI) rfl rfl rfl (o_c tk false rfl (fun _ => rfl)) fun v2 H1 => ?_
  refine wpo_mv (a := (eF 1 eI v2)) rfl rfl rfl (o_as tk rfl (Wk.refl _)) ?_
  refine wpo_nil ?_
  refine awp_seq ?_
  refine awp_region rfl ?_
  refine wpo_mv (a := (eF 1 eI v2)) rfl rfl rfl (o_mv tk rfl (Wk.refl _)) ?_
  refine wpo_mv (a := ((eL 1 eI) x0)) rfl rfl rfl (o_mv tk rfl (Wk.refl _)) ?_
  obtain ⟨v4, hv5, H3⟩ := Option.bind_eq_some_iff.1 H1
  refine wpo_a (av := fun t => eT t 1 eI v4) rfl rfl rfl (h_app0 tk hH hv5 td62 ty3 rfl (by decide) (.inr rfl) (src_l td62 rfl)) fun tk6 τ hH => ?_
  refine wpo_mv (a := (eT tk6 1 eI v4)) rfl rfl rfl (o_as tk rfl (Wk.refl _)) ?_
  refine wpo_nil ?_
  refine awp_ret ?_
  obtain rfl := Option.some.inj H3
  exact ⟨_, (eT tk6 1 eI v4), rfl, .of_eq rfl, tk6, rfl, hH⟩
theorem butteryref09_ahead_ok {x0 : List Int} {x1 : Int} {r : (List Int)} (H : butteryref09_ahead x0 x1 = some r) (σ : St) : ACall Tryd.prog 80 [((eL 1 eI) x0), (eI x1)] σ (fun a τ => a = (eL 1 eI) r ∧ τ = σ) := (butteryref09_ahead_app H σ).unapp (fun ρ κ => cutL_enc (enc_i64 td3 sz3).cut ρ κ r)
end Go.Proofs.YtobbifgmjkgkfaaDoor
namespace Go.Proofs.YtobbifgmjkgkfaaDoor
open Go Go.Va
set_option linter.unusedVariables false
set_option linter.unusedSimpArgs false
set_option maxRecDepth 20000
theorem butteryref09_Add_ok {x0 : butteryref09_Lists} {x1 : Int} {r : butteryref09_Lists × Int × Int} (H : butteryref09_Add x0 x1 = some r) (σ : St)  : ACall Tryd.prog 59 [(e_butteryref09_Lists x0), (eI x1)] σ (fun a τ => a = .tup [e_butteryref09_Lists r.1, eI r.2.1, eI r.2.2] ∧ τ = σ) := by
  unfold butteryref09_Add at H
  refine ACall.pure (acall_start tk Tryd.func59 (by decide) rfl (Nat.le_of_ble_eq_true rfl) ?_)
  have hH := Holds.init σ
  refine awp_seq ?_
  refine awp_region rfl ?_
  refine wpo_mv (a := (.fptr (c_butteryref09_Lists x0) 0)) rfl rfl rfl (o_boxf tk rfl (.of_eq rfl) (b := (e_butteryref09_Lists x0)) (enc64.flat _)) ?_
  refine wpo_a (av := fun id => .ref id 0) rfl rfl rfl (h_alloc tk hH ty64 [AV.nils, AV.nils, AV.nils, (eI z_butteryref09_Lists.Nodes)] rfl) fun id1 τ ⟨hH, n2⟩ => ?_
  refine wpo_mv (a := (eI (0 : Int))) rfl rfl rfl (o_as tk rfl (Wk.refl _)) ?_
  refine wpo_mv (a := (eI (0 : Int))) rfl rfl rfl (o_as tk rfl (Wk.refl _)) ?_
  refine wpo_nil ?_
  refine awp_seq ?_
  refine awp_seq ?_
  obtain ⟨s3, hs5, hj6⟩ := Option.bind_eq_some_iff.1 H
  refine awp_cutn (fun fr τ => WkF fr (fm [(1, (eI x1)), (2, (.fptr (c_butteryref09_Lists x0) 0)), (4, (.ref id1 0)), (17, (eB s3))]) ∧ Holds σ [(id1, [AV.nils, AV.nils, AV.nils, (eI z_butteryref09_Lists.Nodes)])] [] τ) ?_ ?_
  · rintro fr τ ⟨hfr, hH⟩
    have H14 := hj6
    refine AWP.fm [(1, (eI x1)), (2, (.fptr (c_butteryref09_Lists x0) 0)), (4, (.ref id1 0)), (17, (eB s3))] hfr ?_
    refine awp_if H14 rfl (fun H15 => ?_) (fun H15 => ?_)
    · refine awp_seq ?_
      refine awp_region rfl ?_
      refine wpo_mv (a := (e_butteryref09_Lists x0)) rfl rfl rfl (o_ld tk rfl rfl) ?_
      refine wpo_z rfl rfl (h_st tk hH 0 rfl ty64 (by simp) rfl rfl (.of_eq rfl) (b := (e_butteryref09_Lists x0)) (enc64.flat _) rfl (Nat.le_of_ble_eq_true rfl) (c_butteryref09_Lists (x0 : butteryref09_Lists)) rfl) fun τ hH => ?_
      refine wpo_mv (a := (eI (-1 : Int))) rfl rfl rfl (o_as tk rfl (Wk.refl _)) ?_
      refine wpo_mv (a := (eI (2 : Int))) rfl rfl rfl (o_as tk rfl (Wk.refl _)) ?_
      refine wpo_nil ?_
      refine awp_ret ?_
      obtain rfl := Option.some.inj H15
      exact ⟨_, (.tup [(e_butteryref09_Lists (x0 : butteryref09_Lists)), (eI (-1 : Int)), (eI (2 : Int))]), (ares_3 (ares_cell hH 0 rfl rfl rfl) rfl rfl), (wk_tup (.cons (.of_eq rfl) (.cons (.of_eq rfl) (.cons (.of_eq rfl) .nil)))), .of_eq (by simp only [cutAV, cutL, enc64.cut _ _ _, (enc_i64 td3 sz3).cut _ _ _, (enc_i64 td34 sz34).cut _ _ _]), (hH.noT.drop n2)⟩
    · refine awp_skip ?_
      refine awp_seq ?_
      refine awp_seq ?_
      refine awp_region rfl ?_
      refine wpo_mv (a := (.fptr (c_butteryref09_Lists x0) 1)) rfl rfl rfl (o_c tk false rfl (fun _ => rfl)) ?_
      refine wpo_mv (a := ((eL 1 eI) x0.Free)) rfl rfl rfl (o_ld tk rfl rfl) ?_
      refine wpo_lt H15 eI rfl rfl rfl (o_len tk td62 rfl) fun v18 H17 => ?_
      refine wpo_lt H17 eB rfl rfl rfl (o_ar tk rfl rfl rfl) fun v20 H19 => ?_
      refine wpo_nil ?_
      refine awp_if H19 rfl (fun H21 => ?_) (fun H21 => ?_)
      · refine awp_seq ?_
        refine awp_region rfl ?_
        refine wpo_mv (a := (e_butteryref09_Lists x0)) rfl rfl rfl (o_ld tk rfl rfl) ?_
        refine wpo_z rfl rfl (h_st tk hH 0 rfl ty64 (by simp) rfl rfl (.of_eq rfl) (b := (e_butteryref09_Lists x0)) (enc64.flat _) rfl (Nat.le_of_ble_eq_true rfl) (c_butteryref09_Lists (x0 : butteryref09_Lists)) rfl) fun τ hH => ?_
        refine wpo_mv (a := (eI (-1 : Int))) rfl rfl rfl (o_as tk rfl (Wk.refl _)) ?_
        refine wpo_mv (a := (eI (4 : Int))) rfl rfl rfl (o_as tk rfl (Wk.refl _)) ?_
        refine wpo_nil ?_
        refine awp_ret ?_
        obtain rfl := Option.some.inj H21
        exact ⟨_, (.tup [(e_butteryref09_Lists (x0 : butteryref09_Lists)), (eI (-1 : Int)), (eI (4 : Int))]), (ares_3 (ares_cell hH 0 rfl rfl rfl) rfl rfl), (wk_tup (.cons (.of_eq rfl) (.cons (.of_eq rfl) (.cons (.of_eq rfl) .nil)))), .of_eq (by simp only [cutAV, cutL, enc64.cut _ _ _, (enc_i64 td3 sz3).cut _ _ _, (enc_i64 td34 sz34).cut _ _ _]), (hH.noT.drop n2)⟩
      · refine awp_skip ?_
        refine awp_seq ?_
        refine awp_region rfl ?_
        refine wpo_mv (a := (.fptr (c_butteryref09_Lists x0) 1)) rfl rfl rfl (o_c tk false rfl (fun _ => rfl)) ?_
        refine wpo_mv (a := ((eL 1 eI) x0.Free)) rfl rfl rfl (o_ld tk rfl rfl) ?_
        refine wpo_bd H21 (fun y => .fptr (eI y).cells 0) rfl rfl rfl (fun v24 hv => o_ixa tk hv td62 (enc_i64 td3 sz3) rfl rfl) fun v24 hv24 H23 => ?_
        refine wpo_mv (a := (eI v24)) rfl rfl rfl (o_ld_e tk (enc_i64 td3 sz3) rfl rfl) ?_
        refine wpo_mv (a := (eI v24)) rfl rfl rfl (o_as tk rfl (Wk.refl _)) ?_
        refine wpo_nil ?_
        refine awp_seq ?_
        refine awp_drawS mixed [10, 11] rfl (by decide +kernel) rfl rfl ?_
        refine wpdS_mv (a := (e_butteryref09_Lists x0)) rfl rfl rfl (o_ld tk rfl rfl) ?_
        refine wpdS_mv (a := (eI x1)) rfl rfl rfl (o_mv tk rfl (Wk.refl _)) ?_
        refine wpdS_mv (a := (.fptr (c_butteryref09_Lists x0) 0)) rfl rfl rfl (o_c tk false rfl (fun _ => rfl)) ?_
        refine wpdS_mv (a := ((eL 1 (eL 1 eI)) x0.L)) rfl rfl rfl (o_ld tk rfl rfl) ?_
        refine wpdS_mv (a := (eI x1)) rfl rfl rfl (o_mv tk rfl (Wk.refl _)) ?_
        refine wpdS_bd H23 (fun y => .fptr ((eL 1 eI) y).cells 0) rfl rfl rfl (fun v26 hv => o_ixa tk hv td61 (enc_l td62 sz62 (enc_i64 td3 sz3).cut) rfl rfl) fun v26 hv26 H25 => ?_
        refine wpdS_mv (a := ((eL 1 eI) v26)) rfl rfl rfl (o_ld_e tk (enc_l td62 sz62 (enc_i64 td3 sz3).cut) rfl rfl) ?_
        refine wpdS_mv (a := (eI v24)) rfl rfl rfl (o_mv tk rfl (Wk.refl _)) ?_
        refine wpdS_bd H25 (eL 1 eI) rfl rfl rfl (fun v28 hv => OpP.of_call rfl rfl (.cons (.of_eq rfl) (.cons (.of_eq rfl) .nil)) (butteryref09_ahead_ok hv)) fun v28 hv28 H27 => ?_
        refine wpdS_bd H27 e_butteryref09_Lists rfl rfl rfl (fun v30 hv => OpP.of_call rfl rfl (.cons (.of_eq rfl) (.cons (.of_eq rfl) (.cons (.of_eq rfl) .nil))) (butteryref09_with_ok hv)) fun v30 hv30 H29 => ?_
        refine wpdS_a (av := fun id => .ref id 0) rfl rfl rfl (h_alloc tk hH ty64 [AV.nils, AV.nils, AV.nils, (eI z_butteryref09_Lists.Nodes)] rfl) fun id31 τ ⟨hH, n32⟩ => ?_
        refine wpdS_z rfl rfl rfl (h_st tk hH 0 rfl ty64 (by simp) rfl rfl (.of_eq rfl) (b := (e_butteryref09_Lists v30)) (enc64.flat _) rfl (Nat.le_of_ble_eq_true rfl) (c_butteryref09_Lists (v30 : butteryref09_Lists)) rfl) fun τ hH => ?_
        refine wpdS_nil ?_
        refine awp_seq ?_
        refine awp_region rfl ?_
        refine wpo_mv (a := (.fptr (c_butteryref09_Lists x0) 1)) rfl rfl rfl (o_c tk false rfl (fun _ => rfl)) ?_
        refine wpo_mv (a := ((eL 1 eI) x0.Free)) rfl rfl rfl (o_ld tk rfl rfl) ?_
        refine wpo_bd H29 (eL 1 eI) rfl rfl rfl (fun v35 hv => o_cutFrom tk hv td62 (enc_i64 td3 sz3) rfl rfl) fun v35 hv35 H34 => ?_
        refine wpo_mv (a := (.ref id31 1)) rfl rfl rfl (o_c tk false rfl (fun _ => rfl)) ?_
        obtain ⟨c37, hc38, H36⟩ := lt_ex H34
        refine wpo_z rfl rfl (h_st tk hH 0 rfl ty62 (by simp) rfl rfl (.of_eq rfl) (b := ((eL 1 eI) v35)) rfl rfl (Nat.le_of_ble_eq_true rfl) (c_butteryref09_Lists c37) (by rw [← hc38]; rfl)) fun τ hH => ?_
        refine wpo_nil ?_
        refine awp_seq ?_
        refine awp_region rfl ?_
        refine wpo_mv (a := (.fptr (c_butteryref09_Lists x0) 2)) rfl rfl rfl (o_c tk false rfl (fun _ => rfl)) ?_
        refine wpo_mv (a := ((eL 1 eI) x0.Used)) rfl rfl rfl (o_ld tk rfl rfl) ?_
        refine wpo_mv (a := (eI v24)) rfl rfl rfl (o_mv tk rfl (Wk.refl _)) ?_
        refine wpo_bd H36 (eL 1 eI) rfl rfl rfl (fun v40 hv => OpP.of_call rfl rfl (.cons (.of_eq rfl) (.cons (.of_eq rfl) .nil)) (butteryref09_ahead_ok hv)) fun v40 hv40 H39 => ?_
        refine wpo_mv (a := (.ref id31 2)) rfl rfl rfl (o_c tk false rfl (fun _ => rfl)) ?_
        obtain ⟨c42, hc43, H41⟩ := lt_ex H39
        refine wpo_z rfl rfl (h_st tk hH 0 rfl ty62 (by simp) rfl rfl (.of_eq rfl) (b := ((eL 1 eI) v40)) rfl rfl (Nat.le_of_ble_eq_true rfl) (c_butteryref09_Lists c42) (by rw [← hc43]; rfl)) fun τ hH => ?_
        refine wpo_nil ?_
        refine awp_seq ?_
        refine awp_region rfl ?_
        refine wpo_rd (a := (e_butteryref09_Lists c42)) rfl rfl rfl (h_ld tk hH 0 rfl rfl rfl) ?_
        refine wpo_mv (a := (eI v24)) rfl rfl rfl (o_mv tk rfl (Wk.refl _)) ?_
        refine wpo_z rfl rfl (h_st tk hH 1 rfl ty64 (by simp) rfl rfl (.of_eq rfl) (b := (e_butteryref09_Lists c42)) (enc64.flat _) rfl (Nat.le_of_ble_eq_true rfl) (c_butteryref09_Lists (c42 : butteryref09_Lists)) rfl) fun τ hH => ?_
        refine wpo_mv (a := (eI v24)) rfl rfl rfl (o_as tk rfl (Wk.refl _)) ?_
        refine wpo_mv (a := (eI (0 : Int))) rfl rfl rfl (o_as tk rfl (Wk.refl _)) ?_
        refine wpo_nil ?_
        refine awp_ret ?_
        obtain rfl := Option.some.inj H41
        exact ⟨_, (.tup [(e_butteryref09_Lists (c42 : butteryref09_Lists)), (eI v24), (eI (0 : Int))]), (ares_3 (ares_cell hH 1 rfl rfl rfl) rfl rfl), (wk_tup (.cons (.of_eq rfl) (.cons (.of_eq rfl) (.cons (.of_eq rfl) .nil)))), .of_eq (by simp only [cutAV, cutL, enc64.cut _ _ _, (enc_i64 td3 sz3).cut _ _ _, (enc_i64 td34 sz34).cut _ _ _]), ((hH.noT.drop n32).drop n2)⟩
  · refine awp_region rfl ?_
    refine wpo_mv (a := (eI x1)) rfl rfl rfl (o_mv tk rfl (Wk.refl _)) ?_
    refine wpo_lt hs5 eB rfl rfl rfl (o_ar tk rfl rfl rfl) fun v8 H7 => ?_
    refine wpo_mv (a := (eB v8)) rfl rfl rfl (o_mv tk rfl (Wk.refl _)) ?_
    refine if_split H7 (fun hb H9 => ?_) (fun hb H9 => ?_)
    · subst hb
      refine wpo_skip rfl rfl rfl ?_
      refine wpo_skip rfl rfl rfl ?_
      refine wpo_skip rfl rfl rfl ?_
      refine wpo_skip rfl rfl rfl ?_
      refine wpo_skip rfl rfl rfl ?_
      refine wpo_mv (a := (eB true)) rfl rfl rfl (o_pick_t tk rfl rfl (Wk.refl _)) ?_
      refine wpo_nil ?_
      have e := Option.some.inj H9
      subst e
      exact ⟨(wkf_cons (.of_eq rfl) (wkf_cons (.of_eq rfl) (wkf_cons (.of_eq rfl) (wkf_cons (.of_eq rfl) (wkf_nil _))))), hH⟩
    · subst hb
      refine wpo_mv (a := (eI x1)) rfl rfl rfl (o_mv tk rfl (Wk.refl _)) ?_
      refine wpo_mv (a := (.fptr (c_butteryref09_Lists x0) 0)) rfl rfl rfl (o_c tk false rfl (fun _ => rfl)) ?_
      refine wpo_mv (a := ((eL 1 (eL 1 eI)) x0.L)) rfl rfl rfl (o_ld tk rfl rfl) ?_
      refine wpo_lt H9 eI rfl rfl rfl (o_len tk td61 rfl) fun v11 H10 => ?_
      refine wpo_lt H10 eB rfl rfl rfl (o_ar tk rfl rfl rfl) fun v13 H12 => ?_
      refine wpo_mv (a := (eB v13)) rfl rfl rfl (o_pick_f tk rfl rfl (Wk.refl _)) ?_
      refine wpo_nil ?_
      have e := Option.some.inj H12
      subst e
      exact ⟨(wkf_cons (.of_eq rfl) (wkf_cons (.of_eq rfl) (wkf_cons (.of_eq rfl) (wkf_cons (.of_eq rfl) (wkf_nil _))))), hH⟩
end Go.Proofs.YtobbifgmjkgkfaaDoor
namespace Go.Proofs.YtobbifgmjkgkfaaDoor
open Go Go.Va
set_option linter.unusedVariables false
set_option linter.unusedSimpArgs false
set_option maxRecDepth 20000
theorem butteryref09_But_app {x0 : List Int} {x1 : Int} {r : (List Int)} (H : butteryref09_But x0 x1 = some r) (σ : St)  : ACall Tryd.prog 36 [((eL 1 eI) x0), (eI x1)] σ (fun a τ => a = .sl (.own σ.opn.length) 1 (r.map eI) ∧ τ = σ.more) := by
  unfold butteryref09_But at H
  refine ACall.app (fun ρ κ => cutL_enc (enc_i64 td3 sz3).cut ρ κ r) (acall_start tk Tryd.func36 (by decide) rfl (Nat.le_of_ble_eq_true rfl) ?_)
  have hH := Holds.init σ
  refine awp_seq ?_
  refine awp_region rfl ?_
  refine wpo_mv (a := AV.nils) rfl rfl rfl (o_as tk rfl (Wk.refl _)) ?_
  refine wpo_nil ?_
  refine awp_seq ?_
  refine awp_region rfl ?_
  refine wpo_mv (a := AV.nils) rfl rfl rfl (o_as tk rfl (Wk.refl _)) ?_
  refine wpo_nil ?_
  refine awp_seq ?_
  refine awp_seq ?_
  refine awp_region rfl ?_
  refine wpo_mv (a := (eI (0 : Int))) rfl rfl rfl (o_as tk rfl (Wk.refl _)) ?_
  refine wpo_nil ?_
  refine awp_block ?_
  refine AWP.tokN hH 5 1 rfl fun tk3 τ hH => ?_
  obtain ⟨s11, hs5, hj6⟩ := Option.bind_eq_some_iff.1 H
  refine awp_cutx 0 (fun fr τ => ∃ tk_5, WkF fr (fm [(5, (eT tk_5 1 eI s11))]) ∧ Holds σ [] [tk_5] τ) ?_ ?_
  · rintro fr τ ⟨tk_5, hfr, hH⟩
    have H35 := hj6
    refine AWP.fm [(5, (eT tk_5 1 eI s11))] hfr ?_
    refine awp_seq ?_
    refine awp_region rfl ?_
    refine wpo_mv (a := (eT tk_5 1 eI s11)) rfl rfl rfl (o_mv tk rfl (Wk.refl _)) ?_
    refine wpo_mv (a := (eT tk_5 1 eI s11)) rfl rfl rfl (o_as tk rfl (Wk.refl _)) ?_
    refine wpo_nil ?_
    refine awp_ret ?_
    obtain rfl := Option.some.inj H35
    exact ⟨_, (eT tk_5 1 eI s11), rfl, .of_eq rfl, tk_5, rfl, hH⟩
  · refine awp_loopO (body := fun s => butteryref09_But_b0 x0 x1 s.1 s.2) hs5 (fun (s : (List Int) × Int) fr τ => ∃ tk_5, WkF fr (fm [(0, ((eL 1 eI) x0)), (1, (eI x1)), (5, (eT tk_5 1 eI s.1)), (6, (eI s.2))]) ∧ Holds σ [] [tk_5] τ) ⟨tk3, (wkf_cons (.of_eq rfl) (wkf_cons (.of_eq rfl) (wkf_cons (.of_eq rfl) (wkf_cons (.of_eq rfl) (wkf_nil _))))), hH⟩ ?_
    rintro ⟨c1, c2⟩ fr τ y7 ⟨tk_5, hfr, hH⟩ hb9 hy10
    have H12 : butteryref09_But_b0 x0 x1 c1 c2 = some y7 := hb9
    unfold butteryref09_But_b0 at H12
    refine AWP.fm [(0, ((eL 1 eI) x0)), (1, (eI x1)), (5, (eT tk_5 1 eI c1)), (6, (eI c2))] hfr ?_
    have hH : Holds σ [] [tk_5] τ := hH
    refine awp_seq ?_
    refine awp_seq ?_
    refine awp_region rfl ?_
    refine wpo_mv (a := (eI c2)) rfl rfl rfl (o_mv tk rfl (Wk.refl _)) ?_
    refine wpo_mv (a := ((eL 1 eI) x0)) rfl rfl rfl (o_mv tk rfl (Wk.refl _)) ?_
    refine wpo_lt H12 eI rfl rfl rfl (o_len tk td62 rfl) fun v14 H13 => ?_
    refine wpo_lt H13 eB rfl rfl rfl (o_ar tk rfl rfl rfl) fun v16 H15 => ?_
    refine wpo_nil ?_
    refine awp_if H15 rfl (fun H17 => ?_) (fun H17 => ?_)
    · refine awp_skip ?_
      refine awp_seq ?_
      refine awp_block ?_
      refine awp_seq ?_
      refine awp_region rfl ?_
      refine wpo_mv (a := ((eL 1 eI) x0)) rfl rfl rfl (o_mv tk rfl (Wk.refl _)) ?_
      refine wpo_mv (a := (eI c2)) rfl rfl rfl (o_mv tk rfl (Wk.refl _)) ?_
      refine wpo_bd H17 (fun y => .fptr (eI y).cells 0) rfl rfl rfl (fun v19 hv => o_ixa tk hv td62 (enc_i64 td3 sz3) rfl rfl) fun v19 hv19 H18 => ?_
      refine wpo_mv (a := (eI v19)) rfl rfl rfl (o_ld_e tk (enc_i64 td3 sz3) rfl rfl) ?_
      refine wpo_mv (a := (eI x1)) rfl rfl rfl (o_mv tk rfl (Wk.refl _)) ?_
      refine wpo_lt H18 eB rfl rfl rfl (o_ar tk rfl rfl rfl) fun v21 H20 => ?_
      refine wpo_nil ?_
      refine awp_if H20 rfl (fun H22 => ?_) (fun H22 => ?_)
      · refine awp_region rfl ?_
        refine wpo_mv (a := (eT tk_5 1 eI c1)) rfl rfl rfl (o_mv tk rfl (Wk.refl _)) ?_
        refine wpo_mv (a := ((eL 1 eI) x0)) rfl rfl rfl (o_mv tk rfl (Wk.refl _)) ?_
        refine wpo_mv (a := (eI c2)) rfl rfl rfl (o_mv tk rfl (Wk.refl _)) ?_
        refine wpo_bd H22 (fun y => .fptr (eI y).cells 0) rfl rfl rfl (fun v24 hv => o_ixa tk hv td62 (enc_i64 td3 sz3) rfl rfl) fun v24 hv24 H23 => ?_
        refine wpo_mv (a := (eI v24)) rfl rfl rfl (o_ld_e tk (enc_i64 td3 sz3) rfl rfl) ?_
        refine wpo_lt H23 (eF 1 eI) rfl rfl rfl (o_c tk false rfl (fun _ => rfl)) fun v26 H25 => ?_
        obtain ⟨v28, hv29, H27⟩ := Option.bind_eq_some_iff.1 H25
        refine wpo_a (av := fun t => eT t 1 eI v28) rfl rfl rfl (h_app tk hH 0 hv29 rfl td62 ty3 rfl (by decide) rfl (src_l td62 rfl)) fun tk30 τ hH => ?_
        refine wpo_mv (a := (eT tk30 1 eI v28)) rfl rfl rfl (o_as tk rfl (Wk.refl _)) ?_
        refine wpo_nil ?_
        refine awp_region rfl ?_
        refine wpo_mv (a := (eI c2)) rfl rfl rfl (o_mv tk rfl (Wk.refl _)) ?_
        refine wpo_lt H27 eI rfl rfl rfl (o_ar tk rfl rfl rfl) fun v32 H31 => ?_
        refine wpo_mv (a := (eI v32)) rfl rfl rfl (o_as tk rfl (Wk.refl _)) ?_
        refine wpo_nil ?_
        exact ⟨(v28, v32), inj_inl H31, tk30, (wkf_cons (.of_eq rfl) (wkf_cons (.of_eq rfl) (wkf_cons (.of_eq rfl) (wkf_cons (.of_eq rfl) (wkf_nil _))))), hH⟩
      · refine awp_skip ?_
        refine awp_region rfl ?_
        refine wpo_mv (a := (eI c2)) rfl rfl rfl (o_mv tk rfl (Wk.refl _)) ?_
        refine wpo_lt H22 eI rfl rfl rfl (o_ar tk rfl rfl rfl) fun v34 H33 => ?_
        refine wpo_mv (a := (eI v34)) rfl rfl rfl (o_as tk rfl (Wk.refl _)) ?_
        refine wpo_nil ?_
        exact ⟨(c1, v34), inj_inl H33, tk_5, (wkf_cons (.of_eq rfl) (wkf_cons (.of_eq rfl) (wkf_cons (.of_eq rfl) (wkf_cons (.of_eq rfl) (wkf_nil _))))), hH⟩
    · refine awp_exit ?_
      have hz := hy10 _ (inj_inr H17)
      subst hz
      exact ⟨⟨_, inj_inr H17⟩, tk_5, (wkf_cons (.of_eq rfl) (wkf_nil _)), hH⟩
theorem butteryref09_But_ok {x0 : List Int} {x1 : Int} {r : (List Int)} (H : butteryref09_But x0 x1 = some r) (σ : St) : ACall Tryd.prog 36 [((eL 1 eI) x0), (eI x1)] σ (fun a τ => a = (eL 1 eI) r ∧ τ = σ) := (butteryref09_But_app H σ).unapp (fun ρ κ => cutL_enc (enc_i64 td3 sz3).cut ρ κ r)
end Go.Proofs.YtobbifgmjkgkfaaDoor
namespace Go.Proofs.YtobbifgmjkgkfaaDoor
open Go Go.Va
set_option linter.unusedVariables false
set_option linter.unusedSimpArgs false
set_option maxRecDepth 20000
theorem butteryref02_Has_ok {x0 : List Int} {x1 : Int} {r : Bool} (H : butteryref02_Has x0 x1 = some r) (σ : St)  : ACall Tryd.prog 82 [((eL 1 eI) x0), (eI x1)] σ (fun a τ => a = eB r ∧ τ = σ) := by
  unfold butteryref02_Has at H
  refine ACall.pure (acall_start tk Tryd.func82 (by decide) rfl (Nat.le_of_ble_eq_true rfl) ?_)
  have hH := Holds.init σ
  refine awp_seq ?_
  refine awp_region rfl ?_
  refine wpo_mv (a := (eB false)) rfl rfl rfl (o_as tk rfl (Wk.refl _)) ?_
  refine wpo_nil ?_
  refine awp_seq ?_
  refine awp_seq ?_
  refine awp_region rfl ?_
  refine wpo_mv (a := (eI (0 : Int))) rfl rfl rfl (o_as tk rfl (Wk.refl _)) ?_
  refine wpo_nil ?_
  refine awp_block ?_
  obtain ⟨o2, hs3, hj4⟩ := Option.bind_eq_some_iff.1 H
  refine awp_cutx 0 (fun fr τ => ∃ s9 : Unit, o2 = .inl s9 ∧ WkF fr (fm []) ∧ Holds σ [] [] τ) ?_ ?_
  · rintro fr τ ⟨s9, rfl, hfr, hH⟩
    have H24 := hj4
    simp only [Sum.elim_inl] at H24
    refine AWP.fm [] hfr ?_
    refine awp_seq ?_
    refine awp_region rfl ?_
    refine wpo_mv (a := (eB false)) rfl rfl rfl (o_as tk rfl (Wk.refl _)) ?_
    refine wpo_nil ?_
    refine awp_ret ?_
    obtain rfl := Option.some.inj H24
    exact ⟨_, (eB false), rfl, (.of_eq rfl), .of_eq ((enc_b td4 sz4).cut _ _ _), hH.noT⟩
  · refine awp_loopO (body := fun s => butteryref02_Has_b0 x0 x1 s) hs3 (fun (s : Int) fr τ => WkF fr (fm [(0, ((eL 1 eI) x0)), (1, (eI x1)), (5, (eI s))]) ∧ Holds σ [] [] τ) ⟨(wkf_cons (.of_eq rfl) (wkf_cons (.of_eq rfl) (wkf_cons (.of_eq rfl) (wkf_nil _)))), hH⟩ ?_
    rintro c1 fr τ y5 ⟨hfr, hH⟩ hb7 hy8
    have H10 : butteryref02_Has_b0 x0 x1 c1 = some y5 := hb7
    unfold butteryref02_Has_b0 at H10
    refine AWP.fm [(0, ((eL 1 eI) x0)), (1, (eI x1)), (5, (eI c1))] hfr ?_
    have hH : Holds σ [] [] τ := hH
    refine awp_seq ?_
    refine awp_seq ?_
    refine awp_region rfl ?_
    refine wpo_mv (a := (eI c1)) rfl rfl rfl (o_mv tk rfl (Wk.refl _)) ?_
    refine wpo_mv (a := ((eL 1 eI) x0)) rfl rfl rfl (o_mv tk rfl (Wk.refl _)) ?_
    refine wpo_lt H10 eI rfl rfl rfl (o_len tk td62 rfl) fun v12 H11 => ?_
    refine wpo_lt H11 eB rfl rfl rfl (o_ar tk rfl rfl rfl) fun v14 H13 => ?_
    refine wpo_nil ?_
    refine awp_if H13 rfl (fun H15 => ?_) (fun H15 => ?_)
    · refine awp_skip ?_
      refine awp_seq ?_
      refine awp_block ?_
      refine awp_seq ?_
      refine awp_region rfl ?_
      refine wpo_mv (a := ((eL 1 eI) x0)) rfl rfl rfl (o_mv tk rfl (Wk.refl _)) ?_
      refine wpo_mv (a := (eI c1)) rfl rfl rfl (o_mv tk rfl (Wk.refl _)) ?_
      refine wpo_bd H15 (fun y => .fptr (eI y).cells 0) rfl rfl rfl (fun v17 hv => o_ixa tk hv td62 (enc_i64 td3 sz3) rfl rfl) fun v17 hv17 H16 => ?_
      refine wpo_mv (a := (eI v17)) rfl rfl rfl (o_ld_e tk (enc_i64 td3 sz3) rfl rfl) ?_
      refine wpo_mv (a := (eI x1)) rfl rfl rfl (o_mv tk rfl (Wk.refl _)) ?_
      refine wpo_lt H16 eB rfl rfl rfl (o_ar tk rfl rfl rfl) fun v19 H18 => ?_
      refine wpo_nil ?_
      refine awp_if H18 rfl (fun H20 => ?_) (fun H20 => ?_)
      · refine awp_seq ?_
        refine awp_region rfl ?_
        refine wpo_mv (a := (eB true)) rfl rfl rfl (o_as tk rfl (Wk.refl _)) ?_
        refine wpo_nil ?_
        refine awp_ret ?_
        have hz := hy8 _ (inj_inr H20)
        refine ⟨⟨_, inj_inr H20⟩, ?_⟩
        rw [← hz] at hj4
        have H21 := (show some _ = some _ from hj4)
        obtain rfl := Option.some.inj H21
        exact ⟨_, (eB true), rfl, (.of_eq rfl), .of_eq ((enc_b td4 sz4).cut _ _ _), hH.noT⟩
      · refine awp_skip ?_
        refine awp_region rfl ?_
        refine wpo_mv (a := (eI c1)) rfl rfl rfl (o_mv tk rfl (Wk.refl _)) ?_
        refine wpo_lt H20 eI rfl rfl rfl (o_ar tk rfl rfl rfl) fun v23 H22 => ?_
        refine wpo_mv (a := (eI v23)) rfl rfl rfl (o_as tk rfl (Wk.refl _)) ?_
        refine wpo_nil ?_
        exact ⟨v23, inj_inl H22, (wkf_cons (.of_eq rfl) (wkf_cons (.of_eq rfl) (wkf_cons (.of_eq rfl) (wkf_nil _)))), hH⟩
    · refine awp_exit ?_
      have hz := hy8 _ (inj_inr H15)
      exact ⟨⟨_, inj_inr H15⟩, (), hz.symm, (wkf_nil _), hH⟩
end Go.Proofs.YtobbifgmjkgkfaaDoor
namespace Go.Proofs.YtobbifgmjkgkfaaDoor
open Go Go.Va
set_option linter.unusedVariables false
set_option linter.unusedSimpArgs false
set_option maxRecDepth 20000
theorem butteryref09_List_ok {x0 : butteryref09_Lists} {x1 : Int} {r : Int} (H : butteryref09_List x0 x1 = some r) (σ : St)  : ACall Tryd.prog 63 [(e_butteryref09_Lists x0), (eI x1)] σ (fun a τ => a = eI r ∧ τ = σ) := by
  unfold butteryref09_List at H
  refine ACall.pure (acall_start tk Tryd.func63 (by decide) rfl (Nat.le_of_ble_eq_true rfl) ?_)
  have hH := Holds.init σ
  refine awp_seq ?_
  refine awp_region rfl ?_
  refine wpo_mv (a := (.fptr (c_butteryref09_Lists x0) 0)) rfl rfl rfl (o_boxf tk rfl (.of_eq rfl) (b := (e_butteryref09_Lists x0)) (enc64.flat _)) ?_
  refine wpo_mv (a := (eI (0 : Int))) rfl rfl rfl (o_as tk rfl (Wk.refl _)) ?_
  refine wpo_nil ?_
  refine awp_seq ?_
  refine awp_seq ?_
  refine awp_region rfl ?_
  refine wpo_mv (a := (eI (0 : Int))) rfl rfl rfl (o_as tk rfl (Wk.refl _)) ?_
  refine wpo_nil ?_
  refine awp_block ?_
  obtain ⟨o2, hs3, hj4⟩ := Option.bind_eq_some_iff.1 H
  refine awp_cutx 0 (fun fr τ => ∃ s9 : Unit, o2 = .inl s9 ∧ WkF fr (fm []) ∧ Holds σ [] [] τ) ?_ ?_
  · rintro fr τ ⟨s9, rfl, hfr, hH⟩
    have H24 := hj4
    simp only [Sum.elim_inl] at H24
    refine AWP.fm [] hfr ?_
    refine awp_seq ?_
    refine awp_region rfl ?_
    refine wpo_mv (a := (eI (-1 : Int))) rfl rfl rfl (o_as tk rfl (Wk.refl _)) ?_
    refine wpo_nil ?_
    refine awp_ret ?_
    obtain rfl := Option.some.inj H24
    exact ⟨_, (eI (-1 : Int)), rfl, (.of_eq rfl), .of_eq ((enc_i64 td3 sz3).cut _ _ _), hH.noT⟩
  · refine awp_loopO (body := fun s => butteryref09_List_b0 x0 x1 s) hs3 (fun (s : Int) fr τ => WkF fr (fm [(1, (eI x1)), (2, (.fptr (c_butteryref09_Lists x0) 0)), (5, (eI s))]) ∧ Holds σ [] [] τ) ⟨(wkf_cons (.of_eq rfl) (wkf_cons (.of_eq rfl) (wkf_cons (.of_eq rfl) (wkf_nil _)))), hH⟩ ?_
    rintro c1 fr τ y5 ⟨hfr, hH⟩ hb7 hy8
    have H10 : butteryref09_List_b0 x0 x1 c1 = some y5 := hb7
    unfold butteryref09_List_b0 at H10
    refine AWP.fm [(1, (eI x1)), (2, (.fptr (c_butteryref09_Lists x0) 0)), (5, (eI c1))] hfr ?_
    have hH : Holds σ [] [] τ := hH
    refine awp_seq ?_
    refine awp_seq ?_
    refine awp_region rfl ?_
    refine wpo_mv (a := (eI c1)) rfl rfl rfl (o_mv tk rfl (Wk.refl _)) ?_
    refine wpo_mv (a := (.fptr (c_butteryref09_Lists x0) 0)) rfl rfl rfl (o_c tk false rfl (fun _ => rfl)) ?_
    refine wpo_mv (a := ((eL 1 (eL 1 eI)) x0.L)) rfl rfl rfl (o_ld tk rfl rfl) ?_
    refine wpo_lt H10 eI rfl rfl rfl (o_len tk td61 rfl) fun v12 H11 => ?_
    refine wpo_lt H11 eB rfl rfl rfl (o_ar tk rfl rfl rfl) fun v14 H13 => ?_
    refine wpo_nil ?_
    refine awp_if H13 rfl (fun H15 => ?_) (fun H15 => ?_)
    · refine awp_skip ?_
      refine awp_seq ?_
      refine awp_block ?_
      refine awp_seq ?_
      refine awp_region rfl ?_
      refine wpo_mv (a := (.fptr (c_butteryref09_Lists x0) 0)) rfl rfl rfl (o_c tk false rfl (fun _ => rfl)) ?_
      refine wpo_mv (a := ((eL 1 (eL 1 eI)) x0.L)) rfl rfl rfl (o_ld tk rfl rfl) ?_
      refine wpo_mv (a := (eI c1)) rfl rfl rfl (o_mv tk rfl (Wk.refl _)) ?_
      refine wpo_bd H15 (fun y => .fptr ((eL 1 eI) y).cells 0) rfl rfl rfl (fun v17 hv => o_ixa tk hv td61 (enc_l td62 sz62 (enc_i64 td3 sz3).cut) rfl rfl) fun v17 hv17 H16 => ?_
      refine wpo_mv (a := ((eL 1 eI) v17)) rfl rfl rfl (o_ld_e tk (enc_l td62 sz62 (enc_i64 td3 sz3).cut) rfl rfl) ?_
      refine wpo_mv (a := (eI x1)) rfl rfl rfl (o_mv tk rfl (Wk.refl _)) ?_
      refine wpo_bd H16 eB rfl rfl rfl (fun v19 hv => OpP.of_call rfl rfl (.cons (.of_eq rfl) (.cons (.of_eq rfl) .nil)) (butteryref02_Has_ok hv)) fun v19 hv19 H18 => ?_
      refine wpo_nil ?_
      refine awp_if H18 rfl (fun H20 => ?_) (fun H20 => ?_)
      · refine awp_seq ?_
        refine awp_region rfl ?_
        refine wpo_mv (a := (eI c1)) rfl rfl rfl (o_mv tk rfl (Wk.refl _)) ?_
        refine wpo_mv (a := (eI c1)) rfl rfl rfl (o_as tk rfl (Wk.refl _)) ?_
        refine wpo_nil ?_
        refine awp_ret ?_
        have hz := hy8 _ (inj_inr H20)
        refine ⟨⟨_, inj_inr H20⟩, ?_⟩
        rw [← hz] at hj4
        have H21 := (show some _ = some _ from hj4)
        obtain rfl := Option.some.inj H21
        exact ⟨_, (eI c1), rfl, (.of_eq rfl), .of_eq ((enc_i64 td3 sz3).cut _ _ _), hH.noT⟩
      · refine awp_skip ?_
        refine awp_region rfl ?_
        refine wpo_mv (a := (eI c1)) rfl rfl rfl (o_mv tk rfl (Wk.refl _)) ?_
        refine wpo_lt H20 eI rfl rfl rfl (o_ar tk rfl rfl rfl) fun v23 H22 => ?_
        refine wpo_mv (a := (eI v23)) rfl rfl rfl (o_as tk rfl (Wk.refl _)) ?_
        refine wpo_nil ?_
        exact ⟨v23, inj_inl H22, (wkf_cons (.of_eq rfl) (wkf_cons (.of_eq rfl) (wkf_cons (.of_eq rfl) (wkf_nil _)))), hH⟩
    · refine awp_exit ?_
      have hz := hy8 _ (inj_inr H15)
      exact ⟨⟨_, inj_inr H15⟩, (), hz.symm, (wkf_nil _), hH⟩
end Go.Proofs.YtobbifgmjkgkfaaDoor
namespace Go.Proofs.YtobbifgmjkgkfaaDoor
open Go Go.Va
set_option linter.unusedVariables false
set_option linter.unusedSimpArgs false
set_option maxRecDepth 20000
theorem butteryref09_at_ok {x0 : butteryref09_Lists} {x1 : Int} {r : Int} (H : butteryref09_at x0 x1 = some r) (σ : St)  : ACall Tryd.prog 81 [(e_butteryref09_Lists x0), (eI x1)] σ (fun a τ => a = eI r ∧ τ = σ) := by
  unfold butteryref09_at at H
  refine ACall.pure (acall_start tk Tryd.func81 (by decide) rfl (Nat.le_of_ble_eq_true rfl) ?_)
  have hH := Holds.init σ
  refine awp_seq ?_
  refine awp_region rfl ?_
  refine wpo_mv (a := (.fptr (c_butteryref09_Lists x0) 0)) rfl rfl rfl (o_boxf tk rfl (.of_eq rfl) (b := (e_butteryref09_Lists x0)) (enc64.flat _)) ?_
  refine wpo_mv (a := (eI (0 : Int))) rfl rfl rfl (o_as tk rfl (Wk.refl _)) ?_
  refine wpo_nil ?_
  refine awp_seq ?_
  refine awp_seq ?_
  obtain ⟨s1, hs3, hj4⟩ := Option.bind_eq_some_iff.1 H
  refine awp_cutn (fun fr τ => WkF fr (fm [(1, (eI x1)), (2, (.fptr (c_butteryref09_Lists x0) 0)), (12, (eB s1))]) ∧ Holds σ [] [] τ) ?_ ?_
  · rintro fr τ ⟨hfr, hH⟩
    have H10 := hj4
    refine AWP.fm [(1, (eI x1)), (2, (.fptr (c_butteryref09_Lists x0) 0)), (12, (eB s1))] hfr ?_
    refine awp_if H10 rfl (fun H11 => ?_) (fun H11 => ?_)
    · refine awp_seq ?_
      refine awp_region rfl ?_
      refine wpo_mv (a := (eI (2 : Int))) rfl rfl rfl (o_as tk rfl (Wk.refl _)) ?_
      refine wpo_nil ?_
      refine awp_ret ?_
      obtain rfl := Option.some.inj H11
      exact ⟨_, (eI (2 : Int)), rfl, (.of_eq rfl), .of_eq ((enc_i64 td34 sz34).cut _ _ _), hH.noT⟩
    · refine awp_skip ?_
      refine awp_seq ?_
      refine awp_seq ?_
      refine awp_region rfl ?_
      refine wpo_mv (a := (e_butteryref09_Lists x0)) rfl rfl rfl (o_ld tk rfl rfl) ?_
      refine wpo_mv (a := (eI x1)) rfl rfl rfl (o_mv tk rfl (Wk.refl _)) ?_
      refine wpo_bd H11 eI rfl rfl rfl (fun v13 hv => OpP.of_call rfl rfl (.cons (.of_eq rfl) (.cons (.of_eq rfl) .nil)) (butteryref09_List_ok hv)) fun v13 hv13 H12 => ?_
      refine wpo_lt H12 eB rfl rfl rfl (o_ar tk rfl rfl rfl) fun v15 H14 => ?_
      refine wpo_nil ?_
      refine awp_if H14 rfl (fun H16 => ?_) (fun H16 => ?_)
      · refine awp_seq ?_
        refine awp_region rfl ?_
        refine wpo_mv (a := (eI (9 : Int))) rfl rfl rfl (o_as tk rfl (Wk.refl _)) ?_
        refine wpo_nil ?_
        refine awp_ret ?_
        obtain rfl := Option.some.inj H16
        exact ⟨_, (eI (9 : Int)), rfl, (.of_eq rfl), .of_eq ((enc_i64 td34 sz34).cut _ _ _), hH.noT⟩
      · refine awp_skip ?_
        refine awp_seq ?_
        refine awp_region rfl ?_
        refine wpo_mv (a := (eI (0 : Int))) rfl rfl rfl (o_as tk rfl (Wk.refl _)) ?_
        refine wpo_nil ?_
        refine awp_ret ?_
        obtain rfl := Option.some.inj H16
        exact ⟨_, (eI (0 : Int)), rfl, (.of_eq rfl), .of_eq ((enc_i64 td34 sz34).cut _ _ _), hH.noT⟩
  · refine awp_region rfl ?_
    refine wpo_mv (a := (eI x1)) rfl rfl rfl (o_mv tk rfl (Wk.refl _)) ?_
    refine wpo_lt hs3 eB rfl rfl rfl (o_ar tk rfl rfl rfl) fun v6 H5 => ?_
    refine wpo_mv (a := (eB v6)) rfl rfl rfl (o_mv tk rfl (Wk.refl _)) ?_
    refine if_split H5 (fun hb H7 => ?_) (fun hb H7 => ?_)
    · subst hb
      refine wpo_skip rfl rfl rfl ?_
      refine wpo_skip rfl rfl rfl ?_
      refine wpo_skip rfl rfl rfl ?_
      refine wpo_skip rfl rfl rfl ?_
      refine wpo_mv (a := (eB true)) rfl rfl rfl (o_pick_t tk rfl rfl (Wk.refl _)) ?_
      refine wpo_nil ?_
      have e := Option.some.inj H7
      subst e
      exact ⟨(wkf_cons (.of_eq rfl) (wkf_cons (.of_eq rfl) (wkf_cons (.of_eq rfl) (wkf_nil _)))), hH⟩
    · subst hb
      refine wpo_mv (a := (eI x1)) rfl rfl rfl (o_mv tk rfl (Wk.refl _)) ?_
      refine wpo_mv (a := (.fptr (c_butteryref09_Lists x0) 3)) rfl rfl rfl (o_c tk false rfl (fun _ => rfl)) ?_
      refine wpo_mv (a := (eI x0.Nodes)) rfl rfl rfl (o_ld tk rfl rfl) ?_
      refine wpo_lt H7 eB rfl rfl rfl (o_ar tk rfl rfl rfl) fun v9 H8 => ?_
      refine wpo_mv (a := (eB v9)) rfl rfl rfl (o_pick_f tk rfl rfl (Wk.refl _)) ?_
      refine wpo_nil ?_
      have e := Option.some.inj H8
      subst e
      exact ⟨(wkf_cons (.of_eq rfl) (wkf_cons (.of_eq rfl) (wkf_cons (.of_eq rfl) (wkf_nil _)))), hH⟩
end Go.Proofs.YtobbifgmjkgkfaaDoor
namespace Go.Proofs.YtobbifgmjkgkfaaDoor
open Go Go.Va
set_option linter.unusedVariables false
set_option linter.unusedSimpArgs false
set_option maxRecDepth 20000
theorem butteryref09_Drop_ok {x0 : butteryref09_Lists} {x1 : Int} {r : butteryref09_Lists × Int} (H : butteryref09_Drop x0 x1 = some r) (σ : St)  : ACall Tryd.prog 60 [(e_butteryref09_Lists x0), (eI x1)] σ (fun a τ => a = .tup [e_butteryref09_Lists r.1, eI r.2] ∧ τ = σ) := by
  unfold butteryref09_Drop at H
  refine ACall.pure (acall_start tk Tryd.func60 (by decide) rfl (Nat.le_of_ble_eq_true rfl) ?_)
  have hH := Holds.init σ
  refine awp_seq ?_
  refine awp_region rfl ?_
  refine wpo_mv (a := (.fptr (c_butteryref09_Lists x0) 0)) rfl rfl rfl (o_boxf tk rfl (.of_eq rfl) (b := (e_butteryref09_Lists x0)) (enc64.flat _)) ?_
  refine wpo_a (av := fun id => .ref id 0) rfl rfl rfl (h_alloc tk hH ty64 [AV.nils, AV.nils, AV.nils, (eI z_butteryref09_Lists.Nodes)] rfl) fun id1 τ ⟨hH, n2⟩ => ?_
  refine wpo_mv (a := (eI (0 : Int))) rfl rfl rfl (o_as tk rfl (Wk.refl _)) ?_
  refine wpo_nil ?_
  refine awp_seq ?_
  refine awp_seq ?_
  refine awp_region rfl ?_
  refine wpo_mv (a := (e_butteryref09_Lists x0)) rfl rfl rfl (o_ld tk rfl rfl) ?_
  refine wpo_mv (a := (eI x1)) rfl rfl rfl (o_mv tk rfl (Wk.refl _)) ?_
  refine wpo_bd H eI rfl rfl rfl (fun v4 hv => OpP.of_call rfl rfl (.cons (.of_eq rfl) (.cons (.of_eq rfl) .nil)) (butteryref09_at_ok hv)) fun v4 hv4 H3 => ?_
  refine wpo_mv (a := (eI v4)) rfl rfl rfl (o_as tk rfl (Wk.refl _)) ?_
  refine wpo_nil ?_
  refine awp_seq ?_
  refine awp_region rfl ?_
  refine wpo_mv (a := (eI v4)) rfl rfl rfl (o_mv tk rfl (Wk.refl _)) ?_
  refine wpo_lt H3 eB rfl rfl rfl (o_ar tk rfl rfl rfl) fun v6 H5 => ?_
  refine wpo_nil ?_
  refine awp_if H5 rfl (fun H7 => ?_) (fun H7 => ?_)
  · refine awp_seq ?_
    refine awp_region rfl ?_
    refine wpo_mv (a := (e_butteryref09_Lists x0)) rfl rfl rfl (o_ld tk rfl rfl) ?_
    refine wpo_mv (a := (eI v4)) rfl rfl rfl (o_mv tk rfl (Wk.refl _)) ?_
    refine wpo_z rfl rfl (h_st tk hH 0 rfl ty64 (by simp) rfl rfl (.of_eq rfl) (b := (e_butteryref09_Lists x0)) (enc64.flat _) rfl (Nat.le_of_ble_eq_true rfl) (c_butteryref09_Lists (x0 : butteryref09_Lists)) rfl) fun τ hH => ?_
    refine wpo_mv (a := (eI v4)) rfl rfl rfl (o_as tk rfl (Wk.refl _)) ?_
    refine wpo_nil ?_
    refine awp_ret ?_
    obtain rfl := Option.some.inj H7
    exact ⟨_, (.tup [(e_butteryref09_Lists (x0 : butteryref09_Lists)), (eI v4)]), (ares_2 (ares_cell hH 0 rfl rfl rfl) rfl), (wk_tup (.cons (.of_eq rfl) (.cons (.of_eq rfl) .nil))), .of_eq (by simp only [cutAV, cutL, enc64.cut _ _ _, (enc_i64 td34 sz34).cut _ _ _]), (hH.noT.drop n2)⟩
  · refine awp_skip ?_
    refine awp_seq ?_
    refine awp_region rfl ?_
    refine wpo_mv (a := (e_butteryref09_Lists x0)) rfl rfl rfl (o_ld tk rfl rfl) ?_
    refine wpo_mv (a := (eI x1)) rfl rfl rfl (o_mv tk rfl (Wk.refl _)) ?_
    refine wpo_bd H7 eI rfl rfl rfl (fun v10 hv => OpP.of_call rfl rfl (.cons (.of_eq rfl) (.cons (.of_eq rfl) .nil)) (butteryref09_List_ok hv)) fun v10 hv10 H9 => ?_
    refine wpo_mv (a := (eI v10)) rfl rfl rfl (o_as tk rfl (Wk.refl _)) ?_
    refine wpo_nil ?_
    refine awp_seq ?_
    refine awp_drawS mixed [10, 11] rfl (by decide +kernel) rfl rfl ?_
    refine wpdS_mv (a := (e_butteryref09_Lists x0)) rfl rfl rfl (o_ld tk rfl rfl) ?_
    refine wpdS_mv (a := (eI v10)) rfl rfl rfl (o_mv tk rfl (Wk.refl _)) ?_
    refine wpdS_mv (a := (.fptr (c_butteryref09_Lists x0) 0)) rfl rfl rfl (o_c tk false rfl (fun _ => rfl)) ?_
    refine wpdS_mv (a := ((eL 1 (eL 1 eI)) x0.L)) rfl rfl rfl (o_ld tk rfl rfl) ?_
    refine wpdS_mv (a := (eI v10)) rfl rfl rfl (o_mv tk rfl (Wk.refl _)) ?_
    refine wpdS_bd H9 (fun y => .fptr ((eL 1 eI) y).cells 0) rfl rfl rfl (fun v12 hv => o_ixa tk hv td61 (enc_l td62 sz62 (enc_i64 td3 sz3).cut) rfl rfl) fun v12 hv12 H11 => ?_
    refine wpdS_mv (a := ((eL 1 eI) v12)) rfl rfl rfl (o_ld_e tk (enc_l td62 sz62 (enc_i64 td3 sz3).cut) rfl rfl) ?_
    refine wpdS_mv (a := (eI x1)) rfl rfl rfl (o_mv tk rfl (Wk.refl _)) ?_
    refine wpdS_bd H11 (eL 1 eI) rfl rfl rfl (fun v14 hv => OpP.of_call rfl rfl (.cons (.of_eq rfl) (.cons (.of_eq rfl) .nil)) (butteryref09_But_ok hv)) fun v14 hv14 H13 => ?_
    refine wpdS_bd H13 e_butteryref09_Lists rfl rfl rfl (fun v16 hv => OpP.of_call rfl rfl (.cons (.of_eq rfl) (.cons (.of_eq rfl) (.cons (.of_eq rfl) .nil))) (butteryref09_with_ok hv)) fun v16 hv16 H15 => ?_
    refine wpdS_a (av := fun id => .ref id 0) rfl rfl rfl (h_alloc tk hH ty64 [AV.nils, AV.nils, AV.nils, (eI z_butteryref09_Lists.Nodes)] rfl) fun id17 τ ⟨hH, n18⟩ => ?_
    refine wpdS_z rfl rfl rfl (h_st tk hH 0 rfl ty64 (by simp) rfl rfl (.of_eq rfl) (b := (e_butteryref09_Lists v16)) (enc64.flat _) rfl (Nat.le_of_ble_eq_true rfl) (c_butteryref09_Lists (v16 : butteryref09_Lists)) rfl) fun τ hH => ?_
    refine wpdS_nil ?_
    refine awp_seq ?_
    refine awp_region rfl ?_
    refine wpo_mv (a := (.fptr (c_butteryref09_Lists x0) 1)) rfl rfl rfl (o_c tk false rfl (fun _ => rfl)) ?_
    refine wpo_mv (a := ((eL 1 eI) x0.Free)) rfl rfl rfl (o_ld tk rfl rfl) ?_
    refine wpo_mv (a := (eI x1)) rfl rfl rfl (o_mv tk rfl (Wk.refl _)) ?_
    refine wpo_bd H15 (eL 1 eI) rfl rfl rfl (fun v21 hv => OpP.of_call rfl rfl (.cons (.of_eq rfl) (.cons (.of_eq rfl) .nil)) (butteryref09_ahead_ok hv)) fun v21 hv21 H20 => ?_
    refine wpo_mv (a := (.ref id17 1)) rfl rfl rfl (o_c tk false rfl (fun _ => rfl)) ?_
    obtain ⟨c23, hc24, H22⟩ := lt_ex H20
    refine wpo_z rfl rfl (h_st tk hH 0 rfl ty62 (by simp) rfl rfl (.of_eq rfl) (b := ((eL 1 eI) v21)) rfl rfl (Nat.le_of_ble_eq_true rfl) (c_butteryref09_Lists c23) (by rw [← hc24]; rfl)) fun τ hH => ?_
    refine wpo_nil ?_
    refine awp_seq ?_
    refine awp_region rfl ?_
    refine wpo_mv (a := (.fptr (c_butteryref09_Lists x0) 2)) rfl rfl rfl (o_c tk false rfl (fun _ => rfl)) ?_
    refine wpo_mv (a := ((eL 1 eI) x0.Used)) rfl rfl rfl (o_ld tk rfl rfl) ?_
    refine wpo_mv (a := (eI x1)) rfl rfl rfl (o_mv tk rfl (Wk.refl _)) ?_
    refine wpo_bd H22 (eL 1 eI) rfl rfl rfl (fun v26 hv => OpP.of_call rfl rfl (.cons (.of_eq rfl) (.cons (.of_eq rfl) .nil)) (butteryref09_But_ok hv)) fun v26 hv26 H25 => ?_
    refine wpo_mv (a := (.ref id17 2)) rfl rfl rfl (o_c tk false rfl (fun _ => rfl)) ?_
    obtain ⟨c28, hc29, H27⟩ := lt_ex H25
    refine wpo_z rfl rfl (h_st tk hH 0 rfl ty62 (by simp) rfl rfl (.of_eq rfl) (b := ((eL 1 eI) v26)) rfl rfl (Nat.le_of_ble_eq_true rfl) (c_butteryref09_Lists c28) (by rw [← hc29]; rfl)) fun τ hH => ?_
    refine wpo_nil ?_
    refine awp_seq ?_
    refine awp_region rfl ?_
    refine wpo_rd (a := (e_butteryref09_Lists c28)) rfl rfl rfl (h_ld tk hH 0 rfl rfl rfl) ?_
    refine wpo_z rfl rfl (h_st tk hH 1 rfl ty64 (by simp) rfl rfl (.of_eq rfl) (b := (e_butteryref09_Lists c28)) (enc64.flat _) rfl (Nat.le_of_ble_eq_true rfl) (c_butteryref09_Lists (c28 : butteryref09_Lists)) rfl) fun τ hH => ?_
    refine wpo_mv (a := (eI (0 : Int))) rfl rfl rfl (o_as tk rfl (Wk.refl _)) ?_
    refine wpo_nil ?_
    refine awp_ret ?_
    obtain rfl := Option.some.inj H27
    exact ⟨_, (.tup [(e_butteryref09_Lists (c28 : butteryref09_Lists)), (eI (0 : Int))]), (ares_2 (ares_cell hH 1 rfl rfl rfl) rfl), (wk_tup (.cons (.of_eq rfl) (.cons (.of_eq rfl) .nil))), .of_eq (by simp only [cutAV, cutL, enc64.cut _ _ _, (enc_i64 td34 sz34).cut _ _ _]), ((hH.noT.drop n18).drop n2)⟩
end Go.Proofs.YtobbifgmjkgkfaaDoor
namespace Go.Proofs.YtobbifgmjkgkfaaDoor
open Go Go.Va
set_option linter.unusedVariables false
set_option linter.unusedSimpArgs false
set_option maxRecDepth 20000
theorem butteryref09_Touch_ok {x0 : butteryref09_Lists} {x1 : Int} {r : butteryref09_Lists × Int} (H : butteryref09_Touch x0 x1 = some r) (σ : St)  : ACall Tryd.prog 61 [(e_butteryref09_Lists x0), (eI x1)] σ (fun a τ => a = .tup [e_butteryref09_Lists r.1, eI r.2] ∧ τ = σ) := by
  unfold butteryref09_Touch at H
  refine ACall.pure (acall_start tk Tryd.func61 (by decide) rfl (Nat.le_of_ble_eq_true rfl) ?_)
  have hH := Holds.init σ
  refine awp_seq ?_
  refine awp_region rfl ?_
  refine wpo_mv (a := (.fptr (c_butteryref09_Lists x0) 0)) rfl rfl rfl (o_boxf tk rfl (.of_eq rfl) (b := (e_butteryref09_Lists x0)) (enc64.flat _)) ?_
  refine wpo_a (av := fun id => .ref id 0) rfl rfl rfl (h_alloc tk hH ty64 [AV.nils, AV.nils, AV.nils, (eI z_butteryref09_Lists.Nodes)] rfl) fun id1 τ ⟨hH, n2⟩ => ?_
  refine wpo_mv (a := (eI (0 : Int))) rfl rfl rfl (o_as tk rfl (Wk.refl _)) ?_
  refine wpo_nil ?_
  refine awp_seq ?_
  refine awp_seq ?_
  refine awp_region rfl ?_
  refine wpo_mv (a := (e_butteryref09_Lists x0)) rfl rfl rfl (o_ld tk rfl rfl) ?_
  refine wpo_mv (a := (eI x1)) rfl rfl rfl (o_mv tk rfl (Wk.refl _)) ?_
  refine wpo_bd H eI rfl rfl rfl (fun v4 hv => OpP.of_call rfl rfl (.cons (.of_eq rfl) (.cons (.of_eq rfl) .nil)) (butteryref09_at_ok hv)) fun v4 hv4 H3 => ?_
  refine wpo_mv (a := (eI v4)) rfl rfl rfl (o_as tk rfl (Wk.refl _)) ?_
  refine wpo_nil ?_
  refine awp_seq ?_
  refine awp_region rfl ?_
  refine wpo_mv (a := (eI v4)) rfl rfl rfl (o_mv tk rfl (Wk.refl _)) ?_
  refine wpo_lt H3 eB rfl rfl rfl (o_ar tk rfl rfl rfl) fun v6 H5 => ?_
  refine wpo_nil ?_
  refine awp_if H5 rfl (fun H7 => ?_) (fun H7 => ?_)
  · refine awp_seq ?_
    refine awp_region rfl ?_
    refine wpo_mv (a := (e_butteryref09_Lists x0)) rfl rfl rfl (o_ld tk rfl rfl) ?_
    refine wpo_mv (a := (eI v4)) rfl rfl rfl (o_mv tk rfl (Wk.refl _)) ?_
    refine wpo_z rfl rfl (h_st tk hH 0 rfl ty64 (by simp) rfl rfl (.of_eq rfl) (b := (e_butteryref09_Lists x0)) (enc64.flat _) rfl (Nat.le_of_ble_eq_true rfl) (c_butteryref09_Lists (x0 : butteryref09_Lists)) rfl) fun τ hH => ?_
    refine wpo_mv (a := (eI v4)) rfl rfl rfl (o_as tk rfl (Wk.refl _)) ?_
    refine wpo_nil ?_
    refine awp_ret ?_
    obtain rfl := Option.some.inj H7
    exact ⟨_, (.tup [(e_butteryref09_Lists (x0 : butteryref09_Lists)), (eI v4)]), (ares_2 (ares_cell hH 0 rfl rfl rfl) rfl), (wk_tup (.cons (.of_eq rfl) (.cons (.of_eq rfl) .nil))), .of_eq (by simp only [cutAV, cutL, enc64.cut _ _ _, (enc_i64 td34 sz34).cut _ _ _]), (hH.noT.drop n2)⟩
  · refine awp_skip ?_
    refine awp_seq ?_
    refine awp_region rfl ?_
    refine wpo_mv (a := (e_butteryref09_Lists x0)) rfl rfl rfl (o_ld tk rfl rfl) ?_
    refine wpo_mv (a := (eI x1)) rfl rfl rfl (o_mv tk rfl (Wk.refl _)) ?_
    refine wpo_bd H7 eI rfl rfl rfl (fun v10 hv => OpP.of_call rfl rfl (.cons (.of_eq rfl) (.cons (.of_eq rfl) .nil)) (butteryref09_List_ok hv)) fun v10 hv10 H9 => ?_
    refine wpo_mv (a := (eI v10)) rfl rfl rfl (o_as tk rfl (Wk.refl _)) ?_
    refine wpo_nil ?_
    refine awp_seq ?_
    refine awp_drawS mixed [12, 13] rfl (by decide +kernel) rfl rfl ?_
    refine wpdS_mv (a := (e_butteryref09_Lists x0)) rfl rfl rfl (o_ld tk rfl rfl) ?_
    refine wpdS_mv (a := (eI v10)) rfl rfl rfl (o_mv tk rfl (Wk.refl _)) ?_
    refine wpdS_mv (a := (.fptr (c_butteryref09_Lists x0) 0)) rfl rfl rfl (o_c tk false rfl (fun _ => rfl)) ?_
    refine wpdS_mv (a := ((eL 1 (eL 1 eI)) x0.L)) rfl rfl rfl (o_ld tk rfl rfl) ?_
    refine wpdS_mv (a := (eI v10)) rfl rfl rfl (o_mv tk rfl (Wk.refl _)) ?_
    refine wpdS_bd H9 (fun y => .fptr ((eL 1 eI) y).cells 0) rfl rfl rfl (fun v12 hv => o_ixa tk hv td61 (enc_l td62 sz62 (enc_i64 td3 sz3).cut) rfl rfl) fun v12 hv12 H11 => ?_
    refine wpdS_mv (a := ((eL 1 eI) v12)) rfl rfl rfl (o_ld_e tk (enc_l td62 sz62 (enc_i64 td3 sz3).cut) rfl rfl) ?_
    refine wpdS_mv (a := (eI x1)) rfl rfl rfl (o_mv tk rfl (Wk.refl _)) ?_
    refine wpdS_bd H11 (eL 1 eI) rfl rfl rfl (fun v14 hv => OpP.of_call rfl rfl (.cons (.of_eq rfl) (.cons (.of_eq rfl) .nil)) (butteryref09_But_ok hv)) fun v14 hv14 H13 => ?_
    refine wpdS_mv (a := (eI x1)) rfl rfl rfl (o_mv tk rfl (Wk.refl _)) ?_
    refine wpdS_bd H13 (eL 1 eI) rfl rfl rfl (fun v16 hv => OpP.of_call rfl rfl (.cons (.of_eq rfl) (.cons (.of_eq rfl) .nil)) (butteryref09_ahead_ok hv)) fun v16 hv16 H15 => ?_
    refine wpdS_bd H15 e_butteryref09_Lists rfl rfl rfl (fun v18 hv => OpP.of_call rfl rfl (.cons (.of_eq rfl) (.cons (.of_eq rfl) (.cons (.of_eq rfl) .nil))) (butteryref09_with_ok hv)) fun v18 hv18 H17 => ?_
    refine wpdS_a (av := fun id => .ref id 0) rfl rfl rfl (h_alloc tk hH ty64 [AV.nils, AV.nils, AV.nils, (eI z_butteryref09_Lists.Nodes)] rfl) fun id19 τ ⟨hH, n20⟩ => ?_
    refine wpdS_z rfl rfl rfl (h_st tk hH 0 rfl ty64 (by simp) rfl rfl (.of_eq rfl) (b := (e_butteryref09_Lists v18)) (enc64.flat _) rfl (Nat.le_of_ble_eq_true rfl) (c_butteryref09_Lists (v18 : butteryref09_Lists)) rfl) fun τ hH => ?_
    refine wpdS_nil ?_
    refine awp_seq ?_
    refine awp_region rfl ?_
    refine wpo_mv (a := (.fptr (c_butteryref09_Lists x0) 2)) rfl rfl rfl (o_c tk false rfl (fun _ => rfl)) ?_
    refine wpo_mv (a := ((eL 1 eI) x0.Used)) rfl rfl rfl (o_ld tk rfl rfl) ?_
    refine wpo_mv (a := (eI x1)) rfl rfl rfl (o_mv tk rfl (Wk.refl _)) ?_
    refine wpo_bd H17 (eL 1 eI) rfl rfl rfl (fun v23 hv => OpP.of_call rfl rfl (.cons (.of_eq rfl) (.cons (.of_eq rfl) .nil)) (butteryref09_But_ok hv)) fun v23 hv23 H22 => ?_
    refine wpo_mv (a := (eI x1)) rfl rfl rfl (o_mv tk rfl (Wk.refl _)) ?_
    refine wpo_bd H22 (eL 1 eI) rfl rfl rfl (fun v25 hv => OpP.of_call rfl rfl (.cons (.of_eq rfl) (.cons (.of_eq rfl) .nil)) (butteryref09_ahead_ok hv)) fun v25 hv25 H24 => ?_
    refine wpo_mv (a := (.ref id19 2)) rfl rfl rfl (o_c tk false rfl (fun _ => rfl)) ?_
    obtain ⟨c27, hc28, H26⟩ := lt_ex H24
    refine wpo_z rfl rfl (h_st tk hH 0 rfl ty62 (by simp) rfl rfl (.of_eq rfl) (b := ((eL 1 eI) v25)) rfl rfl (Nat.le_of_ble_eq_true rfl) (c_butteryref09_Lists c27) (by rw [← hc28]; rfl)) fun τ hH => ?_
    refine wpo_nil ?_
    refine awp_seq ?_
    refine awp_region rfl ?_
    refine wpo_rd (a := (e_butteryref09_Lists c27)) rfl rfl rfl (h_ld tk hH 0 rfl rfl rfl) ?_
    refine wpo_z rfl rfl (h_st tk hH 1 rfl ty64 (by simp) rfl rfl (.of_eq rfl) (b := (e_butteryref09_Lists c27)) (enc64.flat _) rfl (Nat.le_of_ble_eq_true rfl) (c_butteryref09_Lists (c27 : butteryref09_Lists)) rfl) fun τ hH => ?_
    refine wpo_mv (a := (eI (0 : Int))) rfl rfl rfl (o_as tk rfl (Wk.refl _)) ?_
    refine wpo_nil ?_
    refine awp_ret ?_
    obtain rfl := Option.some.inj H26
    exact ⟨_, (.tup [(e_butteryref09_Lists (c27 : butteryref09_Lists)), (eI (0 : Int))]), (ares_2 (ares_cell hH 1 rfl rfl rfl) rfl), (wk_tup (.cons (.of_eq rfl) (.cons (.of_eq rfl) .nil))), .of_eq (by simp only [cutAV, cutL, enc64.cut _ _ _, (enc_i64 td34 sz34).cut _ _ _]), ((hH.noT.drop n20).drop n2)⟩
end Go.Proofs.YtobbifgmjkgkfaaDoor
namespace Go.Proofs.YtobbifgmjkgkfaaDoor
open Go Go.Va
set_option linter.unusedVariables false
set_option linter.unusedSimpArgs false
set_option maxRecDepth 20000
theorem butterylaw09_do_ok {x0 : lists_Lists} {x1 : butteryref09_Lists} {x2 : butterylaw09_Op} {r : butteryref09_Lists × Bool × lists_Lists} (H : butterylaw09_do x0 x1 x2 = some r) (σ : St) {p0 p0_nodes p0_first_ p0_last_ p0_count : Nat} (h0 : σ.objs[p0]? = some [(.vec p0_nodes 4 (x0.nodes).length), (.vec p0_first_ 1 (x0.first_).length), (.vec p0_last_ 1 (x0.last_).length), (.vec p0_count 1 (x0.count).length), (eI x0.free), (eI x0.clock)]) (h0_nodes : σ.objs[p0_nodes]? = some (cL e_lists_link x0.nodes)) (h0_first_ : σ.objs[p0_first_]? = some (cL eI x0.first_)) (h0_last_ : σ.objs[p0_last_]? = some (cL eI x0.last_)) (h0_count : σ.objs[p0_count]? = some (cL eI x0.count)) (hd : [p0, p0_nodes, p0_first_, p0_last_, p0_count].Pairwise fun a b => a ≠ b) (hg : σ.gl = gls) : ACall Tryd.prog 26 [(.ref p0 0), (e_butteryref09_Lists x1), (e_butterylaw09_Op x2)] σ (fun a τ => a = .tup [e_butteryref09_Lists r.1, eB r.2.1] ∧ τ = σ.puts [(p0, [(.vec p0_nodes 4 (r.2.2.nodes).length), (.vec p0_first_ 1 (r.2.2.first_).length), (.vec p0_last_ 1 (r.2.2.last_).length), (.vec p0_count 1 (r.2.2.count).length), (eI r.2.2.free), (eI r.2.2.clock)]), (p0_nodes, (cL e_lists_link r.2.2.nodes)), (p0_first_, (cL eI r.2.2.first_)), (p0_last_, (cL eI r.2.2.last_)), (p0_count, (cL eI r.2.2.count))]) := by
  unfold butterylaw09_do at H
  refine ACall.outB [(p0, [(.vec p0_nodes 4 (r.2.2.nodes).length), (.vec p0_first_ 1 (r.2.2.first_).length), (.vec p0_last_ 1 (r.2.2.last_).length), (.vec p0_count 1 (r.2.2.count).length), (eI r.2.2.free), (eI r.2.2.clock)]), (p0_nodes, (cL e_lists_link r.2.2.nodes)), (p0_first_, (cL eI r.2.2.first_)), (p0_last_, (cL eI r.2.2.last_)), (p0_count, (cL eI r.2.2.count))] (by simp only [List.mem_cons, List.not_mem_nil, or_false]; rintro _ (rfl | rfl | rfl | rfl | rfl) <;> first | exact cut_cL enc116.cut _ _ _ | exact cut_cL (enc_i64 td3 sz3).cut _ _ _ | simp only [cutL, cut_vec_id (idl_get h0_nodes), cut_vec_id (idl_get h0_first_), cut_vec_id (idl_get h0_last_), cut_vec_id (idl_get h0_count), (enc_i64 td3 sz3).cut _ _]) (acall_start tk Tryd.func26 (by decide) rfl (Nat.le_of_ble_eq_true rfl) ?_)
  have hH := Holds.brings (σ := σ) [(p0, [(.vec p0_nodes 4 (x0.nodes).length), (.vec p0_first_ 1 (x0.first_).length), (.vec p0_last_ 1 (x0.last_).length), (.vec p0_count 1 (x0.count).length), (eI x0.free), (eI x0.clock)]), (p0_nodes, (cL e_lists_link x0.nodes)), (p0_first_, (cL eI x0.first_)), (p0_last_, (cL eI x0.last_)), (p0_count, (cL eI x0.count))] (by simp only [List.mem_cons, List.not_mem_nil, or_false]; rintro _ (rfl | rfl | rfl | rfl | rfl) <;> assumption) hd
  refine awp_seq ?_
  refine awp_region rfl ?_
  refine wpo_mv (a := (.fptr (c_butteryref09_Lists x1) 0)) rfl rfl rfl (o_boxf tk rfl (.of_eq rfl) (b := (e_butteryref09_Lists x1)) (enc64.flat _)) ?_
  refine wpo_mv (a := (.fptr (c_butterylaw09_Op x2) 0)) rfl rfl rfl (o_boxf tk rfl (.of_eq rfl) (b := (e_butterylaw09_Op x2)) (enc70.flat _)) ?_
  refine wpo_a (av := fun id => .ref id 0) rfl rfl rfl (h_alloc tk hH ty64 [AV.nils, AV.nils, AV.nils, (eI z_butteryref09_Lists.Nodes)] rfl) fun id1 τ ⟨hH, n2⟩ => ?_
  refine wpo_mv (a := (eB false)) rfl rfl rfl (o_as tk rfl (Wk.refl _)) ?_
  refine wpo_nil ?_
  refine awp_seq ?_
  refine awp_seq ?_
  refine awp_region rfl ?_
  refine wpo_mv (a := (.fptr (c_butterylaw09_Op x2) 0)) rfl rfl rfl (o_c tk false rfl (fun _ => rfl)) ?_
  refine wpo_mv (a := (eI x2.Kind)) rfl rfl rfl (o_ld tk rfl rfl) ?_
  refine wpo_nil ?_
  refine awp_block ?_
  refine awp_seq ?_
  refine awp_region rfl ?_
  refine wpo_lt H eB rfl rfl rfl (o_ar tk rfl rfl rfl) fun v4 H3 => ?_
  refine wpo_mv (a := (eB v4)) rfl rfl rfl (o_as tk rfl (Wk.refl _)) ?_
  refine wpo_nil ?_
  refine awp_if H3 rfl (fun H5 => ?_) (fun H5 => ?_)
  · refine awp_seq ?_
    refine awp_region rfl ?_
    refine wpo_mv (a := (e_butteryref09_Lists x1)) rfl rfl rfl (o_ld tk rfl rfl) ?_
    refine wpo_mv (a := (.fptr (c_butterylaw09_Op x2) 1)) rfl rfl rfl (o_c tk false rfl (fun _ => rfl)) ?_
    refine wpo_mv (a := (eI x2.At)) rfl rfl rfl (o_ld tk rfl rfl) ?_
    refine wpo_bd H5 (fun r => .tup [e_butteryref09_Lists r.1, eI r.2.1, eI r.2.2]) rfl rfl rfl (fun v7 hv => OpP.of_call rfl rfl (.cons (.of_eq rfl) (.cons (.of_eq rfl) .nil)) (butteryref09_Add_ok hv)) fun v7 hv7 H6 => ?_
    refine wpo_mv (a := (.tup [(e_butteryref09_Lists v7.1), (eI v7.2.1), (eI v7.2.2)])) rfl rfl rfl (o_mv tk rfl (Wk.refl _)) ?_
    refine wpo_mv (a := (e_butteryref09_Lists v7.1)) rfl rfl rfl (o_ext tk rfl rfl) ?_
    refine wpo_mv (a := (eI v7.2.1)) rfl rfl rfl (o_ext tk rfl rfl) ?_
    refine wpo_mv (a := (eI v7.2.2)) rfl rfl rfl (o_ext tk rfl rfl) ?_
    refine wpo_a (av := fun id => .ref id 0) rfl rfl rfl (h_alloc tk hH ty64 [AV.nils, AV.nils, AV.nils, (eI z_butteryref09_Lists.Nodes)] rfl) fun id8 τ ⟨hH, n9⟩ => ?_
    refine wpo_z rfl rfl (h_st tk hH 0 rfl ty64 (by simp) rfl rfl (.of_eq rfl) (b := (e_butteryref09_Lists v7.1)) (enc64.flat _) rfl (Nat.le_of_ble_eq_true rfl) (c_butteryref09_Lists (v7.1 : butteryref09_Lists)) rfl) fun τ hH => ?_
    refine wpo_mv (a := (eI v7.2.1)) rfl rfl rfl (o_as tk rfl (Wk.refl _)) ?_
    refine wpo_mv (a := (eI v7.2.2)) rfl rfl rfl (o_as tk rfl (Wk.refl _)) ?_
    refine wpo_nil ?_
    refine awp_seq ?_
    refine awp_region rfl ?_
    refine wpo_mv (a := (.ref p0 0)) rfl rfl rfl (o_mv tk rfl (Wk.refl _)) ?_
    refine wpo_mv (a := (.fptr (c_butterylaw09_Op x2) 1)) rfl rfl rfl (o_c tk false rfl (fun _ => rfl)) ?_
    refine wpo_mv (a := (eI x2.At)) rfl rfl rfl (o_ld tk rfl rfl) ?_
    refine wpo_cb H6 (fun x _ => .tup [eI x.1, eErr x.2.1]) rfl rfl rfl (fun v12 hv => h_call1 hH [(2, (p0, [(.vec p0_nodes 4 (v12.2.2.nodes).length), (.vec p0_first_ 1 (v12.2.2.first_).length), (.vec p0_last_ 1 (v12.2.2.last_).length), (.vec p0_count 1 (v12.2.2.count).length), (eI v12.2.2.free), (eI v12.2.2.clock)])), (3, (p0_nodes, (cL e_lists_link v12.2.2.nodes))), (4, (p0_first_, (cL eI v12.2.2.first_))), (5, (p0_last_, (cL eI v12.2.2.last_))), (6, (p0_count, (cL eI v12.2.2.count)))] ⟨⟨_, rfl⟩, ⟨⟨_, rfl⟩, ⟨⟨_, rfl⟩, ⟨⟨_, rfl⟩, ⟨⟨_, rfl⟩, trivial⟩⟩⟩⟩⟩ rfl rfl (.cons (.of_eq rfl) (.cons (.of_eq rfl) .nil)) (lists_Lists_Add_ok hv _ (hH.at_ 2 rfl) (hH.at_ 3 rfl) (hH.at_ 4 rfl) (hH.at_ 5 rfl) (hH.at_ 6 rfl) (hH.pw [2, 3, 4, 5, 6] rfl (by decide)))) fun v12 _ τ hv12 H11 (hH : Holds σ [(id8, (c_butteryref09_Lists (v7.1 : butteryref09_Lists))), (id1, [AV.nils, AV.nils, AV.nils, (eI z_butteryref09_Lists.Nodes)]), (p0, [(.vec p0_nodes 4 (v12.2.2.nodes).length), (.vec p0_first_ 1 (v12.2.2.first_).length), (.vec p0_last_ 1 (v12.2.2.last_).length), (.vec p0_count 1 (v12.2.2.count).length), (eI v12.2.2.free), (eI v12.2.2.clock)]), (p0_nodes, (cL e_lists_link v12.2.2.nodes)), (p0_first_, (cL eI v12.2.2.first_)), (p0_last_, (cL eI v12.2.2.last_)), (p0_count, (cL eI v12.2.2.count))] [] τ) => ?_
    refine wpo_mv (a := (.tup [(eI v12.1), (eErr v12.2.1)])) rfl rfl rfl (o_mv tk rfl (Wk.refl _)) ?_
    refine wpo_mv (a := (eI v12.1)) rfl rfl rfl (o_ext tk rfl rfl) ?_
    refine wpo_mv (a := (eErr v12.2.1)) rfl rfl rfl (o_ext tk rfl rfl) ?_
    refine wpo_mv (a := (eI v12.1)) rfl rfl rfl (o_as tk rfl (Wk.refl _)) ?_
    refine wpo_mv (a := (eErr v12.2.1)) rfl rfl rfl (o_as tk rfl (Wk.refl _)) ?_
    refine wpo_nil ?_
    refine awp_seq ?_
    refine awp_drawS mixed [10] rfl (by decide +kernel) rfl rfl ?_
    refine wpdS_rd (a := (e_butteryref09_Lists (v7.1 : butteryref09_Lists))) rfl (by decide +kernel) rfl rfl (h_ld tk hH 0 rfl rfl rfl) ?_
    refine wpdS_mv (a := (eI v12.1)) rfl rfl rfl (o_mv tk rfl (Wk.refl _)) ?_
    refine wpdS_mv (a := (eI v7.2.1)) rfl rfl rfl (o_mv tk rfl (Wk.refl _)) ?_
    refine wpdS_lt H11 eB rfl rfl rfl (o_ar tk rfl rfl rfl) fun v14 H13 => ?_
    refine wpdS_mv (a := (eB v14)) rfl rfl rfl (o_mv tk rfl (Wk.refl _)) ?_
    refine if_split H13 (fun hb H15 => ?_) (fun hb H15 => ?_)
    · subst hb
      refine wpdS_mv (a := (eErr v12.2.1)) rfl rfl rfl (o_mv tk rfl (Wk.refl _)) ?_
      refine wpdS_bdr H15 eI rfl (by decide +kernel) rfl rfl (fun v17 hv => h_callr rfl rfl (.cons (.of_eq rfl) .nil) (trouble_Of_ok hv _ (hH.gl.trans hg))) fun v17 hv17 H16 => ?_
      refine wpdS_mv (a := (eI v7.2.2)) rfl rfl rfl (o_mv tk rfl (Wk.refl _)) ?_
      refine wpdS_lt H16 eB rfl rfl rfl (o_ar tk rfl rfl rfl) fun v19 H18 => ?_
      refine wpdS_mv (a := (eB v19)) rfl rfl rfl (o_pick_t tk rfl rfl (Wk.refl _)) ?_
      refine wpdS_z rfl rfl rfl (h_st tk hH 1 rfl ty64 (by simp) rfl rfl (.of_eq rfl) (b := (e_butteryref09_Lists (v7.1 : butteryref09_Lists))) (enc64.flat _) rfl (Nat.le_of_ble_eq_true rfl) (c_butteryref09_Lists ((v7.1 : butteryref09_Lists) : butteryref09_Lists)) rfl) fun τ hH => ?_
      refine wpdS_mv (a := (eB v19)) rfl rfl rfl (o_as tk rfl (Wk.refl _)) ?_
      refine wpdS_nil ?_
      refine awp_ret ?_
      obtain rfl := Option.some.inj H18
      exact ⟨_, (.tup [(e_butteryref09_Lists ((v7.1 : butteryref09_Lists) : butteryref09_Lists)), (eB v19)]), (ares_2 (ares_cell hH 1 rfl rfl rfl) rfl), (wk_tup (.cons (.of_eq rfl) (.cons (.of_eq rfl) .nil))), .of_eq (by simp only [cutAV, cutL, enc64.cut _ _ _, (enc_b td4 sz4).cut _ _ _]), ((hH.noT.drop n9).drop n2)⟩
    · subst hb
      refine wpdS_skip rfl rfl rfl ?_
      refine wpdS_skip rfl rfl rfl ?_
      refine wpdS_skip rfl rfl rfl ?_
      refine wpdS_skip rfl rfl rfl ?_
      refine wpdS_mv (a := (eB false)) rfl rfl rfl (o_pick_f tk rfl rfl (Wk.refl _)) ?_
      refine wpdS_z rfl rfl rfl (h_st tk hH 1 rfl ty64 (by simp) rfl rfl (.of_eq rfl) (b := (e_butteryref09_Lists (v7.1 : butteryref09_Lists))) (enc64.flat _) rfl (Nat.le_of_ble_eq_true rfl) (c_butteryref09_Lists ((v7.1 : butteryref09_Lists) : butteryref09_Lists)) rfl) fun τ hH => ?_
      refine wpdS_mv (a := (eB false)) rfl rfl rfl (o_as tk rfl (Wk.refl _)) ?_
      refine wpdS_nil ?_
      refine awp_ret ?_
      obtain rfl := Option.some.inj H15
      exact ⟨_, (.tup [(e_butteryref09_Lists ((v7.1 : butteryref09_Lists) : butteryref09_Lists)), (eB false)]), (ares_2 (ares_cell hH 1 rfl rfl rfl) rfl), (wk_tup (.cons (.of_eq rfl) (.cons (.of_eq rfl) .nil))), .of_eq (by simp only [cutAV, cutL, enc64.cut _ _ _, (enc_b td4 sz4).cut _ _ _]), ((hH.noT.drop n9).drop n2)⟩
  · refine awp_seq ?_
    refine awp_region rfl ?_
    refine wpo_lt H5 eB rfl rfl rfl (o_ar tk rfl rfl rfl) fun v23 H22 => ?_
    refine wpo_mv (a := (eB v23)) rfl rfl rfl (o_as tk rfl (Wk.refl _)) ?_
    refine wpo_nil ?_
    refine awp_if H22 rfl (fun H24 => ?_) (fun H24 => ?_)
    · refine awp_seq ?_
      refine awp_region rfl ?_
      refine wpo_mv (a := (e_butteryref09_Lists x1)) rfl rfl rfl (o_ld tk rfl rfl) ?_
      refine wpo_mv (a := (.fptr (c_butterylaw09_Op x2) 1)) rfl rfl rfl (o_c tk false rfl (fun _ => rfl)) ?_
      refine wpo_mv (a := (eI x2.At)) rfl rfl rfl (o_ld tk rfl rfl) ?_
      refine wpo_bd H24 (fun r => .tup [e_butteryref09_Lists r.1, eI r.2]) rfl rfl rfl (fun v26 hv => OpP.of_call rfl rfl (.cons (.of_eq rfl) (.cons (.of_eq rfl) .nil)) (butteryref09_Drop_ok hv)) fun v26 hv26 H25 => ?_
      refine wpo_mv (a := (.tup [(e_butteryref09_Lists v26.1), (eI v26.2)])) rfl rfl rfl (o_mv tk rfl (Wk.refl _)) ?_
      refine wpo_mv (a := (e_butteryref09_Lists v26.1)) rfl rfl rfl (o_ext tk rfl rfl) ?_
      refine wpo_mv (a := (eI v26.2)) rfl rfl rfl (o_ext tk rfl rfl) ?_
      refine wpo_a (av := fun id => .ref id 0) rfl rfl rfl (h_alloc tk hH ty64 [AV.nils, AV.nils, AV.nils, (eI z_butteryref09_Lists.Nodes)] rfl) fun id27 τ ⟨hH, n28⟩ => ?_
      refine wpo_z rfl rfl (h_st tk hH 0 rfl ty64 (by simp) rfl rfl (.of_eq rfl) (b := (e_butteryref09_Lists v26.1)) (enc64.flat _) rfl (Nat.le_of_ble_eq_true rfl) (c_butteryref09_Lists (v26.1 : butteryref09_Lists)) rfl) fun τ hH => ?_
      refine wpo_mv (a := (eI v26.2)) rfl rfl rfl (o_as tk rfl (Wk.refl _)) ?_
      refine wpo_nil ?_
      refine awp_seq ?_
      refine awp_drawR mixed [4, 8] rfl (by decide +kernel) rfl rfl (fun σ => σ.objs[id27]? = some (c_butteryref09_Lists (v26.1 : butteryref09_Lists))) 1 (hH.at_ 0 rfl) ?_
      refine wpdR_rdp (a := (e_butteryref09_Lists (v26.1 : butteryref09_Lists))) rfl (by decide +kernel) rfl rfl (fun σ hF => (h_ld tk (Holds.one hF) 0 rfl rfl rfl)) ?_
      refine wpdR_mv (a := (.ref p0 0)) rfl rfl rfl (o_mv tk rfl (Wk.refl _)) ?_
      refine wpdR_mv (a := (.fptr (c_butterylaw09_Op x2) 1)) rfl rfl rfl (o_c tk false rfl (fun _ => rfl)) ?_
      refine wpdR_mv (a := (eI x2.At)) rfl rfl rfl (o_ld tk rfl rfl) ?_
      refine wpdR_cb H25 (fun x _ => eErr x.1) rfl rfl rfl (fun v31 hv => h_call1 hH [(2, (p0, [(.vec p0_nodes 4 (v31.2.nodes).length), (.vec p0_first_ 1 (v31.2.first_).length), (.vec p0_last_ 1 (v31.2.last_).length), (.vec p0_count 1 (v31.2.count).length), (eI v31.2.free), (eI v31.2.clock)])), (3, (p0_nodes, (cL e_lists_link v31.2.nodes))), (4, (p0_first_, (cL eI v31.2.first_))), (5, (p0_last_, (cL eI v31.2.last_))), (6, (p0_count, (cL eI v31.2.count)))] ⟨⟨_, rfl⟩, ⟨⟨_, rfl⟩, ⟨⟨_, rfl⟩, ⟨⟨_, rfl⟩, ⟨⟨_, rfl⟩, trivial⟩⟩⟩⟩⟩ rfl rfl (.cons (.of_eq rfl) (.cons (.of_eq rfl) .nil)) (lists_Lists_Drop_ok hv _ (hH.at_ 2 rfl) (hH.at_ 3 rfl) (hH.at_ 4 rfl) (hH.at_ 5 rfl) (hH.at_ 6 rfl) (hH.pw [2, 3, 4, 5, 6] rfl (by decide)))) fun v31 _ τ hv31 H30 (hH : Holds σ [(id27, (c_butteryref09_Lists (v26.1 : butteryref09_Lists))), (id1, [AV.nils, AV.nils, AV.nils, (eI z_butteryref09_Lists.Nodes)]), (p0, [(.vec p0_nodes 4 (v31.2.nodes).length), (.vec p0_first_ 1 (v31.2.first_).length), (.vec p0_last_ 1 (v31.2.last_).length), (.vec p0_count 1 (v31.2.count).length), (eI v31.2.free), (eI v31.2.clock)]), (p0_nodes, (cL e_lists_link v31.2.nodes)), (p0_first_, (cL eI v31.2.first_)), (p0_last_, (cL eI v31.2.last_)), (p0_count, (cL eI v31.2.count))] [] τ) => ⟨fun _ => (hH.at_ 0 rfl), ?_⟩
      refine wpdR_bdr H30 eI rfl (by decide +kernel) rfl rfl (fun v33 hv => h_callr rfl rfl (.cons (.of_eq rfl) .nil) (trouble_Of_ok hv _ (hH.gl.trans hg))) fun v33 hv33 H32 => ?_
      refine wpdR_mv (a := (eI v26.2)) rfl rfl rfl (o_mv tk rfl (Wk.refl _)) ?_
      refine wpdR_lt H32 eB rfl rfl rfl (o_ar tk rfl rfl rfl) fun v35 H34 => ?_
      refine wpdR_z rfl rfl rfl (h_st tk hH 1 rfl ty64 (by simp) rfl rfl (.of_eq rfl) (b := (e_butteryref09_Lists (v26.1 : butteryref09_Lists))) (enc64.flat _) rfl (Nat.le_of_ble_eq_true rfl) (c_butteryref09_Lists ((v26.1 : butteryref09_Lists) : butteryref09_Lists)) rfl) fun τ hH => ⟨fun h => absurd h (by decide +kernel), ?_⟩
      refine wpdR_mv (a := (eB v35)) rfl rfl rfl (o_as tk rfl (Wk.refl _)) ?_
      refine wpdR_nil ?_
      refine awp_ret ?_
      obtain rfl := Option.some.inj H34
      exact ⟨_, (.tup [(e_butteryref09_Lists ((v26.1 : butteryref09_Lists) : butteryref09_Lists)), (eB v35)]), (ares_2 (ares_cell hH 1 rfl rfl rfl) rfl), (wk_tup (.cons (.of_eq rfl) (.cons (.of_eq rfl) .nil))), .of_eq (by simp only [cutAV, cutL, enc64.cut _ _ _, (enc_b td4 sz4).cut _ _ _]), ((hH.noT.drop n28).drop n2)⟩
    · refine awp_seq ?_
      refine awp_region rfl ?_
      refine wpo_lt H24 eB rfl rfl rfl (o_ar tk rfl rfl rfl) fun v38 H37 => ?_
      refine wpo_mv (a := (eB v38)) rfl rfl rfl (o_as tk rfl (Wk.refl _)) ?_
      refine wpo_nil ?_
      refine awp_if H37 rfl (fun H39 => ?_) (fun H39 => ?_)
      · refine awp_seq ?_
        refine awp_region rfl ?_
        refine wpo_mv (a := (e_butteryref09_Lists x1)) rfl rfl rfl (o_ld tk rfl rfl) ?_
        refine wpo_mv (a := (.fptr (c_butterylaw09_Op x2) 1)) rfl rfl rfl (o_c tk false rfl (fun _ => rfl)) ?_
        refine wpo_mv (a := (eI x2.At)) rfl rfl rfl (o_ld tk rfl rfl) ?_
        refine wpo_bd H39 (fun r => .tup [e_butteryref09_Lists r.1, eI r.2]) rfl rfl rfl (fun v41 hv => OpP.of_call rfl rfl (.cons (.of_eq rfl) (.cons (.of_eq rfl) .nil)) (butteryref09_Touch_ok hv)) fun v41 hv41 H40 => ?_
        refine wpo_mv (a := (.tup [(e_butteryref09_Lists v41.1), (eI v41.2)])) rfl rfl rfl (o_mv tk rfl (Wk.refl _)) ?_
        refine wpo_mv (a := (e_butteryref09_Lists v41.1)) rfl rfl rfl (o_ext tk rfl rfl) ?_
        refine wpo_mv (a := (eI v41.2)) rfl rfl rfl (o_ext tk rfl rfl) ?_
        refine wpo_a (av := fun id => .ref id 0) rfl rfl rfl (h_alloc tk hH ty64 [AV.nils, AV.nils, AV.nils, (eI z_butteryref09_Lists.Nodes)] rfl) fun id42 τ ⟨hH, n43⟩ => ?_
        refine wpo_z rfl rfl (h_st tk hH 0 rfl ty64 (by simp) rfl rfl (.of_eq rfl) (b := (e_butteryref09_Lists v41.1)) (enc64.flat _) rfl (Nat.le_of_ble_eq_true rfl) (c_butteryref09_Lists (v41.1 : butteryref09_Lists)) rfl) fun τ hH => ?_
        refine wpo_mv (a := (eI v41.2)) rfl rfl rfl (o_as tk rfl (Wk.refl _)) ?_
        refine wpo_nil ?_
        refine awp_seq ?_
        refine awp_drawR mixed [4, 8] rfl (by decide +kernel) rfl rfl (fun σ => σ.objs[id42]? = some (c_butteryref09_Lists (v41.1 : butteryref09_Lists))) 1 (hH.at_ 0 rfl) ?_
        refine wpdR_rdp (a := (e_butteryref09_Lists (v41.1 : butteryref09_Lists))) rfl (by decide +kernel) rfl rfl (fun σ hF => (h_ld tk (Holds.one hF) 0 rfl rfl rfl)) ?_
        refine wpdR_mv (a := (.ref p0 0)) rfl rfl rfl (o_mv tk rfl (Wk.refl _)) ?_
        refine wpdR_mv (a := (.fptr (c_butterylaw09_Op x2) 1)) rfl rfl rfl (o_c tk false rfl (fun _ => rfl)) ?_
        refine wpdR_mv (a := (eI x2.At)) rfl rfl rfl (o_ld tk rfl rfl) ?_
        refine wpdR_cb H40 (fun x _ => eErr x.1) rfl rfl rfl (fun v46 hv => h_call1 hH [(2, (p0, [(.vec p0_nodes 4 (v46.2.nodes).length), (.vec p0_first_ 1 (v46.2.first_).length), (.vec p0_last_ 1 (v46.2.last_).length), (.vec p0_count 1 (v46.2.count).length), (eI v46.2.free), (eI v46.2.clock)])), (3, (p0_nodes, (cL e_lists_link v46.2.nodes))), (4, (p0_first_, (cL eI v46.2.first_))), (5, (p0_last_, (cL eI v46.2.last_))), (6, (p0_count, (cL eI v46.2.count)))] ⟨⟨_, rfl⟩, ⟨⟨_, rfl⟩, ⟨⟨_, rfl⟩, ⟨⟨_, rfl⟩, ⟨⟨_, rfl⟩, trivial⟩⟩⟩⟩⟩ rfl rfl (.cons (.of_eq rfl) (.cons (.of_eq rfl) .nil)) (lists_Lists_Touch_ok hv _ (hH.at_ 2 rfl) (hH.at_ 3 rfl) (hH.at_ 4 rfl) (hH.at_ 5 rfl) (hH.at_ 6 rfl) (hH.pw [2, 3, 4, 5, 6] rfl (by decide)))) fun v46 _ τ hv46 H45 (hH : Holds σ [(id42, (c_butteryref09_Lists (v41.1 : butteryref09_Lists))), (id1, [AV.nils, AV.nils, AV.nils, (eI z_butteryref09_Lists.Nodes)]), (p0, [(.vec p0_nodes 4 (v46.2.nodes).length), (.vec p0_first_ 1 (v46.2.first_).length), (.vec p0_last_ 1 (v46.2.last_).length), (.vec p0_count 1 (v46.2.count).length), (eI v46.2.free), (eI v46.2.clock)]), (p0_nodes, (cL e_lists_link v46.2.nodes)), (p0_first_, (cL eI v46.2.first_)), (p0_last_, (cL eI v46.2.last_)), (p0_count, (cL eI v46.2.count))] [] τ) => ⟨fun _ => (hH.at_ 0 rfl), ?_⟩
        refine wpdR_bdr H45 eI rfl (by decide +kernel) rfl rfl (fun v48 hv => h_callr rfl rfl (.cons (.of_eq rfl) .nil) (trouble_Of_ok hv _ (hH.gl.trans hg))) fun v48 hv48 H47 => ?_
        refine wpdR_mv (a := (eI v41.2)) rfl rfl rfl (o_mv tk rfl (Wk.refl _)) ?_
        refine wpdR_lt H47 eB rfl rfl rfl (o_ar tk rfl rfl rfl) fun v50 H49 => ?_
        refine wpdR_z rfl rfl rfl (h_st tk hH 1 rfl ty64 (by simp) rfl rfl (.of_eq rfl) (b := (e_butteryref09_Lists (v41.1 : butteryref09_Lists))) (enc64.flat _) rfl (Nat.le_of_ble_eq_true rfl) (c_butteryref09_Lists ((v41.1 : butteryref09_Lists) : butteryref09_Lists)) rfl) fun τ hH => ⟨fun h => absurd h (by decide +kernel), ?_⟩
        refine wpdR_mv (a := (eB v50)) rfl rfl rfl (o_as tk rfl (Wk.refl _)) ?_
        refine wpdR_nil ?_
        refine awp_ret ?_
        obtain rfl := Option.some.inj H49
        exact ⟨_, (.tup [(e_butteryref09_Lists ((v41.1 : butteryref09_Lists) : butteryref09_Lists)), (eB v50)]), (ares_2 (ares_cell hH 1 rfl rfl rfl) rfl), (wk_tup (.cons (.of_eq rfl) (.cons (.of_eq rfl) .nil))), .of_eq (by simp only [cutAV, cutL, enc64.cut _ _ _, (enc_b td4 sz4).cut _ _ _]), ((hH.noT.drop n43).drop n2)⟩
      · refine awp_skip ?_
        refine awp_seq ?_
        refine awp_region rfl ?_
        refine wpo_mv (a := (e_butteryref09_Lists x1)) rfl rfl rfl (o_ld tk rfl rfl) ?_
        refine wpo_z rfl rfl (h_st tk hH 0 rfl ty64 (by simp) rfl rfl (.of_eq rfl) (b := (e_butteryref09_Lists x1)) (enc64.flat _) rfl (Nat.le_of_ble_eq_true rfl) (c_butteryref09_Lists (x1 : butteryref09_Lists)) rfl) fun τ hH => ?_
        refine wpo_mv (a := (eB true)) rfl rfl rfl (o_as tk rfl (Wk.refl _)) ?_
        refine wpo_nil ?_
        refine awp_ret ?_
        obtain rfl := Option.some.inj H39
        exact ⟨_, (.tup [(e_butteryref09_Lists (x1 : butteryref09_Lists)), (eB true)]), (ares_2 (ares_cell hH 0 rfl rfl rfl) rfl), (wk_tup (.cons (.of_eq rfl) (.cons (.of_eq rfl) .nil))), .of_eq (by simp only [cutAV, cutL, enc64.cut _ _ _, (enc_b td4 sz4).cut _ _ _]), (hH.noT.drop n2)⟩
end Go.Proofs.YtobbifgmjkgkfaaDoor
