/- LISTS STAY SOUND: whatever is done, each node stands in one list, or is free, and its neighbours stand where it says. (part 5 of 7) -/
import Derived.Test.YtobbifgmjkgkfaaDoorKListsSound4
namespace Go.Proofs.YtobbifgmjkgkfaaDoor
open Go Go.Va
set_option linter.unusedVariables false
set_option linter.unusedSimpArgs false
set_option maxRecDepth 20000
set_option maxHeartbeats 2000000
theorem butterylaw09_works_ok  {r : Bool} (H : butterylaw09_works = some r) (σ : St)  (hg : σ.gl = gls) : ACall Tryd.prog 23 [] σ (fun a τ => a = eB r ∧ τ = σ) := by
  unfold butterylaw09_works at H
  refine ACall.pure (acall_start tk Tryd.func23 (by decide) rfl (Nat.le_of_ble_eq_true rfl) ?_)
  have hH := Holds.init σ
  refine awp_seq ?_
  refine awp_region rfl ?_
  refine wpo_mv (a := (eB false)) rfl rfl rfl (o_as tk rfl (Wk.refl _)) ?_
  refine wpo_nil ?_
  refine awp_seq ?_
  refine awp_region rfl ?_
  obtain ⟨v2, hvv2, H1⟩ := Option.bind_eq_some_iff.1 H
  rcases hz6 : v2.1 with _ | c3
  · rw [hz6, Option.elim_none] at H1
    refine wpo_a (av := fun _ => .tup [.nilp, (eErr v2.2)]) rfl rfl rfl (h_callnb0 hH hz6 rfl rfl (.cons (.of_eq rfl) (.cons (.of_eq rfl) .nil)) (lists_New_ok hvv2 _)) fun _ τ hH => ?_
    refine wpo_mv (a := (.tup [.nilp, (eErr v2.2)])) rfl rfl rfl (o_mv tk rfl (Wk.refl _)) ?_
    refine wpo_mv (a := .nilp) rfl rfl rfl (o_ext tk rfl rfl) ?_
    refine wpo_mv (a := (eErr v2.2)) rfl rfl rfl (o_ext tk rfl rfl) ?_
    refine wpo_mv (a := .nilp) rfl rfl rfl (o_as tk rfl (Wk.refl _)) ?_
    refine wpo_mv (a := (eErr v2.2)) rfl rfl rfl (o_as tk rfl (Wk.refl _)) ?_
    refine wpo_nil ?_
    refine awp_seq ?_
    refine awp_region rfl ?_
    obtain ⟨v8, hvv8, H7⟩ := Option.bind_eq_some_iff.1 H1
    rcases hz12 : v8.1 with _ | c9
    · rw [hz12, Option.elim_none] at H7
      refine wpo_a (av := fun _ => .tup [.nilp, (eErr v8.2)]) rfl rfl rfl (h_callnb0 hH hz12 rfl rfl (.cons (.of_eq rfl) (.cons (.of_eq rfl) .nil)) (lists_New_ok hvv8 _)) fun _ τ hH => ?_
      refine wpo_mv (a := (.tup [.nilp, (eErr v8.2)])) rfl rfl rfl (o_mv tk rfl (Wk.refl _)) ?_
      refine wpo_mv (a := .nilp) rfl rfl rfl (o_ext tk rfl rfl) ?_
      refine wpo_mv (a := (eErr v8.2)) rfl rfl rfl (o_ext tk rfl rfl) ?_
      refine wpo_mv (a := .nilp) rfl rfl rfl (o_as tk rfl (Wk.refl _)) ?_
      refine wpo_mv (a := (eErr v8.2)) rfl rfl rfl (o_as tk rfl (Wk.refl _)) ?_
      refine wpo_nil ?_
      refine awp_seq ?_
      refine awp_seq ?_
      refine awp_region rfl ?_
      refine wpo_mv (a := .nilp) rfl rfl rfl (o_mv tk rfl (Wk.refl _)) ?_
      refine wpo_mv (a := (eB true)) rfl rfl rfl (o_c tk false rfl (fun _ => rfl)) ?_
      refine wpo_mv (a := (eB true)) rfl rfl rfl (o_mv tk rfl (Wk.refl _)) ?_
      refine wpo_skip rfl rfl rfl ?_
      refine wpo_skip rfl rfl rfl ?_
      refine wpo_mv (a := (eB true)) rfl rfl rfl (o_pick_t tk rfl rfl (Wk.refl _)) ?_
      refine wpo_nil ?_
      refine awp_true rfl ?_
      refine awp_seq ?_
      refine awp_region rfl ?_
      refine wpo_mv (a := (eB false)) rfl rfl rfl (o_as tk rfl (Wk.refl _)) ?_
      refine wpo_nil ?_
      refine awp_ret ?_
      obtain rfl := Option.some.inj H7
      exact ⟨_, (eB false), rfl, (.of_eq rfl), .of_eq ((enc_b td4 sz4).cut _ _ _), hH.noT⟩
    · rw [hz12, Option.elim_some] at H7
      refine wpo_a (av := fun id => .tup [.ref id 0, (eErr v8.2)]) rfl rfl rfl (h_callnb1 hH hz12 rfl rfl (.cons (.of_eq rfl) (.cons (.of_eq rfl) .nil)) (lists_New_ok hvv8 _)) fun id10 τ ⟨hH, n11⟩ => ?_
      obtain ⟨id10_nodes, h_id10_nodes⟩ : ∃ x, x = id10 + 1 := ⟨_, rfl⟩
      obtain ⟨id10_first_, h_id10_first_⟩ : ∃ x, x = id10 + 2 := ⟨_, rfl⟩
      obtain ⟨id10_last_, h_id10_last_⟩ : ∃ x, x = id10 + 3 := ⟨_, rfl⟩
      obtain ⟨id10_count, h_id10_count⟩ : ∃ x, x = id10 + 4 := ⟨_, rfl⟩
      have hH : Holds σ [(id10, [(.vec id10_nodes 4 (c9.nodes).length), (.vec id10_first_ 1 (c9.first_).length), (.vec id10_last_ 1 (c9.last_).length), (.vec id10_count 1 (c9.count).length), (eI c9.free), (eI c9.clock)]), (id10_nodes, (cL e_lists_link c9.nodes)), (id10_first_, (cL eI c9.first_)), (id10_last_, (cL eI c9.last_)), (id10_count, (cL eI c9.count))] [] τ := by rw [h_id10_nodes, h_id10_first_, h_id10_last_, h_id10_count]; exact hH
      have n11_1 : σ.objs.length ≤ id10_nodes := by omega
      have n11_2 : σ.objs.length ≤ id10_first_ := by omega
      have n11_3 : σ.objs.length ≤ id10_last_ := by omega
      have n11_4 : σ.objs.length ≤ id10_count := by omega
      refine wpo_mv (a := (.tup [(.ref id10 0), (eErr v8.2)])) rfl rfl rfl (o_mv tk rfl (Wk.refl _)) ?_
      refine wpo_mv (a := (.ref id10 0)) rfl rfl rfl (o_ext tk rfl rfl) ?_
      refine wpo_mv (a := (eErr v8.2)) rfl rfl rfl (o_ext tk rfl rfl) ?_
      refine wpo_mv (a := (.ref id10 0)) rfl rfl rfl (o_as tk rfl (Wk.refl _)) ?_
      refine wpo_mv (a := (eErr v8.2)) rfl rfl rfl (o_as tk rfl (Wk.refl _)) ?_
      refine wpo_nil ?_
      refine awp_seq ?_
      refine awp_seq ?_
      refine awp_region rfl ?_
      refine wpo_mv (a := .nilp) rfl rfl rfl (o_mv tk rfl (Wk.refl _)) ?_
      refine wpo_mv (a := (eB true)) rfl rfl rfl (o_c tk false rfl (fun _ => rfl)) ?_
      refine wpo_mv (a := (eB true)) rfl rfl rfl (o_mv tk rfl (Wk.refl _)) ?_
      refine wpo_skip rfl rfl rfl ?_
      refine wpo_skip rfl rfl rfl ?_
      refine wpo_mv (a := (eB true)) rfl rfl rfl (o_pick_t tk rfl rfl (Wk.refl _)) ?_
      refine wpo_nil ?_
      refine awp_true rfl ?_
      refine awp_seq ?_
      refine awp_region rfl ?_
      refine wpo_mv (a := (eB false)) rfl rfl rfl (o_as tk rfl (Wk.refl _)) ?_
      refine wpo_nil ?_
      refine awp_ret ?_
      obtain rfl := Option.some.inj H7
      exact ⟨_, (eB false), rfl, (.of_eq rfl), .of_eq ((enc_b td4 sz4).cut _ _ _), (((((hH.noT.drop n11).drop n11_1).drop n11_2).drop n11_3).drop n11_4)⟩
  · rw [hz6, Option.elim_some] at H1
    refine wpo_a (av := fun id => .tup [.ref id 0, (eErr v2.2)]) rfl rfl rfl (h_callnb1 hH hz6 rfl rfl (.cons (.of_eq rfl) (.cons (.of_eq rfl) .nil)) (lists_New_ok hvv2 _)) fun id4 τ ⟨hH, n5⟩ => ?_
    obtain ⟨id4_nodes, h_id4_nodes⟩ : ∃ x, x = id4 + 1 := ⟨_, rfl⟩
    obtain ⟨id4_first_, h_id4_first_⟩ : ∃ x, x = id4 + 2 := ⟨_, rfl⟩
    obtain ⟨id4_last_, h_id4_last_⟩ : ∃ x, x = id4 + 3 := ⟨_, rfl⟩
    obtain ⟨id4_count, h_id4_count⟩ : ∃ x, x = id4 + 4 := ⟨_, rfl⟩
    have hH : Holds σ [(id4, [(.vec id4_nodes 4 (c3.nodes).length), (.vec id4_first_ 1 (c3.first_).length), (.vec id4_last_ 1 (c3.last_).length), (.vec id4_count 1 (c3.count).length), (eI c3.free), (eI c3.clock)]), (id4_nodes, (cL e_lists_link c3.nodes)), (id4_first_, (cL eI c3.first_)), (id4_last_, (cL eI c3.last_)), (id4_count, (cL eI c3.count))] [] τ := by rw [h_id4_nodes, h_id4_first_, h_id4_last_, h_id4_count]; exact hH
    have n5_1 : σ.objs.length ≤ id4_nodes := by omega
    have n5_2 : σ.objs.length ≤ id4_first_ := by omega
    have n5_3 : σ.objs.length ≤ id4_last_ := by omega
    have n5_4 : σ.objs.length ≤ id4_count := by omega
    refine wpo_mv (a := (.tup [(.ref id4 0), (eErr v2.2)])) rfl rfl rfl (o_mv tk rfl (Wk.refl _)) ?_
    refine wpo_mv (a := (.ref id4 0)) rfl rfl rfl (o_ext tk rfl rfl) ?_
    refine wpo_mv (a := (eErr v2.2)) rfl rfl rfl (o_ext tk rfl rfl) ?_
    refine wpo_mv (a := (.ref id4 0)) rfl rfl rfl (o_as tk rfl (Wk.refl _)) ?_
    refine wpo_mv (a := (eErr v2.2)) rfl rfl rfl (o_as tk rfl (Wk.refl _)) ?_
    refine wpo_nil ?_
    refine awp_seq ?_
    refine awp_region rfl ?_
    obtain ⟨v14, hvv14, H13⟩ := Option.bind_eq_some_iff.1 H1
    rcases hz18 : v14.1 with _ | c15
    · rw [hz18, Option.elim_none] at H13
      refine wpo_a (av := fun _ => .tup [.nilp, (eErr v14.2)]) rfl rfl rfl (h_callnb0 hH hz18 rfl rfl (.cons (.of_eq rfl) (.cons (.of_eq rfl) .nil)) (lists_New_ok hvv14 _)) fun _ τ hH => ?_
      refine wpo_mv (a := (.tup [.nilp, (eErr v14.2)])) rfl rfl rfl (o_mv tk rfl (Wk.refl _)) ?_
      refine wpo_mv (a := .nilp) rfl rfl rfl (o_ext tk rfl rfl) ?_
      refine wpo_mv (a := (eErr v14.2)) rfl rfl rfl (o_ext tk rfl rfl) ?_
      refine wpo_mv (a := .nilp) rfl rfl rfl (o_as tk rfl (Wk.refl _)) ?_
      refine wpo_mv (a := (eErr v14.2)) rfl rfl rfl (o_as tk rfl (Wk.refl _)) ?_
      refine wpo_nil ?_
      refine awp_seq ?_
      refine awp_seq ?_
      refine awp_region rfl ?_
      refine wpo_mv (a := (.ref id4 0)) rfl rfl rfl (o_mv tk rfl (Wk.refl _)) ?_
      refine wpo_mv (a := (eB false)) rfl rfl rfl (o_c tk false rfl (fun _ => rfl)) ?_
      refine wpo_mv (a := (eB false)) rfl rfl rfl (o_mv tk rfl (Wk.refl _)) ?_
      refine wpo_mv (a := (eErr v2.2)) rfl rfl rfl (o_mv tk rfl (Wk.refl _)) ?_
      refine wpo_lt H13 eB rfl rfl rfl (o_err_neq tk rfl rfl rfl) fun v20 H19 => ?_
      refine wpo_mv (a := (eB v20)) rfl rfl rfl (o_pick_f tk rfl rfl (Wk.refl _)) ?_
      refine wpo_nil ?_
      refine awp_if H19 rfl (fun H21 => ?_) (fun H21 => ?_)
      · refine awp_seq ?_
        refine awp_region rfl ?_
        refine wpo_mv (a := (eB false)) rfl rfl rfl (o_as tk rfl (Wk.refl _)) ?_
        refine wpo_nil ?_
        refine awp_ret ?_
        obtain rfl := Option.some.inj H21
        exact ⟨_, (eB false), rfl, (.of_eq rfl), .of_eq ((enc_b td4 sz4).cut _ _ _), (((((hH.noT.drop n5).drop n5_1).drop n5_2).drop n5_3).drop n5_4)⟩
      · refine awp_skip ?_
        refine awp_seq ?_
        refine awp_region rfl ?_
        refine wpo_mv (a := (.ref id4 0)) rfl rfl rfl (o_mv tk rfl (Wk.refl _)) ?_
        refine wpo_cb H21 (fun x _ => .tup [eI x.1, eErr x.2.1]) rfl rfl rfl (fun v23 hv => h_call1 hH [(0, (id4, [(.vec id4_nodes 4 (v23.2.2.nodes).length), (.vec id4_first_ 1 (v23.2.2.first_).length), (.vec id4_last_ 1 (v23.2.2.last_).length), (.vec id4_count 1 (v23.2.2.count).length), (eI v23.2.2.free), (eI v23.2.2.clock)])), (1, (id4_nodes, (cL e_lists_link v23.2.2.nodes))), (2, (id4_first_, (cL eI v23.2.2.first_))), (3, (id4_last_, (cL eI v23.2.2.last_))), (4, (id4_count, (cL eI v23.2.2.count)))] ⟨⟨_, rfl⟩, ⟨⟨_, rfl⟩, ⟨⟨_, rfl⟩, ⟨⟨_, rfl⟩, ⟨⟨_, rfl⟩, trivial⟩⟩⟩⟩⟩ rfl rfl (.cons (.of_eq rfl) (.cons (.of_eq rfl) .nil)) (lists_Lists_Add_ok hv _ (hH.at_ 0 rfl) (hH.at_ 1 rfl) (hH.at_ 2 rfl) (hH.at_ 3 rfl) (hH.at_ 4 rfl) (hH.pw [0, 1, 2, 3, 4] rfl (by decide)))) fun v23 _ τ hv23 H22 (hH : Holds σ [(id4, [(.vec id4_nodes 4 (v23.2.2.nodes).length), (.vec id4_first_ 1 (v23.2.2.first_).length), (.vec id4_last_ 1 (v23.2.2.last_).length), (.vec id4_count 1 (v23.2.2.count).length), (eI v23.2.2.free), (eI v23.2.2.clock)]), (id4_nodes, (cL e_lists_link v23.2.2.nodes)), (id4_first_, (cL eI v23.2.2.first_)), (id4_last_, (cL eI v23.2.2.last_)), (id4_count, (cL eI v23.2.2.count))] [] τ) => ?_
        refine wpo_mv (a := (.tup [(eI v23.1), (eErr v23.2.1)])) rfl rfl rfl (o_mv tk rfl (Wk.refl _)) ?_
        refine wpo_mv (a := (eI v23.1)) rfl rfl rfl (o_ext tk rfl rfl) ?_
        refine wpo_mv (a := (eErr v23.2.1)) rfl rfl rfl (o_ext tk rfl rfl) ?_
        refine wpo_mv (a := (eI v23.1)) rfl rfl rfl (o_as tk rfl (Wk.refl _)) ?_
        refine wpo_mv (a := (eErr v23.2.1)) rfl rfl rfl (o_as tk rfl (Wk.refl _)) ?_
        refine wpo_nil ?_
        refine awp_seq ?_
        refine awp_region rfl ?_
        refine wpo_mv (a := (.ref id4 0)) rfl rfl rfl (o_mv tk rfl (Wk.refl _)) ?_
        refine wpo_cb H22 (fun x _ => .tup [eI x.1, eErr x.2.1]) rfl rfl rfl (fun v25 hv => h_call1 hH [(0, (id4, [(.vec id4_nodes 4 (v25.2.2.nodes).length), (.vec id4_first_ 1 (v25.2.2.first_).length), (.vec id4_last_ 1 (v25.2.2.last_).length), (.vec id4_count 1 (v25.2.2.count).length), (eI v25.2.2.free), (eI v25.2.2.clock)])), (1, (id4_nodes, (cL e_lists_link v25.2.2.nodes))), (2, (id4_first_, (cL eI v25.2.2.first_))), (3, (id4_last_, (cL eI v25.2.2.last_))), (4, (id4_count, (cL eI v25.2.2.count)))] ⟨⟨_, rfl⟩, ⟨⟨_, rfl⟩, ⟨⟨_, rfl⟩, ⟨⟨_, rfl⟩, ⟨⟨_, rfl⟩, trivial⟩⟩⟩⟩⟩ rfl rfl (.cons (.of_eq rfl) (.cons (.of_eq rfl) .nil)) (lists_Lists_Add_ok hv _ (hH.at_ 0 rfl) (hH.at_ 1 rfl) (hH.at_ 2 rfl) (hH.at_ 3 rfl) (hH.at_ 4 rfl) (hH.pw [0, 1, 2, 3, 4] rfl (by decide)))) fun v25 _ τ hv25 H24 (hH : Holds σ [(id4, [(.vec id4_nodes 4 (v25.2.2.nodes).length), (.vec id4_first_ 1 (v25.2.2.first_).length), (.vec id4_last_ 1 (v25.2.2.last_).length), (.vec id4_count 1 (v25.2.2.count).length), (eI v25.2.2.free), (eI v25.2.2.clock)]), (id4_nodes, (cL e_lists_link v25.2.2.nodes)), (id4_first_, (cL eI v25.2.2.first_)), (id4_last_, (cL eI v25.2.2.last_)), (id4_count, (cL eI v25.2.2.count))] [] τ) => ?_
        refine wpo_mv (a := (.tup [(eI v25.1), (eErr v25.2.1)])) rfl rfl rfl (o_mv tk rfl (Wk.refl _)) ?_
        refine wpo_mv (a := (eI v25.1)) rfl rfl rfl (o_ext tk rfl rfl) ?_
        refine wpo_mv (a := (eErr v25.2.1)) rfl rfl rfl (o_ext tk rfl rfl) ?_
        refine wpo_mv (a := (eI v25.1)) rfl rfl rfl (o_as tk rfl (Wk.refl _)) ?_
        refine wpo_mv (a := (eErr v25.2.1)) rfl rfl rfl (o_as tk rfl (Wk.refl _)) ?_
        refine wpo_nil ?_
        refine awp_seq ?_
        refine awp_region rfl ?_
        refine wpo_mv (a := (.ref id4 0)) rfl rfl rfl (o_mv tk rfl (Wk.refl _)) ?_
        refine wpo_mv (a := (eI v23.1)) rfl rfl rfl (o_mv tk rfl (Wk.refl _)) ?_
        refine wpo_cb H24 (fun x _ => eErr x.1) rfl rfl rfl (fun v27 hv => h_call1 hH [(0, (id4, [(.vec id4_nodes 4 (v27.2.nodes).length), (.vec id4_first_ 1 (v27.2.first_).length), (.vec id4_last_ 1 (v27.2.last_).length), (.vec id4_count 1 (v27.2.count).length), (eI v27.2.free), (eI v27.2.clock)])), (1, (id4_nodes, (cL e_lists_link v27.2.nodes))), (2, (id4_first_, (cL eI v27.2.first_))), (3, (id4_last_, (cL eI v27.2.last_))), (4, (id4_count, (cL eI v27.2.count)))] ⟨⟨_, rfl⟩, ⟨⟨_, rfl⟩, ⟨⟨_, rfl⟩, ⟨⟨_, rfl⟩, ⟨⟨_, rfl⟩, trivial⟩⟩⟩⟩⟩ rfl rfl (.cons (.of_eq rfl) (.cons (.of_eq rfl) .nil)) (lists_Lists_Touch_ok hv _ (hH.at_ 0 rfl) (hH.at_ 1 rfl) (hH.at_ 2 rfl) (hH.at_ 3 rfl) (hH.at_ 4 rfl) (hH.pw [0, 1, 2, 3, 4] rfl (by decide)))) fun v27 _ τ hv27 H26 (hH : Holds σ [(id4, [(.vec id4_nodes 4 (v27.2.nodes).length), (.vec id4_first_ 1 (v27.2.first_).length), (.vec id4_last_ 1 (v27.2.last_).length), (.vec id4_count 1 (v27.2.count).length), (eI v27.2.free), (eI v27.2.clock)]), (id4_nodes, (cL e_lists_link v27.2.nodes)), (id4_first_, (cL eI v27.2.first_)), (id4_last_, (cL eI v27.2.last_)), (id4_count, (cL eI v27.2.count))] [] τ) => ?_
        refine wpo_mv (a := (eErr v27.1)) rfl rfl rfl (o_as tk rfl (Wk.refl _)) ?_
        refine wpo_nil ?_
        refine awp_seq ?_
        refine awp_region rfl ?_
        refine wpo_mv (a := (.ref id4 0)) rfl rfl rfl (o_mv tk rfl (Wk.refl _)) ?_
        refine wpo_cb H26 (fun x _ => eErr x.1) rfl rfl rfl (fun v29 hv => h_call1 hH [(0, (id4, [(.vec id4_nodes 4 (v29.2.nodes).length), (.vec id4_first_ 1 (v29.2.first_).length), (.vec id4_last_ 1 (v29.2.last_).length), (.vec id4_count 1 (v29.2.count).length), (eI v29.2.free), (eI v29.2.clock)])), (1, (id4_nodes, (cL e_lists_link v29.2.nodes))), (2, (id4_first_, (cL eI v29.2.first_))), (3, (id4_last_, (cL eI v29.2.last_))), (4, (id4_count, (cL eI v29.2.count)))] ⟨⟨_, rfl⟩, ⟨⟨_, rfl⟩, ⟨⟨_, rfl⟩, ⟨⟨_, rfl⟩, ⟨⟨_, rfl⟩, trivial⟩⟩⟩⟩⟩ rfl rfl (.cons (.of_eq rfl) (.cons (.of_eq rfl) .nil)) (lists_Lists_Drop_ok hv _ (hH.at_ 0 rfl) (hH.at_ 1 rfl) (hH.at_ 2 rfl) (hH.at_ 3 rfl) (hH.at_ 4 rfl) (hH.pw [0, 1, 2, 3, 4] rfl (by decide)))) fun v29 _ τ hv29 H28 (hH : Holds σ [(id4, [(.vec id4_nodes 4 (v29.2.nodes).length), (.vec id4_first_ 1 (v29.2.first_).length), (.vec id4_last_ 1 (v29.2.last_).length), (.vec id4_count 1 (v29.2.count).length), (eI v29.2.free), (eI v29.2.clock)]), (id4_nodes, (cL e_lists_link v29.2.nodes)), (id4_first_, (cL eI v29.2.first_)), (id4_last_, (cL eI v29.2.last_)), (id4_count, (cL eI v29.2.count))] [] τ) => ?_
        refine wpo_mv (a := (eErr v29.1)) rfl rfl rfl (o_as tk rfl (Wk.refl _)) ?_
        refine wpo_nil ?_
        refine awp_seq ?_
        refine awp_region rfl ?_
        refine wpo_mv (a := (eErr v14.2)) rfl rfl rfl (o_mv tk rfl (Wk.refl _)) ?_
        refine wpo_bdr H28 eI rfl rfl rfl (fun v31 hv => h_callr rfl rfl (.cons (.of_eq rfl) .nil) (trouble_Of_ok hv _ (hH.gl.trans hg))) fun v31 hv31 H30 => ?_
        refine wpo_lt H30 eB rfl rfl rfl (o_ar tk rfl rfl rfl) fun v33 H32 => ?_
        refine wpo_mv (a := (eB v33)) rfl rfl rfl (o_mv tk rfl (Wk.refl _)) ?_
        refine if_split H32 (fun hb H34 => ?_) (fun hb H34 => ?_)
        · subst hb
          refine wpo_mv (a := (eI v23.1)) rfl rfl rfl (o_mv tk rfl (Wk.refl _)) ?_
          refine wpo_lt H34 eB rfl rfl rfl (o_ar tk rfl rfl rfl) fun v36 H35 => ?_
          refine wpo_mv (a := (eB v36)) rfl rfl rfl (o_pick_t tk rfl rfl (Wk.refl _)) ?_
          refine wpo_mv (a := (eB v36)) rfl rfl rfl (o_mv tk rfl (Wk.refl _)) ?_
          refine if_split H35 (fun hb H37 => ?_) (fun hb H37 => ?_)
          · subst hb
            refine wpo_mv (a := (eI v25.1)) rfl rfl rfl (o_mv tk rfl (Wk.refl _)) ?_
            refine wpo_lt H37 eB rfl rfl rfl (o_ar tk rfl rfl rfl) fun v39 H38 => ?_
            refine wpo_mv (a := (eB v39)) rfl rfl rfl (o_pick_t tk rfl rfl (Wk.refl _)) ?_
            refine wpo_mv (a := (eB v39)) rfl rfl rfl (o_mv tk rfl (Wk.refl _)) ?_
            refine if_split H38 (fun hb H40 => ?_) (fun hb H40 => ?_)
            · subst hb
              refine wpo_mv (a := (eErr v23.2.1)) rfl rfl rfl (o_mv tk rfl (Wk.refl _)) ?_
              refine wpo_lt H40 eB rfl rfl rfl (o_err_eql tk rfl rfl rfl) fun v42 H41 => ?_
              refine wpo_mv (a := (eB v42)) rfl rfl rfl (o_pick_t tk rfl rfl (Wk.refl _)) ?_
              refine wpo_mv (a := (eB v42)) rfl rfl rfl (o_mv tk rfl (Wk.refl _)) ?_
              refine if_split H41 (fun hb H43 => ?_) (fun hb H43 => ?_)
              · subst hb
                refine wpo_mv (a := (eErr v25.2.1)) rfl rfl rfl (o_mv tk rfl (Wk.refl _)) ?_
                refine wpo_lt H43 eB rfl rfl rfl (o_err_eql tk rfl rfl rfl) fun v45 H44 => ?_
                refine wpo_mv (a := (eB v45)) rfl rfl rfl (o_pick_t tk rfl rfl (Wk.refl _)) ?_
                refine wpo_mv (a := (eB v45)) rfl rfl rfl (o_mv tk rfl (Wk.refl _)) ?_
                refine if_split H44 (fun hb H46 => ?_) (fun hb H46 => ?_)
                · subst hb
                  refine wpo_mv (a := (eErr v27.1)) rfl rfl rfl (o_mv tk rfl (Wk.refl _)) ?_
                  refine wpo_lt H46 eB rfl rfl rfl (o_err_eql tk rfl rfl rfl) fun v48 H47 => ?_
                  refine wpo_mv (a := (eB v48)) rfl rfl rfl (o_pick_t tk rfl rfl (Wk.refl _)) ?_
                  refine wpo_mv (a := (eB v48)) rfl rfl rfl (o_mv tk rfl (Wk.refl _)) ?_
                  refine if_split H47 (fun hb H49 => ?_) (fun hb H49 => ?_)
                  · subst hb
                    refine wpo_mv (a := (eErr v29.1)) rfl rfl rfl (o_mv tk rfl (Wk.refl _)) ?_
                    refine wpo_bdr H49 eI rfl rfl rfl (fun v51 hv => h_callr rfl rfl (.cons (.of_eq rfl) .nil) (trouble_Of_ok hv _ (hH.gl.trans hg))) fun v51 hv51 H50 => ?_
                    refine wpo_lt H50 eB rfl rfl rfl (o_ar tk rfl rfl rfl) fun v53 H52 => ?_
                    refine wpo_mv (a := (eB v53)) rfl rfl rfl (o_pick_t tk rfl rfl (Wk.refl _)) ?_
                    refine wpo_mv (a := (eB v53)) rfl rfl rfl (o_mv tk rfl (Wk.refl _)) ?_
                    refine if_split H52 (fun hb H54 => ?_) (fun hb H54 => ?_)
                    · subst hb
                      refine wpo_mv (a := (.ref id4 0)) rfl rfl rfl (o_mv tk rfl (Wk.refl _)) ?_
                      refine wpo_bdr H54 (eL 1 eI) rfl rfl rfl (fun v56 hv => h_callr rfl rfl (.cons (.of_eq rfl) (.cons (.of_eq rfl) .nil)) (lists_Lists_Order_ok hv _ (hH.at_ 0 rfl) (hH.at_ 1 rfl) (hH.at_ 2 rfl) (hH.at_ 3 rfl) (hH.at_ 4 rfl) (hH.pw [0, 1, 2, 3, 4] rfl (by decide)))) fun v56 hv56 H55 => ?_
                      refine wpo_mv (a := (eF 1 eI ([(0 : Int), (1 : Int)] : List Int))) rfl rfl rfl (o_c tk false rfl (fun _ => rfl)) ?_
                      refine wpo_bd H55 eB rfl rfl rfl (fun v58 hv => OpP.of_call rfl rfl (.cons (.of_eq rfl) (.cons wk_no .nil)) (butteryref02_Ints_ok hv)) fun v58 hv58 H57 => ?_
                      refine wpo_mv (a := (eB v58)) rfl rfl rfl (o_pick_t tk rfl rfl (Wk.refl _)) ?_
                      refine wpo_mv (a := (eB v58)) rfl rfl rfl (o_mv tk rfl (Wk.refl _)) ?_
                      refine if_split H57 (fun hb H59 => ?_) (fun hb H59 => ?_)
                      · subst hb
                        refine wpo_mv (a := (.ref id4 0)) rfl rfl rfl (o_mv tk rfl (Wk.refl _)) ?_
                        refine wpo_bdr H59 eI rfl rfl rfl (fun v61 hv => h_callr rfl rfl (.cons (.of_eq rfl) (.cons (.of_eq rfl) .nil)) (lists_Lists_Last_ok hv _ (hH.at_ 0 rfl) (hH.at_ 1 rfl) (hH.at_ 2 rfl) (hH.at_ 3 rfl) (hH.at_ 4 rfl) (hH.pw [0, 1, 2, 3, 4] rfl (by decide)))) fun v61 hv61 H60 => ?_
                        refine wpo_lt H60 eB rfl rfl rfl (o_ar tk rfl rfl rfl) fun v63 H62 => ?_
                        refine wpo_mv (a := (eB v63)) rfl rfl rfl (o_pick_t tk rfl rfl (Wk.refl _)) ?_
                        refine wpo_mv (a := (eB v63)) rfl rfl rfl (o_mv tk rfl (Wk.refl _)) ?_
                        refine if_split H62 (fun hb H64 => ?_) (fun hb H64 => ?_)
                        · subst hb
                          refine wpo_mv (a := (.ref id4 0)) rfl rfl rfl (o_mv tk rfl (Wk.refl _)) ?_
                          refine wpo_bdr H64 eI rfl rfl rfl (fun v66 hv => h_callr rfl rfl (.cons (.of_eq rfl) .nil) (lists_Lists_Oldest_ok hv _ (hH.at_ 0 rfl) (hH.at_ 1 rfl) (hH.at_ 2 rfl) (hH.at_ 3 rfl) (hH.at_ 4 rfl) (hH.pw [0, 1, 2, 3, 4] rfl (by decide)))) fun v66 hv66 H65 => ?_
                          refine wpo_lt H65 eB rfl rfl rfl (o_ar tk rfl rfl rfl) fun v68 H67 => ?_
                          refine wpo_mv (a := (eB v68)) rfl rfl rfl (o_pick_t tk rfl rfl (Wk.refl _)) ?_
                          refine wpo_mv (a := (eB v68)) rfl rfl rfl (o_mv tk rfl (Wk.refl _)) ?_
                          refine if_split H67 (fun hb H69 => ?_) (fun hb H69 => ?_)
                          · subst hb
                            refine wpo_mv (a := (.ref id4 0)) rfl rfl rfl (o_mv tk rfl (Wk.refl _)) ?_
                            refine wpo_bdr H69 eI rfl rfl rfl (fun v71 hv => h_callr rfl rfl (.cons (.of_eq rfl) (.cons (.of_eq rfl) .nil)) (lists_Lists_List_ok hv _ (hH.at_ 0 rfl) (hH.at_ 1 rfl) (hH.at_ 2 rfl) (hH.at_ 3 rfl) (hH.at_ 4 rfl) (hH.pw [0, 1, 2, 3, 4] rfl (by decide)))) fun v71 hv71 H70 => ?_
                            refine wpo_lt H70 eB rfl rfl rfl (o_ar tk rfl rfl rfl) fun v73 H72 => ?_
                            refine wpo_mv (a := (eB v73)) rfl rfl rfl (o_pick_t tk rfl rfl (Wk.refl _)) ?_
                            refine wpo_mv (a := (eB v73)) rfl rfl rfl (o_mv tk rfl (Wk.refl _)) ?_
                            refine if_split H72 (fun hb H74 => ?_) (fun hb H74 => ?_)
                            · subst hb
                              refine wpo_mv (a := (.ref id4 0)) rfl rfl rfl (o_mv tk rfl (Wk.refl _)) ?_
                              refine wpo_bdr H74 eI rfl rfl rfl (fun v76 hv => h_callr rfl rfl (.cons (.of_eq rfl) (.cons (.of_eq rfl) .nil)) (lists_Lists_Len_ok hv _ (hH.at_ 0 rfl) (hH.at_ 1 rfl) (hH.at_ 2 rfl) (hH.at_ 3 rfl) (hH.at_ 4 rfl) (hH.pw [0, 1, 2, 3, 4] rfl (by decide)))) fun v76 hv76 H75 => ?_
                              refine wpo_lt H75 eB rfl rfl rfl (o_ar tk rfl rfl rfl) fun v78 H77 => ?_
                              refine wpo_mv (a := (eB v78)) rfl rfl rfl (o_pick_t tk rfl rfl (Wk.refl _)) ?_
                              refine wpo_mv (a := (eB v78)) rfl rfl rfl (o_mv tk rfl (Wk.refl _)) ?_
                              refine if_split H77 (fun hb H79 => ?_) (fun hb H79 => ?_)
                              · subst hb
                                refine wpo_mv (a := (.ref id4 0)) rfl rfl rfl (o_mv tk rfl (Wk.refl _)) ?_
                                refine wpo_bdr H79 eB rfl rfl rfl (fun v81 hv => h_callr rfl rfl (.cons (.of_eq rfl) .nil) (lists_Lists_Sound_ok hv _ (hH.at_ 0 rfl) (hH.at_ 1 rfl) (hH.at_ 2 rfl) (hH.at_ 3 rfl) (hH.at_ 4 rfl) (hH.pw [0, 1, 2, 3, 4] rfl (by decide)))) fun v81 hv81 H80 => ?_
                                refine wpo_mv (a := (eB v81)) rfl rfl rfl (o_pick_t tk rfl rfl (Wk.refl _)) ?_
                                refine wpo_mv (a := (eB v81)) rfl rfl rfl (o_as tk rfl (Wk.refl _)) ?_
                                refine wpo_nil ?_
                                refine awp_ret ?_
                                obtain rfl := Option.some.inj H80
                                exact ⟨_, (eB v81), rfl, (.of_eq rfl), .of_eq ((enc_b td4 sz4).cut _ _ _), (((((hH.noT.drop n5).drop n5_1).drop n5_2).drop n5_3).drop n5_4)⟩
                              · subst hb
                                refine wpo_skip rfl rfl rfl ?_
                                refine wpo_skip rfl rfl rfl ?_
                                refine wpo_mv (a := (eB false)) rfl rfl rfl (o_pick_f tk rfl rfl (Wk.refl _)) ?_
                                refine wpo_mv (a := (eB false)) rfl rfl rfl (o_as tk rfl (Wk.refl _)) ?_
                                refine wpo_nil ?_
                                refine awp_ret ?_
                                obtain rfl := Option.some.inj H79
                                exact ⟨_, (eB false), rfl, (.of_eq rfl), .of_eq ((enc_b td4 sz4).cut _ _ _), (((((hH.noT.drop n5).drop n5_1).drop n5_2).drop n5_3).drop n5_4)⟩
                            · subst hb
                              refine wpo_skip rfl rfl rfl ?_
                              refine wpo_skip rfl rfl rfl ?_
                              refine wpo_skip rfl rfl rfl ?_
                              refine wpo_mv (a := (eB false)) rfl rfl rfl (o_pick_f tk rfl rfl (Wk.refl _)) ?_
                              refine wpo_mv (a := (eB false)) rfl rfl rfl (o_mv tk rfl (Wk.refl _)) ?_
                              refine wpo_skip rfl rfl rfl ?_
                              refine wpo_skip rfl rfl rfl ?_
                              refine wpo_mv (a := (eB false)) rfl rfl rfl (o_pick_f tk rfl rfl (Wk.refl _)) ?_
                              refine wpo_mv (a := (eB false)) rfl rfl rfl (o_as tk rfl (Wk.refl _)) ?_
                              refine wpo_nil ?_
                              refine awp_ret ?_
                              obtain rfl := Option.some.inj H74
                              exact ⟨_, (eB false), rfl, (.of_eq rfl), .of_eq ((enc_b td4 sz4).cut _ _ _), (((((hH.noT.drop n5).drop n5_1).drop n5_2).drop n5_3).drop n5_4)⟩
                          · subst hb
                            refine wpo_skip rfl rfl rfl ?_
                            refine wpo_skip rfl rfl rfl ?_
                            refine wpo_skip rfl rfl rfl ?_
                            refine wpo_mv (a := (eB false)) rfl rfl rfl (o_pick_f tk rfl rfl (Wk.refl _)) ?_
                            refine wpo_mv (a := (eB false)) rfl rfl rfl (o_mv tk rfl (Wk.refl _)) ?_
                            refine wpo_skip rfl rfl rfl ?_
                            refine wpo_skip rfl rfl rfl ?_
                            refine wpo_skip rfl rfl rfl ?_
                            refine wpo_mv (a := (eB false)) rfl rfl rfl (o_pick_f tk rfl rfl (Wk.refl _)) ?_
                            refine wpo_mv (a := (eB false)) rfl rfl rfl (o_mv tk rfl (Wk.refl _)) ?_
                            refine wpo_skip rfl rfl rfl ?_
                            refine wpo_skip rfl rfl rfl ?_
                            refine wpo_mv (a := (eB false)) rfl rfl rfl (o_pick_f tk rfl rfl (Wk.refl _)) ?_
                            refine wpo_mv (a := (eB false)) rfl rfl rfl (o_as tk rfl (Wk.refl _)) ?_
                            refine wpo_nil ?_
                            refine awp_ret ?_
                            obtain rfl := Option.some.inj H69
                            exact ⟨_, (eB false), rfl, (.of_eq rfl), .of_eq ((enc_b td4 sz4).cut _ _ _), (((((hH.noT.drop n5).drop n5_1).drop n5_2).drop n5_3).drop n5_4)⟩
                        · subst hb
                          refine wpo_skip rfl rfl rfl ?_
                          refine wpo_skip rfl rfl rfl ?_
                          refine wpo_skip rfl rfl rfl ?_
                          refine wpo_mv (a := (eB false)) rfl rfl rfl (o_pick_f tk rfl rfl (Wk.refl _)) ?_
                          refine wpo_mv (a := (eB false)) rfl rfl rfl (o_mv tk rfl (Wk.refl _)) ?_
                          refine wpo_skip rfl rfl rfl ?_
                          refine wpo_skip rfl rfl rfl ?_
                          refine wpo_skip rfl rfl rfl ?_
                          refine wpo_mv (a := (eB false)) rfl rfl rfl (o_pick_f tk rfl rfl (Wk.refl _)) ?_
                          refine wpo_mv (a := (eB false)) rfl rfl rfl (o_mv tk rfl (Wk.refl _)) ?_
                          refine wpo_skip rfl rfl rfl ?_
                          refine wpo_skip rfl rfl rfl ?_
                          refine wpo_skip rfl rfl rfl ?_
                          refine wpo_mv (a := (eB false)) rfl rfl rfl (o_pick_f tk rfl rfl (Wk.refl _)) ?_
                          refine wpo_mv (a := (eB false)) rfl rfl rfl (o_mv tk rfl (Wk.refl _)) ?_
                          refine wpo_skip rfl rfl rfl ?_
                          refine wpo_skip rfl rfl rfl ?_
                          refine wpo_mv (a := (eB false)) rfl rfl rfl (o_pick_f tk rfl rfl (Wk.refl _)) ?_
                          refine wpo_mv (a := (eB false)) rfl rfl rfl (o_as tk rfl (Wk.refl _)) ?_
                          refine wpo_nil ?_
                          refine awp_ret ?_
                          obtain rfl := Option.some.inj H64
                          exact ⟨_, (eB false), rfl, (.of_eq rfl), .of_eq ((enc_b td4 sz4).cut _ _ _), (((((hH.noT.drop n5).drop n5_1).drop n5_2).drop n5_3).drop n5_4)⟩
                      · subst hb
                        refine wpo_skip rfl rfl rfl ?_
                        refine wpo_skip rfl rfl rfl ?_
                        refine wpo_skip rfl rfl rfl ?_
                        refine wpo_mv (a := (eB false)) rfl rfl rfl (o_pick_f tk rfl rfl (Wk.refl _)) ?_
                        refine wpo_mv (a := (eB false)) rfl rfl rfl (o_mv tk rfl (Wk.refl _)) ?_
                        refine wpo_skip rfl rfl rfl ?_
                        refine wpo_skip rfl rfl rfl ?_
                        refine wpo_skip rfl rfl rfl ?_
                        refine wpo_mv (a := (eB false)) rfl rfl rfl (o_pick_f tk rfl rfl (Wk.refl _)) ?_
                        refine wpo_mv (a := (eB false)) rfl rfl rfl (o_mv tk rfl (Wk.refl _)) ?_
                        refine wpo_skip rfl rfl rfl ?_
                        refine wpo_skip rfl rfl rfl ?_
                        refine wpo_skip rfl rfl rfl ?_
                        refine wpo_mv (a := (eB false)) rfl rfl rfl (o_pick_f tk rfl rfl (Wk.refl _)) ?_
                        refine wpo_mv (a := (eB false)) rfl rfl rfl (o_mv tk rfl (Wk.refl _)) ?_
                        refine wpo_skip rfl rfl rfl ?_
                        refine wpo_skip rfl rfl rfl ?_
                        refine wpo_skip rfl rfl rfl ?_
                        refine wpo_mv (a := (eB false)) rfl rfl rfl (o_pick_f tk rfl rfl (Wk.refl _)) ?_
                        refine wpo_mv (a := (eB false)) rfl rfl rfl (o_mv tk rfl (Wk.refl _)) ?_
                        refine wpo_skip rfl rfl rfl ?_
                        refine wpo_skip rfl rfl rfl ?_
                        refine wpo_mv (a := (eB false)) rfl rfl rfl (o_pick_f tk rfl rfl (Wk.refl _)) ?_
                        refine wpo_mv (a := (eB false)) rfl rfl rfl (o_as tk rfl (Wk.refl _)) ?_
                        refine wpo_nil ?_
                        refine awp_ret ?_
                        obtain rfl := Option.some.inj H59
                        exact ⟨_, (eB false), rfl, (.of_eq rfl), .of_eq ((enc_b td4 sz4).cut _ _ _), (((((hH.noT.drop n5).drop n5_1).drop n5_2).drop n5_3).drop n5_4)⟩
                    · subst hb
                      refine wpo_skip rfl rfl rfl ?_
                      refine wpo_skip rfl rfl rfl ?_
                      refine wpo_skip rfl rfl rfl ?_
                      refine wpo_skip rfl rfl rfl ?_
                      refine wpo_mv (a := (eB false)) rfl rfl rfl (o_pick_f tk rfl rfl (Wk.refl _)) ?_
                      refine wpo_mv (a := (eB false)) rfl rfl rfl (o_mv tk rfl (Wk.refl _)) ?_
                      refine wpo_skip rfl rfl rfl ?_
                      refine wpo_skip rfl rfl rfl ?_
                      refine wpo_skip rfl rfl rfl ?_
                      refine wpo_mv (a := (eB false)) rfl rfl rfl (o_pick_f tk rfl rfl (Wk.refl _)) ?_
                      refine wpo_mv (a := (eB false)) rfl rfl rfl (o_mv tk rfl (Wk.refl _)) ?_
                      refine wpo_skip rfl rfl rfl ?_
                      refine wpo_skip rfl rfl rfl ?_
                      refine wpo_skip rfl rfl rfl ?_
                      refine wpo_mv (a := (eB false)) rfl rfl rfl (o_pick_f tk rfl rfl (Wk.refl _)) ?_
                      refine wpo_mv (a := (eB false)) rfl rfl rfl (o_mv tk rfl (Wk.refl _)) ?_
                      refine wpo_skip rfl rfl rfl ?_
                      refine wpo_skip rfl rfl rfl ?_
                      refine wpo_skip rfl rfl rfl ?_
                      refine wpo_mv (a := (eB false)) rfl rfl rfl (o_pick_f tk rfl rfl (Wk.refl _)) ?_
                      refine wpo_mv (a := (eB false)) rfl rfl rfl (o_mv tk rfl (Wk.refl _)) ?_
                      refine wpo_skip rfl rfl rfl ?_
                      refine wpo_skip rfl rfl rfl ?_
                      refine wpo_skip rfl rfl rfl ?_
                      refine wpo_mv (a := (eB false)) rfl rfl rfl (o_pick_f tk rfl rfl (Wk.refl _)) ?_
                      refine wpo_mv (a := (eB false)) rfl rfl rfl (o_mv tk rfl (Wk.refl _)) ?_
                      refine wpo_skip rfl rfl rfl ?_
                      refine wpo_skip rfl rfl rfl ?_
                      refine wpo_mv (a := (eB false)) rfl rfl rfl (o_pick_f tk rfl rfl (Wk.refl _)) ?_
                      refine wpo_mv (a := (eB false)) rfl rfl rfl (o_as tk rfl (Wk.refl _)) ?_
                      refine wpo_nil ?_
                      refine awp_ret ?_
                      obtain rfl := Option.some.inj H54
                      exact ⟨_, (eB false), rfl, (.of_eq rfl), .of_eq ((enc_b td4 sz4).cut _ _ _), (((((hH.noT.drop n5).drop n5_1).drop n5_2).drop n5_3).drop n5_4)⟩
                  · subst hb
                    refine wpo_skip rfl rfl rfl ?_
                    refine wpo_skip rfl rfl rfl ?_
                    refine wpo_skip rfl rfl rfl ?_
                    refine wpo_mv (a := (eB false)) rfl rfl rfl (o_pick_f tk rfl rfl (Wk.refl _)) ?_
                    refine wpo_mv (a := (eB false)) rfl rfl rfl (o_mv tk rfl (Wk.refl _)) ?_
                    refine wpo_skip rfl rfl rfl ?_
                    refine wpo_skip rfl rfl rfl ?_
                    refine wpo_skip rfl rfl rfl ?_
                    refine wpo_skip rfl rfl rfl ?_
                    refine wpo_mv (a := (eB false)) rfl rfl rfl (o_pick_f tk rfl rfl (Wk.refl _)) ?_
                    refine wpo_mv (a := (eB false)) rfl rfl rfl (o_mv tk rfl (Wk.refl _)) ?_
                    refine wpo_skip rfl rfl rfl ?_
                    refine wpo_skip rfl rfl rfl ?_
                    refine wpo_skip rfl rfl rfl ?_
                    refine wpo_mv (a := (eB false)) rfl rfl rfl (o_pick_f tk rfl rfl (Wk.refl _)) ?_
                    refine wpo_mv (a := (eB false)) rfl rfl rfl (o_mv tk rfl (Wk.refl _)) ?_
                    refine wpo_skip rfl rfl rfl ?_
                    refine wpo_skip rfl rfl rfl ?_
                    refine wpo_skip rfl rfl rfl ?_
                    refine wpo_mv (a := (eB false)) rfl rfl rfl (o_pick_f tk rfl rfl (Wk.refl _)) ?_
                    refine wpo_mv (a := (eB false)) rfl rfl rfl (o_mv tk rfl (Wk.refl _)) ?_
                    refine wpo_skip rfl rfl rfl ?_
                    refine wpo_skip rfl rfl rfl ?_
                    refine wpo_skip rfl rfl rfl ?_
                    refine wpo_mv (a := (eB false)) rfl rfl rfl (o_pick_f tk rfl rfl (Wk.refl _)) ?_
                    refine wpo_mv (a := (eB false)) rfl rfl rfl (o_mv tk rfl (Wk.refl _)) ?_
                    refine wpo_skip rfl rfl rfl ?_
                    refine wpo_skip rfl rfl rfl ?_
                    refine wpo_skip rfl rfl rfl ?_
                    refine wpo_mv (a := (eB false)) rfl rfl rfl (o_pick_f tk rfl rfl (Wk.refl _)) ?_
                    refine wpo_mv (a := (eB false)) rfl rfl rfl (o_mv tk rfl (Wk.refl _)) ?_
                    refine wpo_skip rfl rfl rfl ?_
                    refine wpo_skip rfl rfl rfl ?_
                    refine wpo_mv (a := (eB false)) rfl rfl rfl (o_pick_f tk rfl rfl (Wk.refl _)) ?_
                    refine wpo_mv (a := (eB false)) rfl rfl rfl (o_as tk rfl (Wk.refl _)) ?_
                    refine wpo_nil ?_
                    refine awp_ret ?_
                    obtain rfl := Option.some.inj H49
                    exact ⟨_, (eB false), rfl, (.of_eq rfl), .of_eq ((enc_b td4 sz4).cut _ _ _), (((((hH.noT.drop n5).drop n5_1).drop n5_2).drop n5_3).drop n5_4)⟩
                · subst hb
                  refine wpo_skip rfl rfl rfl ?_
                  refine wpo_skip rfl rfl rfl ?_
                  refine wpo_mv (a := (eB false)) rfl rfl rfl (o_pick_f tk rfl rfl (Wk.refl _)) ?_
                  refine wpo_mv (a := (eB false)) rfl rfl rfl (o_mv tk rfl (Wk.refl _)) ?_
                  refine wpo_skip rfl rfl rfl ?_
                  refine wpo_skip rfl rfl rfl ?_
                  refine wpo_skip rfl rfl rfl ?_
                  refine wpo_mv (a := (eB false)) rfl rfl rfl (o_pick_f tk rfl rfl (Wk.refl _)) ?_
                  refine wpo_mv (a := (eB false)) rfl rfl rfl (o_mv tk rfl (Wk.refl _)) ?_
                  refine wpo_skip rfl rfl rfl ?_
                  refine wpo_skip rfl rfl rfl ?_
                  refine wpo_skip rfl rfl rfl ?_
                  refine wpo_skip rfl rfl rfl ?_
                  refine wpo_mv (a := (eB false)) rfl rfl rfl (o_pick_f tk rfl rfl (Wk.refl _)) ?_
                  refine wpo_mv (a := (eB false)) rfl rfl rfl (o_mv tk rfl (Wk.refl _)) ?_
                  refine wpo_skip rfl rfl rfl ?_
                  refine wpo_skip rfl rfl rfl ?_
                  refine wpo_skip rfl rfl rfl ?_
                  refine wpo_mv (a := (eB false)) rfl rfl rfl (o_pick_f tk rfl rfl (Wk.refl _)) ?_
                  refine wpo_mv (a := (eB false)) rfl rfl rfl (o_mv tk rfl (Wk.refl _)) ?_
                  refine wpo_skip rfl rfl rfl ?_
                  refine wpo_skip rfl rfl rfl ?_
                  refine wpo_skip rfl rfl rfl ?_
                  refine wpo_mv (a := (eB false)) rfl rfl rfl (o_pick_f tk rfl rfl (Wk.refl _)) ?_
                  refine wpo_mv (a := (eB false)) rfl rfl rfl (o_mv tk rfl (Wk.refl _)) ?_
                  refine wpo_skip rfl rfl rfl ?_
                  refine wpo_skip rfl rfl rfl ?_
                  refine wpo_skip rfl rfl rfl ?_
                  refine wpo_mv (a := (eB false)) rfl rfl rfl (o_pick_f tk rfl rfl (Wk.refl _)) ?_
                  refine wpo_mv (a := (eB false)) rfl rfl rfl (o_mv tk rfl (Wk.refl _)) ?_
                  refine wpo_skip rfl rfl rfl ?_
                  refine wpo_skip rfl rfl rfl ?_
                  refine wpo_skip rfl rfl rfl ?_
                  refine wpo_mv (a := (eB false)) rfl rfl rfl (o_pick_f tk rfl rfl (Wk.refl _)) ?_
                  refine wpo_mv (a := (eB false)) rfl rfl rfl (o_mv tk rfl (Wk.refl _)) ?_
                  refine wpo_skip rfl rfl rfl ?_
                  refine wpo_skip rfl rfl rfl ?_
                  refine wpo_mv (a := (eB false)) rfl rfl rfl (o_pick_f tk rfl rfl (Wk.refl _)) ?_
                  refine wpo_mv (a := (eB false)) rfl rfl rfl (o_as tk rfl (Wk.refl _)) ?_
                  refine wpo_nil ?_
                  refine awp_ret ?_
                  obtain rfl := Option.some.inj H46
                  exact ⟨_, (eB false), rfl, (.of_eq rfl), .of_eq ((enc_b td4 sz4).cut _ _ _), (((((hH.noT.drop n5).drop n5_1).drop n5_2).drop n5_3).drop n5_4)⟩
              · subst hb
                refine wpo_skip rfl rfl rfl ?_
                refine wpo_skip rfl rfl rfl ?_
                refine wpo_mv (a := (eB false)) rfl rfl rfl (o_pick_f tk rfl rfl (Wk.refl _)) ?_
                refine wpo_mv (a := (eB false)) rfl rfl rfl (o_mv tk rfl (Wk.refl _)) ?_
                refine wpo_skip rfl rfl rfl ?_
                refine wpo_skip rfl rfl rfl ?_
                refine wpo_mv (a := (eB false)) rfl rfl rfl (o_pick_f tk rfl rfl (Wk.refl _)) ?_
                refine wpo_mv (a := (eB false)) rfl rfl rfl (o_mv tk rfl (Wk.refl _)) ?_
                refine wpo_skip rfl rfl rfl ?_
                refine wpo_skip rfl rfl rfl ?_
                refine wpo_skip rfl rfl rfl ?_
                refine wpo_mv (a := (eB false)) rfl rfl rfl (o_pick_f tk rfl rfl (Wk.refl _)) ?_
                refine wpo_mv (a := (eB false)) rfl rfl rfl (o_mv tk rfl (Wk.refl _)) ?_
                refine wpo_skip rfl rfl rfl ?_
                refine wpo_skip rfl rfl rfl ?_
                refine wpo_skip rfl rfl rfl ?_
                refine wpo_skip rfl rfl rfl ?_
                refine wpo_mv (a := (eB false)) rfl rfl rfl (o_pick_f tk rfl rfl (Wk.refl _)) ?_
                refine wpo_mv (a := (eB false)) rfl rfl rfl (o_mv tk rfl (Wk.refl _)) ?_
                refine wpo_skip rfl rfl rfl ?_
                refine wpo_skip rfl rfl rfl ?_
                refine wpo_skip rfl rfl rfl ?_
                refine wpo_mv (a := (eB false)) rfl rfl rfl (o_pick_f tk rfl rfl (Wk.refl _)) ?_
                refine wpo_mv (a := (eB false)) rfl rfl rfl (o_mv tk rfl (Wk.refl _)) ?_
                refine wpo_skip rfl rfl rfl ?_
                refine wpo_skip rfl rfl rfl ?_
                refine wpo_skip rfl rfl rfl ?_
                refine wpo_mv (a := (eB false)) rfl rfl rfl (o_pick_f tk rfl rfl (Wk.refl _)) ?_
                refine wpo_mv (a := (eB false)) rfl rfl rfl (o_mv tk rfl (Wk.refl _)) ?_
                refine wpo_skip rfl rfl rfl ?_
                refine wpo_skip rfl rfl rfl ?_
                refine wpo_skip rfl rfl rfl ?_
                refine wpo_mv (a := (eB false)) rfl rfl rfl (o_pick_f tk rfl rfl (Wk.refl _)) ?_
                refine wpo_mv (a := (eB false)) rfl rfl rfl (o_mv tk rfl (Wk.refl _)) ?_
                refine wpo_skip rfl rfl rfl ?_
                refine wpo_skip rfl rfl rfl ?_
                refine wpo_skip rfl rfl rfl ?_
                refine wpo_mv (a := (eB false)) rfl rfl rfl (o_pick_f tk rfl rfl (Wk.refl _)) ?_
                refine wpo_mv (a := (eB false)) rfl rfl rfl (o_mv tk rfl (Wk.refl _)) ?_
                refine wpo_skip rfl rfl rfl ?_
                refine wpo_skip rfl rfl rfl ?_
                refine wpo_mv (a := (eB false)) rfl rfl rfl (o_pick_f tk rfl rfl (Wk.refl _)) ?_
                refine wpo_mv (a := (eB false)) rfl rfl rfl (o_as tk rfl (Wk.refl _)) ?_
                refine wpo_nil ?_
                refine awp_ret ?_
                obtain rfl := Option.some.inj H43
                exact ⟨_, (eB false), rfl, (.of_eq rfl), .of_eq ((enc_b td4 sz4).cut _ _ _), (((((hH.noT.drop n5).drop n5_1).drop n5_2).drop n5_3).drop n5_4)⟩
            · subst hb
              refine wpo_skip rfl rfl rfl ?_
              refine wpo_skip rfl rfl rfl ?_
              refine wpo_mv (a := (eB false)) rfl rfl rfl (o_pick_f tk rfl rfl (Wk.refl _)) ?_
              refine wpo_mv (a := (eB false)) rfl rfl rfl (o_mv tk rfl (Wk.refl _)) ?_
              refine wpo_skip rfl rfl rfl ?_
              refine wpo_skip rfl rfl rfl ?_
              refine wpo_mv (a := (eB false)) rfl rfl rfl (o_pick_f tk rfl rfl (Wk.refl _)) ?_
              refine wpo_mv (a := (eB false)) rfl rfl rfl (o_mv tk rfl (Wk.refl _)) ?_
              refine wpo_skip rfl rfl rfl ?_
              refine wpo_skip rfl rfl rfl ?_
              refine wpo_mv (a := (eB false)) rfl rfl rfl (o_pick_f tk rfl rfl (Wk.refl _)) ?_
              refine wpo_mv (a := (eB false)) rfl rfl rfl (o_mv tk rfl (Wk.refl _)) ?_
              refine wpo_skip rfl rfl rfl ?_
              refine wpo_skip rfl rfl rfl ?_
              refine wpo_skip rfl rfl rfl ?_
              refine wpo_mv (a := (eB false)) rfl rfl rfl (o_pick_f tk rfl rfl (Wk.refl _)) ?_
              refine wpo_mv (a := (eB false)) rfl rfl rfl (o_mv tk rfl (Wk.refl _)) ?_
              refine wpo_skip rfl rfl rfl ?_
              refine wpo_skip rfl rfl rfl ?_
              refine wpo_skip rfl rfl rfl ?_
              refine wpo_skip rfl rfl rfl ?_
              refine wpo_mv (a := (eB false)) rfl rfl rfl (o_pick_f tk rfl rfl (Wk.refl _)) ?_
              refine wpo_mv (a := (eB false)) rfl rfl rfl (o_mv tk rfl (Wk.refl _)) ?_
              refine wpo_skip rfl rfl rfl ?_
              refine wpo_skip rfl rfl rfl ?_
              refine wpo_skip rfl rfl rfl ?_
              refine wpo_mv (a := (eB false)) rfl rfl rfl (o_pick_f tk rfl rfl (Wk.refl _)) ?_
              refine wpo_mv (a := (eB false)) rfl rfl rfl (o_mv tk rfl (Wk.refl _)) ?_
              refine wpo_skip rfl rfl rfl ?_
              refine wpo_skip rfl rfl rfl ?_
              refine wpo_skip rfl rfl rfl ?_
              refine wpo_mv (a := (eB false)) rfl rfl rfl (o_pick_f tk rfl rfl (Wk.refl _)) ?_
              refine wpo_mv (a := (eB false)) rfl rfl rfl (o_mv tk rfl (Wk.refl _)) ?_
              refine wpo_skip rfl rfl rfl ?_
              refine wpo_skip rfl rfl rfl ?_
              refine wpo_skip rfl rfl rfl ?_
              refine wpo_mv (a := (eB false)) rfl rfl rfl (o_pick_f tk rfl rfl (Wk.refl _)) ?_
              refine wpo_mv (a := (eB false)) rfl rfl rfl (o_mv tk rfl (Wk.refl _)) ?_
              refine wpo_skip rfl rfl rfl ?_
              refine wpo_skip rfl rfl rfl ?_
              refine wpo_skip rfl rfl rfl ?_
              refine wpo_mv (a := (eB false)) rfl rfl rfl (o_pick_f tk rfl rfl (Wk.refl _)) ?_
              refine wpo_mv (a := (eB false)) rfl rfl rfl (o_mv tk rfl (Wk.refl _)) ?_
              refine wpo_skip rfl rfl rfl ?_
              refine wpo_skip rfl rfl rfl ?_
              refine wpo_mv (a := (eB false)) rfl rfl rfl (o_pick_f tk rfl rfl (Wk.refl _)) ?_
              refine wpo_mv (a := (eB false)) rfl rfl rfl (o_as tk rfl (Wk.refl _)) ?_
              refine wpo_nil ?_
              refine awp_ret ?_
              obtain rfl := Option.some.inj H40
              exact ⟨_, (eB false), rfl, (.of_eq rfl), .of_eq ((enc_b td4 sz4).cut _ _ _), (((((hH.noT.drop n5).drop n5_1).drop n5_2).drop n5_3).drop n5_4)⟩
          · subst hb
            refine wpo_skip rfl rfl rfl ?_
            refine wpo_skip rfl rfl rfl ?_
            refine wpo_mv (a := (eB false)) rfl rfl rfl (o_pick_f tk rfl rfl (Wk.refl _)) ?_
            refine wpo_mv (a := (eB false)) rfl rfl rfl (o_mv tk rfl (Wk.refl _)) ?_
            refine wpo_skip rfl rfl rfl ?_
            refine wpo_skip rfl rfl rfl ?_
            refine wpo_mv (a := (eB false)) rfl rfl rfl (o_pick_f tk rfl rfl (Wk.refl _)) ?_
            refine wpo_mv (a := (eB false)) rfl rfl rfl (o_mv tk rfl (Wk.refl _)) ?_
            refine wpo_skip rfl rfl rfl ?_
            refine wpo_skip rfl rfl rfl ?_
            refine wpo_mv (a := (eB false)) rfl rfl rfl (o_pick_f tk rfl rfl (Wk.refl _)) ?_
            refine wpo_mv (a := (eB false)) rfl rfl rfl (o_mv tk rfl (Wk.refl _)) ?_
            refine wpo_skip rfl rfl rfl ?_
            refine wpo_skip rfl rfl rfl ?_
            refine wpo_mv (a := (eB false)) rfl rfl rfl (o_pick_f tk rfl rfl (Wk.refl _)) ?_
            refine wpo_mv (a := (eB false)) rfl rfl rfl (o_mv tk rfl (Wk.refl _)) ?_
            refine wpo_skip rfl rfl rfl ?_
            refine wpo_skip rfl rfl rfl ?_
            refine wpo_skip rfl rfl rfl ?_
            refine wpo_mv (a := (eB false)) rfl rfl rfl (o_pick_f tk rfl rfl (Wk.refl _)) ?_
            refine wpo_mv (a := (eB false)) rfl rfl rfl (o_mv tk rfl (Wk.refl _)) ?_
            refine wpo_skip rfl rfl rfl ?_
            refine wpo_skip rfl rfl rfl ?_
            refine wpo_skip rfl rfl rfl ?_
            refine wpo_skip rfl rfl rfl ?_
            refine wpo_mv (a := (eB false)) rfl rfl rfl (o_pick_f tk rfl rfl (Wk.refl _)) ?_
            refine wpo_mv (a := (eB false)) rfl rfl rfl (o_mv tk rfl (Wk.refl _)) ?_
            refine wpo_skip rfl rfl rfl ?_
            refine wpo_skip rfl rfl rfl ?_
            refine wpo_skip rfl rfl rfl ?_
            refine wpo_mv (a := (eB false)) rfl rfl rfl (o_pick_f tk rfl rfl (Wk.refl _)) ?_
            refine wpo_mv (a := (eB false)) rfl rfl rfl (o_mv tk rfl (Wk.refl _)) ?_
            refine wpo_skip rfl rfl rfl ?_
            refine wpo_skip rfl rfl rfl ?_
            refine wpo_skip rfl rfl rfl ?_
            refine wpo_mv (a := (eB false)) rfl rfl rfl (o_pick_f tk rfl rfl (Wk.refl _)) ?_
            refine wpo_mv (a := (eB false)) rfl rfl rfl (o_mv tk rfl (Wk.refl _)) ?_
            refine wpo_skip rfl rfl rfl ?_
            refine wpo_skip rfl rfl rfl ?_
            refine wpo_skip rfl rfl rfl ?_
            refine wpo_mv (a := (eB false)) rfl rfl rfl (o_pick_f tk rfl rfl (Wk.refl _)) ?_
            refine wpo_mv (a := (eB false)) rfl rfl rfl (o_mv tk rfl (Wk.refl _)) ?_
            refine wpo_skip rfl rfl rfl ?_
            refine wpo_skip rfl rfl rfl ?_
            refine wpo_skip rfl rfl rfl ?_
            refine wpo_mv (a := (eB false)) rfl rfl rfl (o_pick_f tk rfl rfl (Wk.refl _)) ?_
            refine wpo_mv (a := (eB false)) rfl rfl rfl (o_mv tk rfl (Wk.refl _)) ?_
            refine wpo_skip rfl rfl rfl ?_
            refine wpo_skip rfl rfl rfl ?_
            refine wpo_mv (a := (eB false)) rfl rfl rfl (o_pick_f tk rfl rfl (Wk.refl _)) ?_
            refine wpo_mv (a := (eB false)) rfl rfl rfl (o_as tk rfl (Wk.refl _)) ?_
            refine wpo_nil ?_
            refine awp_ret ?_
            obtain rfl := Option.some.inj H37
            exact ⟨_, (eB false), rfl, (.of_eq rfl), .of_eq ((enc_b td4 sz4).cut _ _ _), (((((hH.noT.drop n5).drop n5_1).drop n5_2).drop n5_3).drop n5_4)⟩
        · subst hb
          refine wpo_skip rfl rfl rfl ?_
          refine wpo_skip rfl rfl rfl ?_
          refine wpo_mv (a := (eB false)) rfl rfl rfl (o_pick_f tk rfl rfl (Wk.refl _)) ?_
          refine wpo_mv (a := (eB false)) rfl rfl rfl (o_mv tk rfl (Wk.refl _)) ?_
          refine wpo_skip rfl rfl rfl ?_
          refine wpo_skip rfl rfl rfl ?_
          refine wpo_mv (a := (eB false)) rfl rfl rfl (o_pick_f tk rfl rfl (Wk.refl _)) ?_
          refine wpo_mv (a := (eB false)) rfl rfl rfl (o_mv tk rfl (Wk.refl _)) ?_
          refine wpo_skip rfl rfl rfl ?_
          refine wpo_skip rfl rfl rfl ?_
          refine wpo_mv (a := (eB false)) rfl rfl rfl (o_pick_f tk rfl rfl (Wk.refl _)) ?_
          refine wpo_mv (a := (eB false)) rfl rfl rfl (o_mv tk rfl (Wk.refl _)) ?_
          refine wpo_skip rfl rfl rfl ?_
          refine wpo_skip rfl rfl rfl ?_
          refine wpo_mv (a := (eB false)) rfl rfl rfl (o_pick_f tk rfl rfl (Wk.refl _)) ?_
          refine wpo_mv (a := (eB false)) rfl rfl rfl (o_mv tk rfl (Wk.refl _)) ?_
          refine wpo_skip rfl rfl rfl ?_
          refine wpo_skip rfl rfl rfl ?_
          refine wpo_mv (a := (eB false)) rfl rfl rfl (o_pick_f tk rfl rfl (Wk.refl _)) ?_
          refine wpo_mv (a := (eB false)) rfl rfl rfl (o_mv tk rfl (Wk.refl _)) ?_
          refine wpo_skip rfl rfl rfl ?_
          refine wpo_skip rfl rfl rfl ?_
          refine wpo_skip rfl rfl rfl ?_
          refine wpo_mv (a := (eB false)) rfl rfl rfl (o_pick_f tk rfl rfl (Wk.refl _)) ?_
          refine wpo_mv (a := (eB false)) rfl rfl rfl (o_mv tk rfl (Wk.refl _)) ?_
          refine wpo_skip rfl rfl rfl ?_
          refine wpo_skip rfl rfl rfl ?_
          refine wpo_skip rfl rfl rfl ?_
          refine wpo_skip rfl rfl rfl ?_
          refine wpo_mv (a := (eB false)) rfl rfl rfl (o_pick_f tk rfl rfl (Wk.refl _)) ?_
          refine wpo_mv (a := (eB false)) rfl rfl rfl (o_mv tk rfl (Wk.refl _)) ?_
          refine wpo_skip rfl rfl rfl ?_
          refine wpo_skip rfl rfl rfl ?_
          refine wpo_skip rfl rfl rfl ?_
          refine wpo_mv (a := (eB false)) rfl rfl rfl (o_pick_f tk rfl rfl (Wk.refl _)) ?_
          refine wpo_mv (a := (eB false)) rfl rfl rfl (o_mv tk rfl (Wk.refl _)) ?_
          refine wpo_skip rfl rfl rfl ?_
          refine wpo_skip rfl rfl rfl ?_
          refine wpo_skip rfl rfl rfl ?_
          refine wpo_mv (a := (eB false)) rfl rfl rfl (o_pick_f tk rfl rfl (Wk.refl _)) ?_
          refine wpo_mv (a := (eB false)) rfl rfl rfl (o_mv tk rfl (Wk.refl _)) ?_
          refine wpo_skip rfl rfl rfl ?_
          refine wpo_skip rfl rfl rfl ?_
          refine wpo_skip rfl rfl rfl ?_
          refine wpo_mv (a := (eB false)) rfl rfl rfl (o_pick_f tk rfl rfl (Wk.refl _)) ?_
          refine wpo_mv (a := (eB false)) rfl rfl rfl (o_mv tk rfl (Wk.refl _)) ?_
          refine wpo_skip rfl rfl rfl ?_
          refine wpo_skip rfl rfl rfl ?_
          refine wpo_skip rfl rfl rfl ?_
          refine wpo_mv (a := (eB false)) rfl rfl rfl (o_pick_f tk rfl rfl (Wk.refl _)) ?_
          refine wpo_mv (a := (eB false)) rfl rfl rfl (o_mv tk rfl (Wk.refl _)) ?_
          refine wpo_skip rfl rfl rfl ?_
          refine wpo_skip rfl rfl rfl ?_
          refine wpo_mv (a := (eB false)) rfl rfl rfl (o_pick_f tk rfl rfl (Wk.refl _)) ?_
          refine wpo_mv (a := (eB false)) rfl rfl rfl (o_as tk rfl (Wk.refl _)) ?_
          refine wpo_nil ?_
          refine awp_ret ?_
          obtain rfl := Option.some.inj H34
          exact ⟨_, (eB false), rfl, (.of_eq rfl), .of_eq ((enc_b td4 sz4).cut _ _ _), (((((hH.noT.drop n5).drop n5_1).drop n5_2).drop n5_3).drop n5_4)⟩
    · rw [hz18, Option.elim_some] at H13
      refine wpo_a (av := fun id => .tup [.ref id 0, (eErr v14.2)]) rfl rfl rfl (h_callnb1 hH hz18 rfl rfl (.cons (.of_eq rfl) (.cons (.of_eq rfl) .nil)) (lists_New_ok hvv14 _)) fun id16 τ ⟨hH, n17⟩ => ?_
      obtain ⟨id16_nodes, h_id16_nodes⟩ : ∃ x, x = id16 + 1 := ⟨_, rfl⟩
      obtain ⟨id16_first_, h_id16_first_⟩ : ∃ x, x = id16 + 2 := ⟨_, rfl⟩
      obtain ⟨id16_last_, h_id16_last_⟩ : ∃ x, x = id16 + 3 := ⟨_, rfl⟩
      obtain ⟨id16_count, h_id16_count⟩ : ∃ x, x = id16 + 4 := ⟨_, rfl⟩
      have hH : Holds σ [(id16, [(.vec id16_nodes 4 (c15.nodes).length), (.vec id16_first_ 1 (c15.first_).length), (.vec id16_last_ 1 (c15.last_).length), (.vec id16_count 1 (c15.count).length), (eI c15.free), (eI c15.clock)]), (id16_nodes, (cL e_lists_link c15.nodes)), (id16_first_, (cL eI c15.first_)), (id16_last_, (cL eI c15.last_)), (id16_count, (cL eI c15.count)), (id4, [(.vec id4_nodes 4 (c3.nodes).length), (.vec id4_first_ 1 (c3.first_).length), (.vec id4_last_ 1 (c3.last_).length), (.vec id4_count 1 (c3.count).length), (eI c3.free), (eI c3.clock)]), (id4_nodes, (cL e_lists_link c3.nodes)), (id4_first_, (cL eI c3.first_)), (id4_last_, (cL eI c3.last_)), (id4_count, (cL eI c3.count))] [] τ := by rw [h_id16_nodes, h_id16_first_, h_id16_last_, h_id16_count]; exact hH
      have n17_1 : σ.objs.length ≤ id16_nodes := by omega
      have n17_2 : σ.objs.length ≤ id16_first_ := by omega
      have n17_3 : σ.objs.length ≤ id16_last_ := by omega
      have n17_4 : σ.objs.length ≤ id16_count := by omega
      refine wpo_mv (a := (.tup [(.ref id16 0), (eErr v14.2)])) rfl rfl rfl (o_mv tk rfl (Wk.refl _)) ?_
      refine wpo_mv (a := (.ref id16 0)) rfl rfl rfl (o_ext tk rfl rfl) ?_
      refine wpo_mv (a := (eErr v14.2)) rfl rfl rfl (o_ext tk rfl rfl) ?_
      refine wpo_mv (a := (.ref id16 0)) rfl rfl rfl (o_as tk rfl (Wk.refl _)) ?_
      refine wpo_mv (a := (eErr v14.2)) rfl rfl rfl (o_as tk rfl (Wk.refl _)) ?_
      refine wpo_nil ?_
      refine awp_seq ?_
      refine awp_seq ?_
      refine awp_region rfl ?_
      refine wpo_mv (a := (.ref id4 0)) rfl rfl rfl (o_mv tk rfl (Wk.refl _)) ?_
      refine wpo_mv (a := (eB false)) rfl rfl rfl (o_c tk false rfl (fun _ => rfl)) ?_
      refine wpo_mv (a := (eB false)) rfl rfl rfl (o_mv tk rfl (Wk.refl _)) ?_
      refine wpo_mv (a := (eErr v2.2)) rfl rfl rfl (o_mv tk rfl (Wk.refl _)) ?_
      refine wpo_lt H13 eB rfl rfl rfl (o_err_neq tk rfl rfl rfl) fun v83 H82 => ?_
      refine wpo_mv (a := (eB v83)) rfl rfl rfl (o_pick_f tk rfl rfl (Wk.refl _)) ?_
      refine wpo_nil ?_
      refine awp_if H82 rfl (fun H84 => ?_) (fun H84 => ?_)
      · refine awp_seq ?_
        refine awp_region rfl ?_
        refine wpo_mv (a := (eB false)) rfl rfl rfl (o_as tk rfl (Wk.refl _)) ?_
        refine wpo_nil ?_
        refine awp_ret ?_
        obtain rfl := Option.some.inj H84
        exact ⟨_, (eB false), rfl, (.of_eq rfl), .of_eq ((enc_b td4 sz4).cut _ _ _), ((((((((((hH.noT.drop n17).drop n17_1).drop n17_2).drop n17_3).drop n17_4).drop n5).drop n5_1).drop n5_2).drop n5_3).drop n5_4)⟩
      · refine awp_skip ?_
        refine awp_seq ?_
        refine awp_region rfl ?_
        refine wpo_mv (a := (.ref id4 0)) rfl rfl rfl (o_mv tk rfl (Wk.refl _)) ?_
        refine wpo_cb H84 (fun x _ => .tup [eI x.1, eErr x.2.1]) rfl rfl rfl (fun v86 hv => h_call1 hH [(5, (id4, [(.vec id4_nodes 4 (v86.2.2.nodes).length), (.vec id4_first_ 1 (v86.2.2.first_).length), (.vec id4_last_ 1 (v86.2.2.last_).length), (.vec id4_count 1 (v86.2.2.count).length), (eI v86.2.2.free), (eI v86.2.2.clock)])), (6, (id4_nodes, (cL e_lists_link v86.2.2.nodes))), (7, (id4_first_, (cL eI v86.2.2.first_))), (8, (id4_last_, (cL eI v86.2.2.last_))), (9, (id4_count, (cL eI v86.2.2.count)))] ⟨⟨_, rfl⟩, ⟨⟨_, rfl⟩, ⟨⟨_, rfl⟩, ⟨⟨_, rfl⟩, ⟨⟨_, rfl⟩, trivial⟩⟩⟩⟩⟩ rfl rfl (.cons (.of_eq rfl) (.cons (.of_eq rfl) .nil)) (lists_Lists_Add_ok hv _ (hH.at_ 5 rfl) (hH.at_ 6 rfl) (hH.at_ 7 rfl) (hH.at_ 8 rfl) (hH.at_ 9 rfl) (hH.pw [5, 6, 7, 8, 9] rfl (by decide)))) fun v86 _ τ hv86 H85 (hH : Holds σ [(id16, [(.vec id16_nodes 4 (c15.nodes).length), (.vec id16_first_ 1 (c15.first_).length), (.vec id16_last_ 1 (c15.last_).length), (.vec id16_count 1 (c15.count).length), (eI c15.free), (eI c15.clock)]), (id16_nodes, (cL e_lists_link c15.nodes)), (id16_first_, (cL eI c15.first_)), (id16_last_, (cL eI c15.last_)), (id16_count, (cL eI c15.count)), (id4, [(.vec id4_nodes 4 (v86.2.2.nodes).length), (.vec id4_first_ 1 (v86.2.2.first_).length), (.vec id4_last_ 1 (v86.2.2.last_).length), (.vec id4_count 1 (v86.2.2.count).length), (eI v86.2.2.free), (eI v86.2.2.clock)]), (id4_nodes, (cL e_lists_link v86.2.2.nodes)), (id4_first_, (cL eI v86.2.2.first_)), (id4_last_, (cL eI v86.2.2.last_)), (id4_count, (cL eI v86.2.2.count))] [] τ) => ?_
        refine wpo_mv (a := (.tup [(eI v86.1), (eErr v86.2.1)])) rfl rfl rfl (o_mv tk rfl (Wk.refl _)) ?_
        refine wpo_mv (a := (eI v86.1)) rfl rfl rfl (o_ext tk rfl rfl) ?_
        refine wpo_mv (a := (eErr v86.2.1)) rfl rfl rfl (o_ext tk rfl rfl) ?_
        refine wpo_mv (a := (eI v86.1)) rfl rfl rfl (o_as tk rfl (Wk.refl _)) ?_
        refine wpo_mv (a := (eErr v86.2.1)) rfl rfl rfl (o_as tk rfl (Wk.refl _)) ?_
        refine wpo_nil ?_
        refine awp_seq ?_
        refine awp_region rfl ?_
        refine wpo_mv (a := (.ref id4 0)) rfl rfl rfl (o_mv tk rfl (Wk.refl _)) ?_
        refine wpo_cb H85 (fun x _ => .tup [eI x.1, eErr x.2.1]) rfl rfl rfl (fun v88 hv => h_call1 hH [(5, (id4, [(.vec id4_nodes 4 (v88.2.2.nodes).length), (.vec id4_first_ 1 (v88.2.2.first_).length), (.vec id4_last_ 1 (v88.2.2.last_).length), (.vec id4_count 1 (v88.2.2.count).length), (eI v88.2.2.free), (eI v88.2.2.clock)])), (6, (id4_nodes, (cL e_lists_link v88.2.2.nodes))), (7, (id4_first_, (cL eI v88.2.2.first_))), (8, (id4_last_, (cL eI v88.2.2.last_))), (9, (id4_count, (cL eI v88.2.2.count)))] ⟨⟨_, rfl⟩, ⟨⟨_, rfl⟩, ⟨⟨_, rfl⟩, ⟨⟨_, rfl⟩, ⟨⟨_, rfl⟩, trivial⟩⟩⟩⟩⟩ rfl rfl (.cons (.of_eq rfl) (.cons (.of_eq rfl) .nil)) (lists_Lists_Add_ok hv _ (hH.at_ 5 rfl) (hH.at_ 6 rfl) (hH.at_ 7 rfl) (hH.at_ 8 rfl) (hH.at_ 9 rfl) (hH.pw [5, 6, 7, 8, 9] rfl (by decide)))) fun v88 _ τ hv88 H87 (hH : Holds σ [(id16, [(.vec id16_nodes 4 (c15.nodes).length), (.vec id16_first_ 1 (c15.first_).length), (.vec id16_last_ 1 (c15.last_).length), (.vec id16_count 1 (c15.count).length), (eI c15.free), (eI c15.clock)]), (id16_nodes, (cL e_lists_link c15.nodes)), (id16_first_, (cL eI c15.first_)), (id16_last_, (cL eI c15.last_)), (id16_count, (cL eI c15.count)), (id4, [(.vec id4_nodes 4 (v88.2.2.nodes).length), (.vec id4_first_ 1 (v88.2.2.first_).length), (.vec id4_last_ 1 (v88.2.2.last_).length), (.vec id4_count 1 (v88.2.2.count).length), (eI v88.2.2.free), (eI v88.2.2.clock)]), (id4_nodes, (cL e_lists_link v88.2.2.nodes)), (id4_first_, (cL eI v88.2.2.first_)), (id4_last_, (cL eI v88.2.2.last_)), (id4_count, (cL eI v88.2.2.count))] [] τ) => ?_
        refine wpo_mv (a := (.tup [(eI v88.1), (eErr v88.2.1)])) rfl rfl rfl (o_mv tk rfl (Wk.refl _)) ?_
        refine wpo_mv (a := (eI v88.1)) rfl rfl rfl (o_ext tk rfl rfl) ?_
        refine wpo_mv (a := (eErr v88.2.1)) rfl rfl rfl (o_ext tk rfl rfl) ?_
        refine wpo_mv (a := (eI v88.1)) rfl rfl rfl (o_as tk rfl (Wk.refl _)) ?_
        refine wpo_mv (a := (eErr v88.2.1)) rfl rfl rfl (o_as tk rfl (Wk.refl _)) ?_
        refine wpo_nil ?_
        refine awp_seq ?_
        refine awp_region rfl ?_
        refine wpo_mv (a := (.ref id4 0)) rfl rfl rfl (o_mv tk rfl (Wk.refl _)) ?_
        refine wpo_mv (a := (eI v86.1)) rfl rfl rfl (o_mv tk rfl (Wk.refl _)) ?_
        refine wpo_cb H87 (fun x _ => eErr x.1) rfl rfl rfl (fun v90 hv => h_call1 hH [(5, (id4, [(.vec id4_nodes 4 (v90.2.nodes).length), (.vec id4_first_ 1 (v90.2.first_).length), (.vec id4_last_ 1 (v90.2.last_).length), (.vec id4_count 1 (v90.2.count).length), (eI v90.2.free), (eI v90.2.clock)])), (6, (id4_nodes, (cL e_lists_link v90.2.nodes))), (7, (id4_first_, (cL eI v90.2.first_))), (8, (id4_last_, (cL eI v90.2.last_))), (9, (id4_count, (cL eI v90.2.count)))] ⟨⟨_, rfl⟩, ⟨⟨_, rfl⟩, ⟨⟨_, rfl⟩, ⟨⟨_, rfl⟩, ⟨⟨_, rfl⟩, trivial⟩⟩⟩⟩⟩ rfl rfl (.cons (.of_eq rfl) (.cons (.of_eq rfl) .nil)) (lists_Lists_Touch_ok hv _ (hH.at_ 5 rfl) (hH.at_ 6 rfl) (hH.at_ 7 rfl) (hH.at_ 8 rfl) (hH.at_ 9 rfl) (hH.pw [5, 6, 7, 8, 9] rfl (by decide)))) fun v90 _ τ hv90 H89 (hH : Holds σ [(id16, [(.vec id16_nodes 4 (c15.nodes).length), (.vec id16_first_ 1 (c15.first_).length), (.vec id16_last_ 1 (c15.last_).length), (.vec id16_count 1 (c15.count).length), (eI c15.free), (eI c15.clock)]), (id16_nodes, (cL e_lists_link c15.nodes)), (id16_first_, (cL eI c15.first_)), (id16_last_, (cL eI c15.last_)), (id16_count, (cL eI c15.count)), (id4, [(.vec id4_nodes 4 (v90.2.nodes).length), (.vec id4_first_ 1 (v90.2.first_).length), (.vec id4_last_ 1 (v90.2.last_).length), (.vec id4_count 1 (v90.2.count).length), (eI v90.2.free), (eI v90.2.clock)]), (id4_nodes, (cL e_lists_link v90.2.nodes)), (id4_first_, (cL eI v90.2.first_)), (id4_last_, (cL eI v90.2.last_)), (id4_count, (cL eI v90.2.count))] [] τ) => ?_
        refine wpo_mv (a := (eErr v90.1)) rfl rfl rfl (o_as tk rfl (Wk.refl _)) ?_
        refine wpo_nil ?_
        refine awp_seq ?_
        refine awp_region rfl ?_
        refine wpo_mv (a := (.ref id4 0)) rfl rfl rfl (o_mv tk rfl (Wk.refl _)) ?_
        refine wpo_cb H89 (fun x _ => eErr x.1) rfl rfl rfl (fun v92 hv => h_call1 hH [(5, (id4, [(.vec id4_nodes 4 (v92.2.nodes).length), (.vec id4_first_ 1 (v92.2.first_).length), (.vec id4_last_ 1 (v92.2.last_).length), (.vec id4_count 1 (v92.2.count).length), (eI v92.2.free), (eI v92.2.clock)])), (6, (id4_nodes, (cL e_lists_link v92.2.nodes))), (7, (id4_first_, (cL eI v92.2.first_))), (8, (id4_last_, (cL eI v92.2.last_))), (9, (id4_count, (cL eI v92.2.count)))] ⟨⟨_, rfl⟩, ⟨⟨_, rfl⟩, ⟨⟨_, rfl⟩, ⟨⟨_, rfl⟩, ⟨⟨_, rfl⟩, trivial⟩⟩⟩⟩⟩ rfl rfl (.cons (.of_eq rfl) (.cons (.of_eq rfl) .nil)) (lists_Lists_Drop_ok hv _ (hH.at_ 5 rfl) (hH.at_ 6 rfl) (hH.at_ 7 rfl) (hH.at_ 8 rfl) (hH.at_ 9 rfl) (hH.pw [5, 6, 7, 8, 9] rfl (by decide)))) fun v92 _ τ hv92 H91 (hH : Holds σ [(id16, [(.vec id16_nodes 4 (c15.nodes).length), (.vec id16_first_ 1 (c15.first_).length), (.vec id16_last_ 1 (c15.last_).length), (.vec id16_count 1 (c15.count).length), (eI c15.free), (eI c15.clock)]), (id16_nodes, (cL e_lists_link c15.nodes)), (id16_first_, (cL eI c15.first_)), (id16_last_, (cL eI c15.last_)), (id16_count, (cL eI c15.count)), (id4, [(.vec id4_nodes 4 (v92.2.nodes).length), (.vec id4_first_ 1 (v92.2.first_).length), (.vec id4_last_ 1 (v92.2.last_).length), (.vec id4_count 1 (v92.2.count).length), (eI v92.2.free), (eI v92.2.clock)]), (id4_nodes, (cL e_lists_link v92.2.nodes)), (id4_first_, (cL eI v92.2.first_)), (id4_last_, (cL eI v92.2.last_)), (id4_count, (cL eI v92.2.count))] [] τ) => ?_
        refine wpo_mv (a := (eErr v92.1)) rfl rfl rfl (o_as tk rfl (Wk.refl _)) ?_
        refine wpo_nil ?_
        refine awp_seq ?_
        refine awp_region rfl ?_
        refine wpo_mv (a := (eErr v14.2)) rfl rfl rfl (o_mv tk rfl (Wk.refl _)) ?_
        refine wpo_bdr H91 eI rfl rfl rfl (fun v94 hv => h_callr rfl rfl (.cons (.of_eq rfl) .nil) (trouble_Of_ok hv _ (hH.gl.trans hg))) fun v94 hv94 H93 => ?_
        refine wpo_lt H93 eB rfl rfl rfl (o_ar tk rfl rfl rfl) fun v96 H95 => ?_
        refine wpo_mv (a := (eB v96)) rfl rfl rfl (o_mv tk rfl (Wk.refl _)) ?_
        refine if_split H95 (fun hb H97 => ?_) (fun hb H97 => ?_)
        · subst hb
          refine wpo_mv (a := (eI v86.1)) rfl rfl rfl (o_mv tk rfl (Wk.refl _)) ?_
          refine wpo_lt H97 eB rfl rfl rfl (o_ar tk rfl rfl rfl) fun v99 H98 => ?_
          refine wpo_mv (a := (eB v99)) rfl rfl rfl (o_pick_t tk rfl rfl (Wk.refl _)) ?_
          refine wpo_mv (a := (eB v99)) rfl rfl rfl (o_mv tk rfl (Wk.refl _)) ?_
          refine if_split H98 (fun hb H100 => ?_) (fun hb H100 => ?_)
          · subst hb
            refine wpo_mv (a := (eI v88.1)) rfl rfl rfl (o_mv tk rfl (Wk.refl _)) ?_
            refine wpo_lt H100 eB rfl rfl rfl (o_ar tk rfl rfl rfl) fun v102 H101 => ?_
            refine wpo_mv (a := (eB v102)) rfl rfl rfl (o_pick_t tk rfl rfl (Wk.refl _)) ?_
            refine wpo_mv (a := (eB v102)) rfl rfl rfl (o_mv tk rfl (Wk.refl _)) ?_
            refine if_split H101 (fun hb H103 => ?_) (fun hb H103 => ?_)
            · subst hb
              refine wpo_mv (a := (eErr v86.2.1)) rfl rfl rfl (o_mv tk rfl (Wk.refl _)) ?_
              refine wpo_lt H103 eB rfl rfl rfl (o_err_eql tk rfl rfl rfl) fun v105 H104 => ?_
              refine wpo_mv (a := (eB v105)) rfl rfl rfl (o_pick_t tk rfl rfl (Wk.refl _)) ?_
              refine wpo_mv (a := (eB v105)) rfl rfl rfl (o_mv tk rfl (Wk.refl _)) ?_
              refine if_split H104 (fun hb H106 => ?_) (fun hb H106 => ?_)
              · subst hb
                refine wpo_mv (a := (eErr v88.2.1)) rfl rfl rfl (o_mv tk rfl (Wk.refl _)) ?_
                refine wpo_lt H106 eB rfl rfl rfl (o_err_eql tk rfl rfl rfl) fun v108 H107 => ?_
                refine wpo_mv (a := (eB v108)) rfl rfl rfl (o_pick_t tk rfl rfl (Wk.refl _)) ?_
                refine wpo_mv (a := (eB v108)) rfl rfl rfl (o_mv tk rfl (Wk.refl _)) ?_
                refine if_split H107 (fun hb H109 => ?_) (fun hb H109 => ?_)
                · subst hb
                  refine wpo_mv (a := (eErr v90.1)) rfl rfl rfl (o_mv tk rfl (Wk.refl _)) ?_
                  refine wpo_lt H109 eB rfl rfl rfl (o_err_eql tk rfl rfl rfl) fun v111 H110 => ?_
                  refine wpo_mv (a := (eB v111)) rfl rfl rfl (o_pick_t tk rfl rfl (Wk.refl _)) ?_
                  refine wpo_mv (a := (eB v111)) rfl rfl rfl (o_mv tk rfl (Wk.refl _)) ?_
                  refine if_split H110 (fun hb H112 => ?_) (fun hb H112 => ?_)
                  · subst hb
                    refine wpo_mv (a := (eErr v92.1)) rfl rfl rfl (o_mv tk rfl (Wk.refl _)) ?_
                    refine wpo_bdr H112 eI rfl rfl rfl (fun v114 hv => h_callr rfl rfl (.cons (.of_eq rfl) .nil) (trouble_Of_ok hv _ (hH.gl.trans hg))) fun v114 hv114 H113 => ?_
                    refine wpo_lt H113 eB rfl rfl rfl (o_ar tk rfl rfl rfl) fun v116 H115 => ?_
                    refine wpo_mv (a := (eB v116)) rfl rfl rfl (o_pick_t tk rfl rfl (Wk.refl _)) ?_
                    refine wpo_mv (a := (eB v116)) rfl rfl rfl (o_mv tk rfl (Wk.refl _)) ?_
                    refine if_split H115 (fun hb H117 => ?_) (fun hb H117 => ?_)
                    · subst hb
                      refine wpo_mv (a := (.ref id4 0)) rfl rfl rfl (o_mv tk rfl (Wk.refl _)) ?_
                      refine wpo_bdr H117 (eL 1 eI) rfl rfl rfl (fun v119 hv => h_callr rfl rfl (.cons (.of_eq rfl) (.cons (.of_eq rfl) .nil)) (lists_Lists_Order_ok hv _ (hH.at_ 5 rfl) (hH.at_ 6 rfl) (hH.at_ 7 rfl) (hH.at_ 8 rfl) (hH.at_ 9 rfl) (hH.pw [5, 6, 7, 8, 9] rfl (by decide)))) fun v119 hv119 H118 => ?_
                      refine wpo_mv (a := (eF 1 eI ([(0 : Int), (1 : Int)] : List Int))) rfl rfl rfl (o_c tk false rfl (fun _ => rfl)) ?_
                      refine wpo_bd H118 eB rfl rfl rfl (fun v121 hv => OpP.of_call rfl rfl (.cons (.of_eq rfl) (.cons wk_no .nil)) (butteryref02_Ints_ok hv)) fun v121 hv121 H120 => ?_
                      refine wpo_mv (a := (eB v121)) rfl rfl rfl (o_pick_t tk rfl rfl (Wk.refl _)) ?_
                      refine wpo_mv (a := (eB v121)) rfl rfl rfl (o_mv tk rfl (Wk.refl _)) ?_
                      refine if_split H120 (fun hb H122 => ?_) (fun hb H122 => ?_)
                      · subst hb
                        refine wpo_mv (a := (.ref id4 0)) rfl rfl rfl (o_mv tk rfl (Wk.refl _)) ?_
                        refine wpo_bdr H122 eI rfl rfl rfl (fun v124 hv => h_callr rfl rfl (.cons (.of_eq rfl) (.cons (.of_eq rfl) .nil)) (lists_Lists_Last_ok hv _ (hH.at_ 5 rfl) (hH.at_ 6 rfl) (hH.at_ 7 rfl) (hH.at_ 8 rfl) (hH.at_ 9 rfl) (hH.pw [5, 6, 7, 8, 9] rfl (by decide)))) fun v124 hv124 H123 => ?_
                        refine wpo_lt H123 eB rfl rfl rfl (o_ar tk rfl rfl rfl) fun v126 H125 => ?_
                        refine wpo_mv (a := (eB v126)) rfl rfl rfl (o_pick_t tk rfl rfl (Wk.refl _)) ?_
                        refine wpo_mv (a := (eB v126)) rfl rfl rfl (o_mv tk rfl (Wk.refl _)) ?_
                        refine if_split H125 (fun hb H127 => ?_) (fun hb H127 => ?_)
                        · subst hb
                          refine wpo_mv (a := (.ref id4 0)) rfl rfl rfl (o_mv tk rfl (Wk.refl _)) ?_
                          refine wpo_bdr H127 eI rfl rfl rfl (fun v129 hv => h_callr rfl rfl (.cons (.of_eq rfl) .nil) (lists_Lists_Oldest_ok hv _ (hH.at_ 5 rfl) (hH.at_ 6 rfl) (hH.at_ 7 rfl) (hH.at_ 8 rfl) (hH.at_ 9 rfl) (hH.pw [5, 6, 7, 8, 9] rfl (by decide)))) fun v129 hv129 H128 => ?_
                          refine wpo_lt H128 eB rfl rfl rfl (o_ar tk rfl rfl rfl) fun v131 H130 => ?_
                          refine wpo_mv (a := (eB v131)) rfl rfl rfl (o_pick_t tk rfl rfl (Wk.refl _)) ?_
                          refine wpo_mv (a := (eB v131)) rfl rfl rfl (o_mv tk rfl (Wk.refl _)) ?_
                          refine if_split H130 (fun hb H132 => ?_) (fun hb H132 => ?_)
                          · subst hb
                            refine wpo_mv (a := (.ref id4 0)) rfl rfl rfl (o_mv tk rfl (Wk.refl _)) ?_
                            refine wpo_bdr H132 eI rfl rfl rfl (fun v134 hv => h_callr rfl rfl (.cons (.of_eq rfl) (.cons (.of_eq rfl) .nil)) (lists_Lists_List_ok hv _ (hH.at_ 5 rfl) (hH.at_ 6 rfl) (hH.at_ 7 rfl) (hH.at_ 8 rfl) (hH.at_ 9 rfl) (hH.pw [5, 6, 7, 8, 9] rfl (by decide)))) fun v134 hv134 H133 => ?_
                            refine wpo_lt H133 eB rfl rfl rfl (o_ar tk rfl rfl rfl) fun v136 H135 => ?_
                            refine wpo_mv (a := (eB v136)) rfl rfl rfl (o_pick_t tk rfl rfl (Wk.refl _)) ?_
                            refine wpo_mv (a := (eB v136)) rfl rfl rfl (o_mv tk rfl (Wk.refl _)) ?_
                            refine if_split H135 (fun hb H137 => ?_) (fun hb H137 => ?_)
                            · subst hb
                              refine wpo_mv (a := (.ref id4 0)) rfl rfl rfl (o_mv tk rfl (Wk.refl _)) ?_
                              refine wpo_bdr H137 eI rfl rfl rfl (fun v139 hv => h_callr rfl rfl (.cons (.of_eq rfl) (.cons (.of_eq rfl) .nil)) (lists_Lists_Len_ok hv _ (hH.at_ 5 rfl) (hH.at_ 6 rfl) (hH.at_ 7 rfl) (hH.at_ 8 rfl) (hH.at_ 9 rfl) (hH.pw [5, 6, 7, 8, 9] rfl (by decide)))) fun v139 hv139 H138 => ?_
                              refine wpo_lt H138 eB rfl rfl rfl (o_ar tk rfl rfl rfl) fun v141 H140 => ?_
                              refine wpo_mv (a := (eB v141)) rfl rfl rfl (o_pick_t tk rfl rfl (Wk.refl _)) ?_
                              refine wpo_mv (a := (eB v141)) rfl rfl rfl (o_mv tk rfl (Wk.refl _)) ?_
                              refine if_split H140 (fun hb H142 => ?_) (fun hb H142 => ?_)
                              · subst hb
                                refine wpo_mv (a := (.ref id4 0)) rfl rfl rfl (o_mv tk rfl (Wk.refl _)) ?_
                                refine wpo_bdr H142 eB rfl rfl rfl (fun v144 hv => h_callr rfl rfl (.cons (.of_eq rfl) .nil) (lists_Lists_Sound_ok hv _ (hH.at_ 5 rfl) (hH.at_ 6 rfl) (hH.at_ 7 rfl) (hH.at_ 8 rfl) (hH.at_ 9 rfl) (hH.pw [5, 6, 7, 8, 9] rfl (by decide)))) fun v144 hv144 H143 => ?_
                                refine wpo_mv (a := (eB v144)) rfl rfl rfl (o_pick_t tk rfl rfl (Wk.refl _)) ?_
                                refine wpo_mv (a := (eB v144)) rfl rfl rfl (o_as tk rfl (Wk.refl _)) ?_
                                refine wpo_nil ?_
                                refine awp_ret ?_
                                obtain rfl := Option.some.inj H143
                                exact ⟨_, (eB v144), rfl, (.of_eq rfl), .of_eq ((enc_b td4 sz4).cut _ _ _), ((((((((((hH.noT.drop n17).drop n17_1).drop n17_2).drop n17_3).drop n17_4).drop n5).drop n5_1).drop n5_2).drop n5_3).drop n5_4)⟩
                              · subst hb
                                refine wpo_skip rfl rfl rfl ?_
                                refine wpo_skip rfl rfl rfl ?_
                                refine wpo_mv (a := (eB false)) rfl rfl rfl (o_pick_f tk rfl rfl (Wk.refl _)) ?_
                                refine wpo_mv (a := (eB false)) rfl rfl rfl (o_as tk rfl (Wk.refl _)) ?_
                                refine wpo_nil ?_
                                refine awp_ret ?_
                                obtain rfl := Option.some.inj H142
                                exact ⟨_, (eB false), rfl, (.of_eq rfl), .of_eq ((enc_b td4 sz4).cut _ _ _), ((((((((((hH.noT.drop n17).drop n17_1).drop n17_2).drop n17_3).drop n17_4).drop n5).drop n5_1).drop n5_2).drop n5_3).drop n5_4)⟩
                            · subst hb
                              refine wpo_skip rfl rfl rfl ?_
                              refine wpo_skip rfl rfl rfl ?_
                              refine wpo_skip rfl rfl rfl ?_
                              refine wpo_mv (a := (eB false)) rfl rfl rfl (o_pick_f tk rfl rfl (Wk.refl _)) ?_
                              refine wpo_mv (a := (eB false)) rfl rfl rfl (o_mv tk rfl (Wk.refl _)) ?_
                              refine wpo_skip rfl rfl rfl ?_
                              refine wpo_skip rfl rfl rfl ?_
                              refine wpo_mv (a := (eB false)) rfl rfl rfl (o_pick_f tk rfl rfl (Wk.refl _)) ?_
                              refine wpo_mv (a := (eB false)) rfl rfl rfl (o_as tk rfl (Wk.refl _)) ?_
                              refine wpo_nil ?_
                              refine awp_ret ?_
                              obtain rfl := Option.some.inj H137
                              exact ⟨_, (eB false), rfl, (.of_eq rfl), .of_eq ((enc_b td4 sz4).cut _ _ _), ((((((((((hH.noT.drop n17).drop n17_1).drop n17_2).drop n17_3).drop n17_4).drop n5).drop n5_1).drop n5_2).drop n5_3).drop n5_4)⟩
                          · subst hb
                            refine wpo_skip rfl rfl rfl ?_
                            refine wpo_skip rfl rfl rfl ?_
                            refine wpo_skip rfl rfl rfl ?_
                            refine wpo_mv (a := (eB false)) rfl rfl rfl (o_pick_f tk rfl rfl (Wk.refl _)) ?_
                            refine wpo_mv (a := (eB false)) rfl rfl rfl (o_mv tk rfl (Wk.refl _)) ?_
                            refine wpo_skip rfl rfl rfl ?_
                            refine wpo_skip rfl rfl rfl ?_
                            refine wpo_skip rfl rfl rfl ?_
                            refine wpo_mv (a := (eB false)) rfl rfl rfl (o_pick_f tk rfl rfl (Wk.refl _)) ?_
                            refine wpo_mv (a := (eB false)) rfl rfl rfl (o_mv tk rfl (Wk.refl _)) ?_
                            refine wpo_skip rfl rfl rfl ?_
                            refine wpo_skip rfl rfl rfl ?_
                            refine wpo_mv (a := (eB false)) rfl rfl rfl (o_pick_f tk rfl rfl (Wk.refl _)) ?_
                            refine wpo_mv (a := (eB false)) rfl rfl rfl (o_as tk rfl (Wk.refl _)) ?_
                            refine wpo_nil ?_
                            refine awp_ret ?_
                            obtain rfl := Option.some.inj H132
                            exact ⟨_, (eB false), rfl, (.of_eq rfl), .of_eq ((enc_b td4 sz4).cut _ _ _), ((((((((((hH.noT.drop n17).drop n17_1).drop n17_2).drop n17_3).drop n17_4).drop n5).drop n5_1).drop n5_2).drop n5_3).drop n5_4)⟩
                        · subst hb
                          refine wpo_skip rfl rfl rfl ?_
                          refine wpo_skip rfl rfl rfl ?_
                          refine wpo_skip rfl rfl rfl ?_
                          refine wpo_mv (a := (eB false)) rfl rfl rfl (o_pick_f tk rfl rfl (Wk.refl _)) ?_
                          refine wpo_mv (a := (eB false)) rfl rfl rfl (o_mv tk rfl (Wk.refl _)) ?_
                          refine wpo_skip rfl rfl rfl ?_
                          refine wpo_skip rfl rfl rfl ?_
                          refine wpo_skip rfl rfl rfl ?_
                          refine wpo_mv (a := (eB false)) rfl rfl rfl (o_pick_f tk rfl rfl (Wk.refl _)) ?_
                          refine wpo_mv (a := (eB false)) rfl rfl rfl (o_mv tk rfl (Wk.refl _)) ?_
                          refine wpo_skip rfl rfl rfl ?_
                          refine wpo_skip rfl rfl rfl ?_
                          refine wpo_skip rfl rfl rfl ?_
                          refine wpo_mv (a := (eB false)) rfl rfl rfl (o_pick_f tk rfl rfl (Wk.refl _)) ?_
                          refine wpo_mv (a := (eB false)) rfl rfl rfl (o_mv tk rfl (Wk.refl _)) ?_
                          refine wpo_skip rfl rfl rfl ?_
                          refine wpo_skip rfl rfl rfl ?_
                          refine wpo_mv (a := (eB false)) rfl rfl rfl (o_pick_f tk rfl rfl (Wk.refl _)) ?_
                          refine wpo_mv (a := (eB false)) rfl rfl rfl (o_as tk rfl (Wk.refl _)) ?_
                          refine wpo_nil ?_
                          refine awp_ret ?_
                          obtain rfl := Option.some.inj H127
                          exact ⟨_, (eB false), rfl, (.of_eq rfl), .of_eq ((enc_b td4 sz4).cut _ _ _), ((((((((((hH.noT.drop n17).drop n17_1).drop n17_2).drop n17_3).drop n17_4).drop n5).drop n5_1).drop n5_2).drop n5_3).drop n5_4)⟩
                      · subst hb
                        refine wpo_skip rfl rfl rfl ?_
                        refine wpo_skip rfl rfl rfl ?_
                        refine wpo_skip rfl rfl rfl ?_
                        refine wpo_mv (a := (eB false)) rfl rfl rfl (o_pick_f tk rfl rfl (Wk.refl _)) ?_
                        refine wpo_mv (a := (eB false)) rfl rfl rfl (o_mv tk rfl (Wk.refl _)) ?_
                        refine wpo_skip rfl rfl rfl ?_
                        refine wpo_skip rfl rfl rfl ?_
                        refine wpo_skip rfl rfl rfl ?_
                        refine wpo_mv (a := (eB false)) rfl rfl rfl (o_pick_f tk rfl rfl (Wk.refl _)) ?_
                        refine wpo_mv (a := (eB false)) rfl rfl rfl (o_mv tk rfl (Wk.refl _)) ?_
                        refine wpo_skip rfl rfl rfl ?_
                        refine wpo_skip rfl rfl rfl ?_
                        refine wpo_skip rfl rfl rfl ?_
                        refine wpo_mv (a := (eB false)) rfl rfl rfl (o_pick_f tk rfl rfl (Wk.refl _)) ?_
                        refine wpo_mv (a := (eB false)) rfl rfl rfl (o_mv tk rfl (Wk.refl _)) ?_
                        refine wpo_skip rfl rfl rfl ?_
                        refine wpo_skip rfl rfl rfl ?_
                        refine wpo_skip rfl rfl rfl ?_
                        refine wpo_mv (a := (eB false)) rfl rfl rfl (o_pick_f tk rfl rfl (Wk.refl _)) ?_
                        refine wpo_mv (a := (eB false)) rfl rfl rfl (o_mv tk rfl (Wk.refl _)) ?_
                        refine wpo_skip rfl rfl rfl ?_
                        refine wpo_skip rfl rfl rfl ?_
                        refine wpo_mv (a := (eB false)) rfl rfl rfl (o_pick_f tk rfl rfl (Wk.refl _)) ?_
                        refine wpo_mv (a := (eB false)) rfl rfl rfl (o_as tk rfl (Wk.refl _)) ?_
                        refine wpo_nil ?_
                        refine awp_ret ?_
                        obtain rfl := Option.some.inj H122
                        exact ⟨_, (eB false), rfl, (.of_eq rfl), .of_eq ((enc_b td4 sz4).cut _ _ _), ((((((((((hH.noT.drop n17).drop n17_1).drop n17_2).drop n17_3).drop n17_4).drop n5).drop n5_1).drop n5_2).drop n5_3).drop n5_4)⟩
                    · subst hb
                      refine wpo_skip rfl rfl rfl ?_
                      refine wpo_skip rfl rfl rfl ?_
                      refine wpo_skip rfl rfl rfl ?_
                      refine wpo_skip rfl rfl rfl ?_
                      refine wpo_mv (a := (eB false)) rfl rfl rfl (o_pick_f tk rfl rfl (Wk.refl _)) ?_
                      refine wpo_mv (a := (eB false)) rfl rfl rfl (o_mv tk rfl (Wk.refl _)) ?_
                      refine wpo_skip rfl rfl rfl ?_
                      refine wpo_skip rfl rfl rfl ?_
                      refine wpo_skip rfl rfl rfl ?_
                      refine wpo_mv (a := (eB false)) rfl rfl rfl (o_pick_f tk rfl rfl (Wk.refl _)) ?_
                      refine wpo_mv (a := (eB false)) rfl rfl rfl (o_mv tk rfl (Wk.refl _)) ?_
                      refine wpo_skip rfl rfl rfl ?_
                      refine wpo_skip rfl rfl rfl ?_
                      refine wpo_skip rfl rfl rfl ?_
                      refine wpo_mv (a := (eB false)) rfl rfl rfl (o_pick_f tk rfl rfl (Wk.refl _)) ?_
                      refine wpo_mv (a := (eB false)) rfl rfl rfl (o_mv tk rfl (Wk.refl _)) ?_
                      refine wpo_skip rfl rfl rfl ?_
                      refine wpo_skip rfl rfl rfl ?_
                      refine wpo_skip rfl rfl rfl ?_
                      refine wpo_mv (a := (eB false)) rfl rfl rfl (o_pick_f tk rfl rfl (Wk.refl _)) ?_
                      refine wpo_mv (a := (eB false)) rfl rfl rfl (o_mv tk rfl (Wk.refl _)) ?_
                      refine wpo_skip rfl rfl rfl ?_
                      refine wpo_skip rfl rfl rfl ?_
                      refine wpo_skip rfl rfl rfl ?_
                      refine wpo_mv (a := (eB false)) rfl rfl rfl (o_pick_f tk rfl rfl (Wk.refl _)) ?_
                      refine wpo_mv (a := (eB false)) rfl rfl rfl (o_mv tk rfl (Wk.refl _)) ?_
                      refine wpo_skip rfl rfl rfl ?_
                      refine wpo_skip rfl rfl rfl ?_
                      refine wpo_mv (a := (eB false)) rfl rfl rfl (o_pick_f tk rfl rfl (Wk.refl _)) ?_
                      refine wpo_mv (a := (eB false)) rfl rfl rfl (o_as tk rfl (Wk.refl _)) ?_
                      refine wpo_nil ?_
                      refine awp_ret ?_
                      obtain rfl := Option.some.inj H117
                      exact ⟨_, (eB false), rfl, (.of_eq rfl), .of_eq ((enc_b td4 sz4).cut _ _ _), ((((((((((hH.noT.drop n17).drop n17_1).drop n17_2).drop n17_3).drop n17_4).drop n5).drop n5_1).drop n5_2).drop n5_3).drop n5_4)⟩
                  · subst hb
                    refine wpo_skip rfl rfl rfl ?_
                    refine wpo_skip rfl rfl rfl ?_
                    refine wpo_skip rfl rfl rfl ?_
                    refine wpo_mv (a := (eB false)) rfl rfl rfl (o_pick_f tk rfl rfl (Wk.refl _)) ?_
                    refine wpo_mv (a := (eB false)) rfl rfl rfl (o_mv tk rfl (Wk.refl _)) ?_
                    refine wpo_skip rfl rfl rfl ?_
                    refine wpo_skip rfl rfl rfl ?_
                    refine wpo_skip rfl rfl rfl ?_
                    refine wpo_skip rfl rfl rfl ?_
                    refine wpo_mv (a := (eB false)) rfl rfl rfl (o_pick_f tk rfl rfl (Wk.refl _)) ?_
                    refine wpo_mv (a := (eB false)) rfl rfl rfl (o_mv tk rfl (Wk.refl _)) ?_
                    refine wpo_skip rfl rfl rfl ?_
                    refine wpo_skip rfl rfl rfl ?_
                    refine wpo_skip rfl rfl rfl ?_
                    refine wpo_mv (a := (eB false)) rfl rfl rfl (o_pick_f tk rfl rfl (Wk.refl _)) ?_
                    refine wpo_mv (a := (eB false)) rfl rfl rfl (o_mv tk rfl (Wk.refl _)) ?_
                    refine wpo_skip rfl rfl rfl ?_
                    refine wpo_skip rfl rfl rfl ?_
                    refine wpo_skip rfl rfl rfl ?_
                    refine wpo_mv (a := (eB false)) rfl rfl rfl (o_pick_f tk rfl rfl (Wk.refl _)) ?_
                    refine wpo_mv (a := (eB false)) rfl rfl rfl (o_mv tk rfl (Wk.refl _)) ?_
                    refine wpo_skip rfl rfl rfl ?_
                    refine wpo_skip rfl rfl rfl ?_
                    refine wpo_skip rfl rfl rfl ?_
                    refine wpo_mv (a := (eB false)) rfl rfl rfl (o_pick_f tk rfl rfl (Wk.refl _)) ?_
                    refine wpo_mv (a := (eB false)) rfl rfl rfl (o_mv tk rfl (Wk.refl _)) ?_
                    refine wpo_skip rfl rfl rfl ?_
                    refine wpo_skip rfl rfl rfl ?_
                    refine wpo_skip rfl rfl rfl ?_
                    refine wpo_mv (a := (eB false)) rfl rfl rfl (o_pick_f tk rfl rfl (Wk.refl _)) ?_
                    refine wpo_mv (a := (eB false)) rfl rfl rfl (o_mv tk rfl (Wk.refl _)) ?_
                    refine wpo_skip rfl rfl rfl ?_
                    refine wpo_skip rfl rfl rfl ?_
                    refine wpo_mv (a := (eB false)) rfl rfl rfl (o_pick_f tk rfl rfl (Wk.refl _)) ?_
                    refine wpo_mv (a := (eB false)) rfl rfl rfl (o_as tk rfl (Wk.refl _)) ?_
                    refine wpo_nil ?_
                    refine awp_ret ?_
                    obtain rfl := Option.some.inj H112
                    exact ⟨_, (eB false), rfl, (.of_eq rfl), .of_eq ((enc_b td4 sz4).cut _ _ _), ((((((((((hH.noT.drop n17).drop n17_1).drop n17_2).drop n17_3).drop n17_4).drop n5).drop n5_1).drop n5_2).drop n5_3).drop n5_4)⟩
                · subst hb
                  refine wpo_skip rfl rfl rfl ?_
                  refine wpo_skip rfl rfl rfl ?_
                  refine wpo_mv (a := (eB false)) rfl rfl rfl (o_pick_f tk rfl rfl (Wk.refl _)) ?_
                  refine wpo_mv (a := (eB false)) rfl rfl rfl (o_mv tk rfl (Wk.refl _)) ?_
                  refine wpo_skip rfl rfl rfl ?_
                  refine wpo_skip rfl rfl rfl ?_
                  refine wpo_skip rfl rfl rfl ?_
                  refine wpo_mv (a := (eB false)) rfl rfl rfl (o_pick_f tk rfl rfl (Wk.refl _)) ?_
                  refine wpo_mv (a := (eB false)) rfl rfl rfl (o_mv tk rfl (Wk.refl _)) ?_
                  refine wpo_skip rfl rfl rfl ?_
                  refine wpo_skip rfl rfl rfl ?_
                  refine wpo_skip rfl rfl rfl ?_
                  refine wpo_skip rfl rfl rfl ?_
                  refine wpo_mv (a := (eB false)) rfl rfl rfl (o_pick_f tk rfl rfl (Wk.refl _)) ?_
                  refine wpo_mv (a := (eB false)) rfl rfl rfl (o_mv tk rfl (Wk.refl _)) ?_
                  refine wpo_skip rfl rfl rfl ?_
                  refine wpo_skip rfl rfl rfl ?_
                  refine wpo_skip rfl rfl rfl ?_
                  refine wpo_mv (a := (eB false)) rfl rfl rfl (o_pick_f tk rfl rfl (Wk.refl _)) ?_
                  refine wpo_mv (a := (eB false)) rfl rfl rfl (o_mv tk rfl (Wk.refl _)) ?_
                  refine wpo_skip rfl rfl rfl ?_
                  refine wpo_skip rfl rfl rfl ?_
                  refine wpo_skip rfl rfl rfl ?_
                  refine wpo_mv (a := (eB false)) rfl rfl rfl (o_pick_f tk rfl rfl (Wk.refl _)) ?_
                  refine wpo_mv (a := (eB false)) rfl rfl rfl (o_mv tk rfl (Wk.refl _)) ?_
                  refine wpo_skip rfl rfl rfl ?_
                  refine wpo_skip rfl rfl rfl ?_
                  refine wpo_skip rfl rfl rfl ?_
                  refine wpo_mv (a := (eB false)) rfl rfl rfl (o_pick_f tk rfl rfl (Wk.refl _)) ?_
                  refine wpo_mv (a := (eB false)) rfl rfl rfl (o_mv tk rfl (Wk.refl _)) ?_
                  refine wpo_skip rfl rfl rfl ?_
                  refine wpo_skip rfl rfl rfl ?_
                  refine wpo_skip rfl rfl rfl ?_
                  refine wpo_mv (a := (eB false)) rfl rfl rfl (o_pick_f tk rfl rfl (Wk.refl _)) ?_
                  refine wpo_mv (a := (eB false)) rfl rfl rfl (o_mv tk rfl (Wk.refl _)) ?_
                  refine wpo_skip rfl rfl rfl ?_
                  refine wpo_skip rfl rfl rfl ?_
                  refine wpo_mv (a := (eB false)) rfl rfl rfl (o_pick_f tk rfl rfl (Wk.refl _)) ?_
                  refine wpo_mv (a := (eB false)) rfl rfl rfl (o_as tk rfl (Wk.refl _)) ?_
                  refine wpo_nil ?_
                  refine awp_ret ?_
                  obtain rfl := Option.some.inj H109
                  exact ⟨_, (eB false), rfl, (.of_eq rfl), .of_eq ((enc_b td4 sz4).cut _ _ _), ((((((((((hH.noT.drop n17).drop n17_1).drop n17_2).drop n17_3).drop n17_4).drop n5).drop n5_1).drop n5_2).drop n5_3).drop n5_4)⟩
              · subst hb
                refine wpo_skip rfl rfl rfl ?_
                refine wpo_skip rfl rfl rfl ?_
                refine wpo_mv (a := (eB false)) rfl rfl rfl (o_pick_f tk rfl rfl (Wk.refl _)) ?_
                refine wpo_mv (a := (eB false)) rfl rfl rfl (o_mv tk rfl (Wk.refl _)) ?_
                refine wpo_skip rfl rfl rfl ?_
                refine wpo_skip rfl rfl rfl ?_
                refine wpo_mv (a := (eB false)) rfl rfl rfl (o_pick_f tk rfl rfl (Wk.refl _)) ?_
                refine wpo_mv (a := (eB false)) rfl rfl rfl (o_mv tk rfl (Wk.refl _)) ?_
                refine wpo_skip rfl rfl rfl ?_
                refine wpo_skip rfl rfl rfl ?_
                refine wpo_skip rfl rfl rfl ?_
                refine wpo_mv (a := (eB false)) rfl rfl rfl (o_pick_f tk rfl rfl (Wk.refl _)) ?_
                refine wpo_mv (a := (eB false)) rfl rfl rfl (o_mv tk rfl (Wk.refl _)) ?_
                refine wpo_skip rfl rfl rfl ?_
                refine wpo_skip rfl rfl rfl ?_
                refine wpo_skip rfl rfl rfl ?_
                refine wpo_skip rfl rfl rfl ?_
                refine wpo_mv (a := (eB false)) rfl rfl rfl (o_pick_f tk rfl rfl (Wk.refl _)) ?_
                refine wpo_mv (a := (eB false)) rfl rfl rfl (o_mv tk rfl (Wk.refl _)) ?_
                refine wpo_skip rfl rfl rfl ?_
                refine wpo_skip rfl rfl rfl ?_
                refine wpo_skip rfl rfl rfl ?_
                refine wpo_mv (a := (eB false)) rfl rfl rfl (o_pick_f tk rfl rfl (Wk.refl _)) ?_
                refine wpo_mv (a := (eB false)) rfl rfl rfl (o_mv tk rfl (Wk.refl _)) ?_
                refine wpo_skip rfl rfl rfl ?_
                refine wpo_skip rfl rfl rfl ?_
                refine wpo_skip rfl rfl rfl ?_
                refine wpo_mv (a := (eB false)) rfl rfl rfl (o_pick_f tk rfl rfl (Wk.refl _)) ?_
                refine wpo_mv (a := (eB false)) rfl rfl rfl (o_mv tk rfl (Wk.refl _)) ?_
                refine wpo_skip rfl rfl rfl ?_
                refine wpo_skip rfl rfl rfl ?_
                refine wpo_skip rfl rfl rfl ?_
                refine wpo_mv (a := (eB false)) rfl rfl rfl (o_pick_f tk rfl rfl (Wk.refl _)) ?_
                refine wpo_mv (a := (eB false)) rfl rfl rfl (o_mv tk rfl (Wk.refl _)) ?_
                refine wpo_skip rfl rfl rfl ?_
                refine wpo_skip rfl rfl rfl ?_
                refine wpo_skip rfl rfl rfl ?_
                refine wpo_mv (a := (eB false)) rfl rfl rfl (o_pick_f tk rfl rfl (Wk.refl _)) ?_
                refine wpo_mv (a := (eB false)) rfl rfl rfl (o_mv tk rfl (Wk.refl _)) ?_
                refine wpo_skip rfl rfl rfl ?_
                refine wpo_skip rfl rfl rfl ?_
                refine wpo_mv (a := (eB false)) rfl rfl rfl (o_pick_f tk rfl rfl (Wk.refl _)) ?_
                refine wpo_mv (a := (eB false)) rfl rfl rfl (o_as tk rfl (Wk.refl _)) ?_
                refine wpo_nil ?_
                refine awp_ret ?_
                obtain rfl := Option.some.inj H106
                exact ⟨_, (eB false), rfl, (.of_eq rfl), .of_eq ((enc_b td4 sz4).cut _ _ _), ((((((((((hH.noT.drop n17).drop n17_1).drop n17_2).drop n17_3).drop n17_4).drop n5).drop n5_1).drop n5_2).drop n5_3).drop n5_4)⟩
            · subst hb
              refine wpo_skip rfl rfl rfl ?_
              refine wpo_skip rfl rfl rfl ?_
              refine wpo_mv (a := (eB false)) rfl rfl rfl (o_pick_f tk rfl rfl (Wk.refl _)) ?_
              refine wpo_mv (a := (eB false)) rfl rfl rfl (o_mv tk rfl (Wk.refl _)) ?_
              refine wpo_skip rfl rfl rfl ?_
              refine wpo_skip rfl rfl rfl ?_
              refine wpo_mv (a := (eB false)) rfl rfl rfl (o_pick_f tk rfl rfl (Wk.refl _)) ?_
              refine wpo_mv (a := (eB false)) rfl rfl rfl (o_mv tk rfl (Wk.refl _)) ?_
              refine wpo_skip rfl rfl rfl ?_
              refine wpo_skip rfl rfl rfl ?_
              refine wpo_mv (a := (eB false)) rfl rfl rfl (o_pick_f tk rfl rfl (Wk.refl _)) ?_
              refine wpo_mv (a := (eB false)) rfl rfl rfl (o_mv tk rfl (Wk.refl _)) ?_
              refine wpo_skip rfl rfl rfl ?_
              refine wpo_skip rfl rfl rfl ?_
              refine wpo_skip rfl rfl rfl ?_
              refine wpo_mv (a := (eB false)) rfl rfl rfl (o_pick_f tk rfl rfl (Wk.refl _)) ?_
              refine wpo_mv (a := (eB false)) rfl rfl rfl (o_mv tk rfl (Wk.refl _)) ?_
              refine wpo_skip rfl rfl rfl ?_
              refine wpo_skip rfl rfl rfl ?_
              refine wpo_skip rfl rfl rfl ?_
              refine wpo_skip rfl rfl rfl ?_
              refine wpo_mv (a := (eB false)) rfl rfl rfl (o_pick_f tk rfl rfl (Wk.refl _)) ?_
              refine wpo_mv (a := (eB false)) rfl rfl rfl (o_mv tk rfl (Wk.refl _)) ?_
              refine wpo_skip rfl rfl rfl ?_
              refine wpo_skip rfl rfl rfl ?_
              refine wpo_skip rfl rfl rfl ?_
              refine wpo_mv (a := (eB false)) rfl rfl rfl (o_pick_f tk rfl rfl (Wk.refl _)) ?_
              refine wpo_mv (a := (eB false)) rfl rfl rfl (o_mv tk rfl (Wk.refl _)) ?_
              refine wpo_skip rfl rfl rfl ?_
              refine wpo_skip rfl rfl rfl ?_
              refine wpo_skip rfl rfl rfl ?_
              refine wpo_mv (a := (eB false)) rfl rfl rfl (o_pick_f tk rfl rfl (Wk.refl _)) ?_
              refine wpo_mv (a := (eB false)) rfl rfl rfl (o_mv tk rfl (Wk.refl _)) ?_
              refine wpo_skip rfl rfl rfl ?_
              refine wpo_skip rfl rfl rfl ?_
              refine wpo_skip rfl rfl rfl ?_
              refine wpo_mv (a := (eB false)) rfl rfl rfl (o_pick_f tk rfl rfl (Wk.refl _)) ?_
              refine wpo_mv (a := (eB false)) rfl rfl rfl (o_mv tk rfl (Wk.refl _)) ?_
              refine wpo_skip rfl rfl rfl ?_
              refine wpo_skip rfl rfl rfl ?_
              refine wpo_skip rfl rfl rfl ?_
              refine wpo_mv (a := (eB false)) rfl rfl rfl (o_pick_f tk rfl rfl (Wk.refl _)) ?_
              refine wpo_mv (a := (eB false)) rfl rfl rfl (o_mv tk rfl (Wk.refl _)) ?_
              refine wpo_skip rfl rfl rfl ?_
              refine wpo_skip rfl rfl rfl ?_
              refine wpo_mv (a := (eB false)) rfl rfl rfl (o_pick_f tk rfl rfl (Wk.refl _)) ?_
              refine wpo_mv (a := (eB false)) rfl rfl rfl (o_as tk rfl (Wk.refl _)) ?_
              refine wpo_nil ?_
              refine awp_ret ?_
              obtain rfl := Option.some.inj H103
              exact ⟨_, (eB false), rfl, (.of_eq rfl), .of_eq ((enc_b td4 sz4).cut _ _ _), ((((((((((hH.noT.drop n17).drop n17_1).drop n17_2).drop n17_3).drop n17_4).drop n5).drop n5_1).drop n5_2).drop n5_3).drop n5_4)⟩
          · subst hb
            refine wpo_skip rfl rfl rfl ?_
            refine wpo_skip rfl rfl rfl ?_
            refine wpo_mv (a := (eB false)) rfl rfl rfl (o_pick_f tk rfl rfl (Wk.refl _)) ?_
            refine wpo_mv (a := (eB false)) rfl rfl rfl (o_mv tk rfl (Wk.refl _)) ?_
            refine wpo_skip rfl rfl rfl ?_
            refine wpo_skip rfl rfl rfl ?_
            refine wpo_mv (a := (eB false)) rfl rfl rfl (o_pick_f tk rfl rfl (Wk.refl _)) ?_
            refine wpo_mv (a := (eB false)) rfl rfl rfl (o_mv tk rfl (Wk.refl _)) ?_
            refine wpo_skip rfl rfl rfl ?_
            refine wpo_skip rfl rfl rfl ?_
            refine wpo_mv (a := (eB false)) rfl rfl rfl (o_pick_f tk rfl rfl (Wk.refl _)) ?_
            refine wpo_mv (a := (eB false)) rfl rfl rfl (o_mv tk rfl (Wk.refl _)) ?_
            refine wpo_skip rfl rfl rfl ?_
            refine wpo_skip rfl rfl rfl ?_
            refine wpo_mv (a := (eB false)) rfl rfl rfl (o_pick_f tk rfl rfl (Wk.refl _)) ?_
            refine wpo_mv (a := (eB false)) rfl rfl rfl (o_mv tk rfl (Wk.refl _)) ?_
            refine wpo_skip rfl rfl rfl ?_
            refine wpo_skip rfl rfl rfl ?_
            refine wpo_skip rfl rfl rfl ?_
            refine wpo_mv (a := (eB false)) rfl rfl rfl (o_pick_f tk rfl rfl (Wk.refl _)) ?_
            refine wpo_mv (a := (eB false)) rfl rfl rfl (o_mv tk rfl (Wk.refl _)) ?_
            refine wpo_skip rfl rfl rfl ?_
            refine wpo_skip rfl rfl rfl ?_
            refine wpo_skip rfl rfl rfl ?_
            refine wpo_skip rfl rfl rfl ?_
            refine wpo_mv (a := (eB false)) rfl rfl rfl (o_pick_f tk rfl rfl (Wk.refl _)) ?_
            refine wpo_mv (a := (eB false)) rfl rfl rfl (o_mv tk rfl (Wk.refl _)) ?_
            refine wpo_skip rfl rfl rfl ?_
            refine wpo_skip rfl rfl rfl ?_
            refine wpo_skip rfl rfl rfl ?_
            refine wpo_mv (a := (eB false)) rfl rfl rfl (o_pick_f tk rfl rfl (Wk.refl _)) ?_
            refine wpo_mv (a := (eB false)) rfl rfl rfl (o_mv tk rfl (Wk.refl _)) ?_
            refine wpo_skip rfl rfl rfl ?_
            refine wpo_skip rfl rfl rfl ?_
            refine wpo_skip rfl rfl rfl ?_
            refine wpo_mv (a := (eB false)) rfl rfl rfl (o_pick_f tk rfl rfl (Wk.refl _)) ?_
            refine wpo_mv (a := (eB false)) rfl rfl rfl (o_mv tk rfl (Wk.refl _)) ?_
            refine wpo_skip rfl rfl rfl ?_
            refine wpo_skip rfl rfl rfl ?_
            refine wpo_skip rfl rfl rfl ?_
            refine wpo_mv (a := (eB false)) rfl rfl rfl (o_pick_f tk rfl rfl (Wk.refl _)) ?_
            refine wpo_mv (a := (eB false)) rfl rfl rfl (o_mv tk rfl (Wk.refl _)) ?_
            refine wpo_skip rfl rfl rfl ?_
            refine wpo_skip rfl rfl rfl ?_
            refine wpo_skip rfl rfl rfl ?_
            refine wpo_mv (a := (eB false)) rfl rfl rfl (o_pick_f tk rfl rfl (Wk.refl _)) ?_
            refine wpo_mv (a := (eB false)) rfl rfl rfl (o_mv tk rfl (Wk.refl _)) ?_
            refine wpo_skip rfl rfl rfl ?_
            refine wpo_skip rfl rfl rfl ?_
            refine wpo_mv (a := (eB false)) rfl rfl rfl (o_pick_f tk rfl rfl (Wk.refl _)) ?_
            refine wpo_mv (a := (eB false)) rfl rfl rfl (o_as tk rfl (Wk.refl _)) ?_
            refine wpo_nil ?_
            refine awp_ret ?_
            obtain rfl := Option.some.inj H100
            exact ⟨_, (eB false), rfl, (.of_eq rfl), .of_eq ((enc_b td4 sz4).cut _ _ _), ((((((((((hH.noT.drop n17).drop n17_1).drop n17_2).drop n17_3).drop n17_4).drop n5).drop n5_1).drop n5_2).drop n5_3).drop n5_4)⟩
        · subst hb
          refine wpo_skip rfl rfl rfl ?_
          refine wpo_skip rfl rfl rfl ?_
          refine wpo_mv (a := (eB false)) rfl rfl rfl (o_pick_f tk rfl rfl (Wk.refl _)) ?_
          refine wpo_mv (a := (eB false)) rfl rfl rfl (o_mv tk rfl (Wk.refl _)) ?_
          refine wpo_skip rfl rfl rfl ?_
          refine wpo_skip rfl rfl rfl ?_
          refine wpo_mv (a := (eB false)) rfl rfl rfl (o_pick_f tk rfl rfl (Wk.refl _)) ?_
          refine wpo_mv (a := (eB false)) rfl rfl rfl (o_mv tk rfl (Wk.refl _)) ?_
          refine wpo_skip rfl rfl rfl ?_
          refine wpo_skip rfl rfl rfl ?_
          refine wpo_mv (a := (eB false)) rfl rfl rfl (o_pick_f tk rfl rfl (Wk.refl _)) ?_
          refine wpo_mv (a := (eB false)) rfl rfl rfl (o_mv tk rfl (Wk.refl _)) ?_
          refine wpo_skip rfl rfl rfl ?_
          refine wpo_skip rfl rfl rfl ?_
          refine wpo_mv (a := (eB false)) rfl rfl rfl (o_pick_f tk rfl rfl (Wk.refl _)) ?_
          refine wpo_mv (a := (eB false)) rfl rfl rfl (o_mv tk rfl (Wk.refl _)) ?_
          refine wpo_skip rfl rfl rfl ?_
          refine wpo_skip rfl rfl rfl ?_
          refine wpo_mv (a := (eB false)) rfl rfl rfl (o_pick_f tk rfl rfl (Wk.refl _)) ?_
          refine wpo_mv (a := (eB false)) rfl rfl rfl (o_mv tk rfl (Wk.refl _)) ?_
          refine wpo_skip rfl rfl rfl ?_
          refine wpo_skip rfl rfl rfl ?_
          refine wpo_skip rfl rfl rfl ?_
          refine wpo_mv (a := (eB false)) rfl rfl rfl (o_pick_f tk rfl rfl (Wk.refl _)) ?_
          refine wpo_mv (a := (eB false)) rfl rfl rfl (o_mv tk rfl (Wk.refl _)) ?_
          refine wpo_skip rfl rfl rfl ?_
          refine wpo_skip rfl rfl rfl ?_
          refine wpo_skip rfl rfl rfl ?_
          refine wpo_skip rfl rfl rfl ?_
          refine wpo_mv (a := (eB false)) rfl rfl rfl (o_pick_f tk rfl rfl (Wk.refl _)) ?_
          refine wpo_mv (a := (eB false)) rfl rfl rfl (o_mv tk rfl (Wk.refl _)) ?_
          refine wpo_skip rfl rfl rfl ?_
          refine wpo_skip rfl rfl rfl ?_
          refine wpo_skip rfl rfl rfl ?_
          refine wpo_mv (a := (eB false)) rfl rfl rfl (o_pick_f tk rfl rfl (Wk.refl _)) ?_
          refine wpo_mv (a := (eB false)) rfl rfl rfl (o_mv tk rfl (Wk.refl _)) ?_
          refine wpo_skip rfl rfl rfl ?_
          refine wpo_skip rfl rfl rfl ?_
          refine wpo_skip rfl rfl rfl ?_
          refine wpo_mv (a := (eB false)) rfl rfl rfl (o_pick_f tk rfl rfl (Wk.refl _)) ?_
          refine wpo_mv (a := (eB false)) rfl rfl rfl (o_mv tk rfl (Wk.refl _)) ?_
          refine wpo_skip rfl rfl rfl ?_
          refine wpo_skip rfl rfl rfl ?_
          refine wpo_skip rfl rfl rfl ?_
          refine wpo_mv (a := (eB false)) rfl rfl rfl (o_pick_f tk rfl rfl (Wk.refl _)) ?_
          refine wpo_mv (a := (eB false)) rfl rfl rfl (o_mv tk rfl (Wk.refl _)) ?_
          refine wpo_skip rfl rfl rfl ?_
          refine wpo_skip rfl rfl rfl ?_
          refine wpo_skip rfl rfl rfl ?_
          refine wpo_mv (a := (eB false)) rfl rfl rfl (o_pick_f tk rfl rfl (Wk.refl _)) ?_
          refine wpo_mv (a := (eB false)) rfl rfl rfl (o_mv tk rfl (Wk.refl _)) ?_
          refine wpo_skip rfl rfl rfl ?_
          refine wpo_skip rfl rfl rfl ?_
          refine wpo_mv (a := (eB false)) rfl rfl rfl (o_pick_f tk rfl rfl (Wk.refl _)) ?_
          refine wpo_mv (a := (eB false)) rfl rfl rfl (o_as tk rfl (Wk.refl _)) ?_
          refine wpo_nil ?_
          refine awp_ret ?_
          obtain rfl := Option.some.inj H97
          exact ⟨_, (eB false), rfl, (.of_eq rfl), .of_eq ((enc_b td4 sz4).cut _ _ _), ((((((((((hH.noT.drop n17).drop n17_1).drop n17_2).drop n17_3).drop n17_4).drop n5).drop n5_1).drop n5_2).drop n5_3).drop n5_4)⟩
end Go.Proofs.YtobbifgmjkgkfaaDoor
namespace Go.Proofs.YtobbifgmjkgkfaaDoor
open Go Go.Va
set_option linter.unusedVariables false
set_option linter.unusedSimpArgs false
set_option maxRecDepth 20000
theorem butterylaw09_ListsSound_ok {x0 : BitVec 8} {x1 : BitVec 8} {x2 : List butterylaw09_Op} {r : Bool} (H : butterylaw09_ListsSound x0 x1 x2 = some r) (σ : St)  (hg : σ.gl = gls) : ACall Tryd.prog 6 [((@eU .u8 8) x0), ((@eU .u8 8) x1), ((eL 2 e_butterylaw09_Op) x2)] σ (fun a τ => a = eB r ∧ τ = σ) := by
  unfold butterylaw09_ListsSound at H
  refine ACall.pure (acall_start tk Tryd.func6 (by decide) rfl (Nat.le_of_ble_eq_true rfl) ?_)
  have hH := Holds.init σ
  refine awp_seq ?_
  refine awp_region rfl ?_
  refine wpo_mv (a := (eB false)) rfl rfl rfl (o_as tk rfl (Wk.refl _)) ?_
  refine wpo_nil ?_
  refine awp_seq ?_
  refine awp_seq ?_
  refine awp_region rfl ?_
  refine wpo_mv (a := ((eL 2 e_butterylaw09_Op) x2)) rfl rfl rfl (o_mv tk rfl (Wk.refl _)) ?_
  refine wpo_lt H eI rfl rfl rfl (o_len tk td57 rfl) fun v2 H1 => ?_
  refine wpo_lt H1 eB rfl rfl rfl (o_ar tk rfl rfl rfl) fun v4 H3 => ?_
  refine wpo_nil ?_
  refine awp_if H3 rfl (fun H5 => ?_) (fun H5 => ?_)
  · refine awp_seq ?_
    refine awp_region rfl ?_
    refine wpo_bdr H5 eB rfl rfl rfl (fun v7 hv => h_callr rfl rfl .nil (butterylaw09_works_ok hv _ (hH.gl.trans hg))) fun v7 hv7 H6 => ?_
    refine wpo_mv (a := (eB v7)) rfl rfl rfl (o_as tk rfl (Wk.refl _)) ?_
    refine wpo_nil ?_
    refine awp_ret ?_
    obtain rfl := Option.some.inj H6
    exact ⟨_, (eB v7), rfl, (.of_eq rfl), .of_eq ((enc_b td4 sz4).cut _ _ _), hH.noT⟩
  · refine awp_skip ?_
    refine awp_seq ?_
    refine awp_region rfl ?_
    refine wpo_mv (a := ((@eU .u8 8) x0)) rfl rfl rfl (o_mv tk rfl (Wk.refl _)) ?_
    refine wpo_lt H5 eI rfl rfl rfl (o_cv_ui tk td5 td3 (by decide) rfl) fun v9 H8 => ?_
    refine wpo_lt H8 eI rfl rfl rfl (o_rem tk (z := (5 : Int)) rfl rfl rfl) fun v11 H10 => ?_
    refine wpo_lt H10 eI rfl rfl rfl (o_ar tk rfl rfl rfl) fun v13 H12 => ?_
    refine wpo_mv (a := ((@eU .u8 8) x1)) rfl rfl rfl (o_mv tk rfl (Wk.refl _)) ?_
    refine wpo_lt H12 eI rfl rfl rfl (o_cv_ui tk td5 td3 (by decide) rfl) fun v15 H14 => ?_
    refine wpo_lt H14 eI rfl rfl rfl (o_rem tk (z := (30 : Int)) rfl rfl rfl) fun v17 H16 => ?_
    refine wpo_lt H16 eI rfl rfl rfl (o_ar tk rfl rfl rfl) fun v19 H18 => ?_
    obtain ⟨v21, hvv21, H20⟩ := Option.bind_eq_some_iff.1 H18
    rcases hz25 : v21.1 with _ | c22
    · rw [hz25, Option.elim_none] at H20
      refine wpo_a (av := fun _ => .tup [.nilp, (eErr v21.2)]) rfl rfl rfl (h_callnb0 hH hz25 rfl rfl (.cons (.of_eq rfl) (.cons (.of_eq rfl) .nil)) (lists_New_ok hvv21 _)) fun _ τ hH => ?_
      refine wpo_mv (a := (.tup [.nilp, (eErr v21.2)])) rfl rfl rfl (o_mv tk rfl (Wk.refl _)) ?_
      refine wpo_mv (a := .nilp) rfl rfl rfl (o_ext tk rfl rfl) ?_
      refine wpo_mv (a := (eErr v21.2)) rfl rfl rfl (o_ext tk rfl rfl) ?_
      refine wpo_mv (a := .nilp) rfl rfl rfl (o_as tk rfl (Wk.refl _)) ?_
      refine wpo_mv (a := (eErr v21.2)) rfl rfl rfl (o_as tk rfl (Wk.refl _)) ?_
      refine wpo_nil ?_
      refine awp_seq ?_
      refine awp_seq ?_
      obtain ⟨s26, hs28, hj29⟩ := Option.bind_eq_some_iff.1 H20
      refine awp_cutn (fun fr τ => WkF fr (fm [(2, ((eL 2 e_butterylaw09_Op) x2)), (7, .nilp), (31, (eB true))]) ∧ Holds σ [] [] τ) ?_ ?_
      · rintro fr τ ⟨hfr, hH⟩
        have H33 := hj29
        refine AWP.fm [(2, ((eL 2 e_butterylaw09_Op) x2)), (7, .nilp), (31, (eB true))] hfr ?_
        refine awp_true rfl ?_
        refine awp_seq ?_
        refine awp_region rfl ?_
        refine wpo_mv (a := (eB false)) rfl rfl rfl (o_as tk rfl (Wk.refl _)) ?_
        refine wpo_nil ?_
        refine awp_ret ?_
        obtain rfl := Option.some.inj H33
        exact ⟨_, (eB false), rfl, (.of_eq rfl), .of_eq ((enc_b td4 sz4).cut _ _ _), hH.noT⟩
      · refine awp_region rfl ?_
        refine wpo_mv (a := (eErr v21.2)) rfl rfl rfl (o_mv tk rfl (Wk.refl _)) ?_
        refine wpo_lt hs28 eB rfl rfl rfl (o_err_neq tk rfl rfl rfl) fun v31 H30 => ?_
        refine wpo_mv (a := (eB v31)) rfl rfl rfl (o_mv tk rfl (Wk.refl _)) ?_
        refine if_split H30 (fun hb H32 => ?_) (fun hb H32 => ?_)
        · subst hb
          refine wpo_skip rfl rfl rfl ?_
          refine wpo_skip rfl rfl rfl ?_
          refine wpo_mv (a := (eB true)) rfl rfl rfl (o_pick_t tk rfl rfl (Wk.refl _)) ?_
          refine wpo_nil ?_
          have e := Option.some.inj H32
          subst e
          exact ⟨(wkf_cons (.of_eq rfl) (wkf_cons (.of_eq rfl) (wkf_cons (.of_eq rfl) (wkf_nil _)))), hH⟩
        · subst hb
          refine wpo_mv (a := .nilp) rfl rfl rfl (o_mv tk rfl (Wk.refl _)) ?_
          refine wpo_mv (a := (eB true)) rfl rfl rfl (o_c tk false rfl (fun _ => rfl)) ?_
          refine wpo_mv (a := (eB true)) rfl rfl rfl (o_pick_f tk rfl rfl (Wk.refl _)) ?_
          refine wpo_nil ?_
          have e := Option.some.inj H32
          subst e
          exact ⟨(wkf_cons (.of_eq rfl) (wkf_cons (.of_eq rfl) (wkf_cons (.of_eq rfl) (wkf_nil _)))), hH⟩
    · rw [hz25, Option.elim_some] at H20
      refine wpo_a (av := fun id => .tup [.ref id 0, (eErr v21.2)]) rfl rfl rfl (h_callnb1 hH hz25 rfl rfl (.cons (.of_eq rfl) (.cons (.of_eq rfl) .nil)) (lists_New_ok hvv21 _)) fun id23 τ ⟨hH, n24⟩ => ?_
      obtain ⟨id23_nodes, h_id23_nodes⟩ : ∃ x, x = id23 + 1 := ⟨_, rfl⟩
      obtain ⟨id23_first_, h_id23_first_⟩ : ∃ x, x = id23 + 2 := ⟨_, rfl⟩
      obtain ⟨id23_last_, h_id23_last_⟩ : ∃ x, x = id23 + 3 := ⟨_, rfl⟩
      obtain ⟨id23_count, h_id23_count⟩ : ∃ x, x = id23 + 4 := ⟨_, rfl⟩
      have hH : Holds σ [(id23, [(.vec id23_nodes 4 (c22.nodes).length), (.vec id23_first_ 1 (c22.first_).length), (.vec id23_last_ 1 (c22.last_).length), (.vec id23_count 1 (c22.count).length), (eI c22.free), (eI c22.clock)]), (id23_nodes, (cL e_lists_link c22.nodes)), (id23_first_, (cL eI c22.first_)), (id23_last_, (cL eI c22.last_)), (id23_count, (cL eI c22.count))] [] τ := by rw [h_id23_nodes, h_id23_first_, h_id23_last_, h_id23_count]; exact hH
      have n24_1 : σ.objs.length ≤ id23_nodes := by omega
      have n24_2 : σ.objs.length ≤ id23_first_ := by omega
      have n24_3 : σ.objs.length ≤ id23_last_ := by omega
      have n24_4 : σ.objs.length ≤ id23_count := by omega
      refine wpo_mv (a := (.tup [(.ref id23 0), (eErr v21.2)])) rfl rfl rfl (o_mv tk rfl (Wk.refl _)) ?_
      refine wpo_mv (a := (.ref id23 0)) rfl rfl rfl (o_ext tk rfl rfl) ?_
      refine wpo_mv (a := (eErr v21.2)) rfl rfl rfl (o_ext tk rfl rfl) ?_
      refine wpo_mv (a := (.ref id23 0)) rfl rfl rfl (o_as tk rfl (Wk.refl _)) ?_
      refine wpo_mv (a := (eErr v21.2)) rfl rfl rfl (o_as tk rfl (Wk.refl _)) ?_
      refine wpo_nil ?_
      refine awp_seq ?_
      refine awp_seq ?_
      obtain ⟨s34, hs36, hj37⟩ := Option.bind_eq_some_iff.1 H20
      refine awp_cutn (fun fr τ => WkF fr (fm [(2, ((eL 2 e_butterylaw09_Op) x2)), (7, (.ref id23 0)), (31, (eB s34))]) ∧ Holds σ [(id23, [(.vec id23_nodes 4 (c22.nodes).length), (.vec id23_first_ 1 (c22.first_).length), (.vec id23_last_ 1 (c22.last_).length), (.vec id23_count 1 (c22.count).length), (eI c22.free), (eI c22.clock)]), (id23_nodes, (cL e_lists_link c22.nodes)), (id23_first_, (cL eI c22.first_)), (id23_last_, (cL eI c22.last_)), (id23_count, (cL eI c22.count))] [] τ) ?_ ?_
      · rintro fr τ ⟨hfr, hH⟩
        have H41 := hj37
        refine AWP.fm [(2, ((eL 2 e_butterylaw09_Op) x2)), (7, (.ref id23 0)), (31, (eB s34))] hfr ?_
        refine awp_if H41 rfl (fun H42 => ?_) (fun H42 => ?_)
        · refine awp_seq ?_
          refine awp_region rfl ?_
          refine wpo_mv (a := (eB false)) rfl rfl rfl (o_as tk rfl (Wk.refl _)) ?_
          refine wpo_nil ?_
          refine awp_ret ?_
          obtain rfl := Option.some.inj H42
          exact ⟨_, (eB false), rfl, (.of_eq rfl), .of_eq ((enc_b td4 sz4).cut _ _ _), (((((hH.noT.drop n24).drop n24_1).drop n24_2).drop n24_3).drop n24_4)⟩
        · refine awp_skip ?_
          refine awp_seq ?_
          refine awp_seq ?_
          refine awp_region rfl ?_
          refine wpo_mv (a := (eI (0 : Int))) rfl rfl rfl (o_as tk rfl (Wk.refl _)) ?_
          refine wpo_nil ?_
          refine awp_block ?_
          obtain ⟨o49, hs50, hj51⟩ := Option.bind_eq_some_iff.1 H42
          refine awp_cutx 0 (fun fr τ => ∃ s56 : lists_Lists × (List lists_link) × (List Int) × (List Int) × (List Int), o49 = .inl s56 ∧ WkF fr (fm []) ∧ Holds σ [(id23, [(.vec id23_nodes 4 (s56.2.1).length), (.vec id23_first_ 1 (s56.2.2.1).length), (.vec id23_last_ 1 (s56.2.2.2.1).length), (.vec id23_count 1 (s56.2.2.2.2).length), (eI s56.1.free), (eI s56.1.clock)]), (id23_nodes, (cL e_lists_link s56.2.1)), (id23_first_, (cL eI s56.2.2.1)), (id23_last_, (cL eI s56.2.2.2.1)), (id23_count, (cL eI s56.2.2.2.2))] [] τ) ?_ ?_
          · rintro fr τ ⟨s56, rfl, hfr, hH⟩
            have H99 := hj51
            simp only [Sum.elim_inl] at H99
            refine AWP.fm [] hfr ?_
            refine awp_seq ?_
            refine awp_region rfl ?_
            refine wpo_bdr H99 eB rfl rfl rfl (fun v101 hv => h_callr rfl rfl .nil (butterylaw09_works_ok hv _ (hH.gl.trans hg))) fun v101 hv101 H100 => ?_
            refine wpo_mv (a := (eB v101)) rfl rfl rfl (o_as tk rfl (Wk.refl _)) ?_
            refine wpo_nil ?_
            refine awp_ret ?_
            obtain rfl := Option.some.inj H100
            exact ⟨_, (eB v101), rfl, (.of_eq rfl), .of_eq ((enc_b td4 sz4).cut _ _ _), (((((hH.noT.drop n24).drop n24_1).drop n24_2).drop n24_3).drop n24_4)⟩
          · refine awp_loopO (body := fun s => butterylaw09_ListsSound_b0 x2 s.1 s.2.1 s.2.2.1 s.2.2.2.1 s.2.2.2.2.1 s.2.2.2.2.2) hs50 (fun (s : Int × lists_Lists × (List lists_link) × (List Int) × (List Int) × (List Int)) fr τ => WkF fr (fm [(2, ((eL 2 e_butterylaw09_Op) x2)), (7, (.ref id23 0)), (9, (eI s.1))]) ∧ Holds σ [(id23, [(.vec id23_nodes 4 (s.2.2.1).length), (.vec id23_first_ 1 (s.2.2.2.1).length), (.vec id23_last_ 1 (s.2.2.2.2.1).length), (.vec id23_count 1 (s.2.2.2.2.2).length), (eI s.2.1.free), (eI s.2.1.clock)]), (id23_nodes, (cL e_lists_link s.2.2.1)), (id23_first_, (cL eI s.2.2.2.1)), (id23_last_, (cL eI s.2.2.2.2.1)), (id23_count, (cL eI s.2.2.2.2.2))] [] τ) ⟨(wkf_cons (.of_eq rfl) (wkf_cons (.of_eq rfl) (wkf_cons (.of_eq rfl) (wkf_nil _)))), hH⟩ ?_
            rintro ⟨c43, c44, c45, c46, c47, c48⟩ fr τ y52 ⟨hfr, hH⟩ hb54 hy55
            have H57 : butterylaw09_ListsSound_b0 x2 c43 c44 c45 c46 c47 c48 = some y52 := hb54
            unfold butterylaw09_ListsSound_b0 at H57
            refine AWP.fm [(2, ((eL 2 e_butterylaw09_Op) x2)), (7, (.ref id23 0)), (9, (eI c43))] hfr ?_
            have hH : Holds σ [(id23, [(.vec id23_nodes 4 (c45).length), (.vec id23_first_ 1 (c46).length), (.vec id23_last_ 1 (c47).length), (.vec id23_count 1 (c48).length), (eI c44.free), (eI c44.clock)]), (id23_nodes, (cL e_lists_link c45)), (id23_first_, (cL eI c46)), (id23_last_, (cL eI c47)), (id23_count, (cL eI c48))] [] τ := hH
            refine awp_seq ?_
            refine awp_seq ?_
            refine awp_region rfl ?_
            refine wpo_mv (a := (eI c43)) rfl rfl rfl (o_mv tk rfl (Wk.refl _)) ?_
            refine wpo_mv (a := ((eL 2 e_butterylaw09_Op) x2)) rfl rfl rfl (o_mv tk rfl (Wk.refl _)) ?_
            refine wpo_lt H57 eI rfl rfl rfl (o_len tk td57 rfl) fun v59 H58 => ?_
            refine wpo_lt H58 eB rfl rfl rfl (o_ar tk rfl rfl rfl) fun v61 H60 => ?_
            refine wpo_nil ?_
            refine awp_if H60 rfl (fun H62 => ?_) (fun H62 => ?_)
            · refine awp_skip ?_
              refine awp_seq ?_
              refine awp_block ?_
              refine awp_seq ?_
              refine awp_seq ?_
              refine awp_region rfl ?_
              refine wpo_mv (a := ((eL 2 e_butterylaw09_Op) x2)) rfl rfl rfl (o_mv tk rfl (Wk.refl _)) ?_
              refine wpo_mv (a := (eI c43)) rfl rfl rfl (o_mv tk rfl (Wk.refl _)) ?_
              refine wpo_bd H62 (fun y => .fptr (e_butterylaw09_Op y).cells 0) rfl rfl rfl (fun v64 hv => o_ixa tk hv td57 enc70 rfl rfl) fun v64 hv64 H63 => ?_
              refine wpo_mv (a := (.fptr (c_butterylaw09_Op v64) 0)) rfl rfl rfl (o_c tk false rfl (fun _ => rfl)) ?_
              refine wpo_mv (a := (eI v64.Kind)) rfl rfl rfl (o_ld tk rfl rfl) ?_
              refine wpo_nil ?_
              refine awp_block ?_
              refine awp_seq ?_
              refine awp_region rfl ?_
              refine wpo_lt H63 eB rfl rfl rfl (o_ar tk rfl rfl rfl) fun v66 H65 => ?_
              refine wpo_mv (a := (eB v66)) rfl rfl rfl (o_as tk rfl (Wk.refl _)) ?_
              refine wpo_nil ?_
              obtain ⟨s67, hs69, hj70⟩ := Option.bind_eq_some_iff.1 H65
              refine awp_cutn (fun fr τ => WkF fr (fm [(2, ((eL 2 e_butterylaw09_Op) x2)), (7, (.ref id23 0)), (9, (eI c43))]) ∧ Holds σ [(id23, [(.vec id23_nodes 4 (s67.2.1).length), (.vec id23_first_ 1 (s67.2.2.1).length), (.vec id23_last_ 1 (s67.2.2.2.1).length), (.vec id23_count 1 (s67.2.2.2.2).length), (eI s67.1.free), (eI s67.1.clock)]), (id23_nodes, (cL e_lists_link s67.2.1)), (id23_first_, (cL eI s67.2.2.1)), (id23_last_, (cL eI s67.2.2.2.1)), (id23_count, (cL eI s67.2.2.2.2))] [] τ) ?_ ?_
              · rintro fr τ ⟨hfr, hH⟩
                have H90 := hj70
                refine AWP.fm [(2, ((eL 2 e_butterylaw09_Op) x2)), (7, (.ref id23 0)), (9, (eI c43))] hfr ?_
                refine awp_seq ?_
                refine awp_region rfl ?_
                refine wpo_mv (a := (.ref id23 0)) rfl rfl rfl (o_mv tk rfl (Wk.refl _)) ?_
                refine wpo_bdr H90 eB rfl rfl rfl (fun v92 hv => h_callr rfl rfl (.cons (.of_eq rfl) .nil) (lists_Lists_Sound_ok hv _ (hH.at_ 0 rfl) (hH.at_ 1 rfl) (hH.at_ 2 rfl) (hH.at_ 3 rfl) (hH.at_ 4 rfl) (hH.pw [0, 1, 2, 3, 4] rfl (by decide)))) fun v92 hv92 H91 => ?_
                refine wpo_lt H91 eB rfl rfl rfl (o_un tk rfl rfl) fun v94 H93 => ?_
                refine wpo_nil ?_
                refine awp_if H93 rfl (fun H95 => ?_) (fun H95 => ?_)
                · refine awp_seq ?_
                  refine awp_region rfl ?_
                  refine wpo_mv (a := (eB false)) rfl rfl rfl (o_as tk rfl (Wk.refl _)) ?_
                  refine wpo_nil ?_
                  refine awp_ret ?_
                  have hz := hy55 _ (inj_inr H95)
                  refine ⟨⟨_, inj_inr H95⟩, ?_⟩
                  rw [← hz] at hj51
                  have H96 := (show some _ = some _ from hj51)
                  obtain rfl := Option.some.inj H96
                  exact ⟨_, (eB false), rfl, (.of_eq rfl), .of_eq ((enc_b td4 sz4).cut _ _ _), (((((hH.noT.drop n24).drop n24_1).drop n24_2).drop n24_3).drop n24_4)⟩
                · refine awp_skip ?_
                  refine awp_region rfl ?_
                  refine wpo_mv (a := (eI c43)) rfl rfl rfl (o_mv tk rfl (Wk.refl _)) ?_
                  refine wpo_lt H95 eI rfl rfl rfl (o_ar tk rfl rfl rfl) fun v98 H97 => ?_
                  refine wpo_mv (a := (eI v98)) rfl rfl rfl (o_as tk rfl (Wk.refl _)) ?_
                  refine wpo_nil ?_
                  exact ⟨(v98, s67.1, s67.2.1, s67.2.2.1, s67.2.2.2.1, s67.2.2.2.2), inj_inl H97, (wkf_cons (.of_eq rfl) (wkf_cons (.of_eq rfl) (wkf_cons (.of_eq rfl) (wkf_nil _)))), hH⟩
              · refine awp_if hs69 rfl (fun H71 => ?_) (fun H71 => ?_)
                · refine awp_region rfl ?_
                  refine wpo_mv (a := (.ref id23 0)) rfl rfl rfl (o_mv tk rfl (Wk.refl _)) ?_
                  refine wpo_mv (a := ((eL 2 e_butterylaw09_Op) x2)) rfl rfl rfl (o_mv tk rfl (Wk.refl _)) ?_
                  refine wpo_mv (a := (eI c43)) rfl rfl rfl (o_mv tk rfl (Wk.refl _)) ?_
                  refine wpo_bd H71 (fun y => .fptr (e_butterylaw09_Op y).cells 0) rfl rfl rfl (fun v73 hv => o_ixa tk hv td57 enc70 rfl rfl) fun v73 hv73 H72 => ?_
                  refine wpo_mv (a := (.fptr (c_butterylaw09_Op v73) 1)) rfl rfl rfl (o_c tk false rfl (fun _ => rfl)) ?_
                  refine wpo_mv (a := (eI v73.At)) rfl rfl rfl (o_ld tk rfl rfl) ?_
                  refine wpo_cb H72 (fun x _ => .tup [eI x.1, eErr x.2.1]) rfl rfl rfl (fun v75 hv => h_call1 hH [(0, (id23, [(.vec id23_nodes 4 (v75.2.2.nodes).length), (.vec id23_first_ 1 (v75.2.2.first_).length), (.vec id23_last_ 1 (v75.2.2.last_).length), (.vec id23_count 1 (v75.2.2.count).length), (eI v75.2.2.free), (eI v75.2.2.clock)])), (1, (id23_nodes, (cL e_lists_link v75.2.2.nodes))), (2, (id23_first_, (cL eI v75.2.2.first_))), (3, (id23_last_, (cL eI v75.2.2.last_))), (4, (id23_count, (cL eI v75.2.2.count)))] ⟨⟨_, rfl⟩, ⟨⟨_, rfl⟩, ⟨⟨_, rfl⟩, ⟨⟨_, rfl⟩, ⟨⟨_, rfl⟩, trivial⟩⟩⟩⟩⟩ rfl rfl (.cons (.of_eq rfl) (.cons (.of_eq rfl) .nil)) (lists_Lists_Add_ok hv _ (hH.at_ 0 rfl) (hH.at_ 1 rfl) (hH.at_ 2 rfl) (hH.at_ 3 rfl) (hH.at_ 4 rfl) (hH.pw [0, 1, 2, 3, 4] rfl (by decide)))) fun v75 _ τ hv75 H74 (hH : Holds σ [(id23, [(.vec id23_nodes 4 (v75.2.2.nodes).length), (.vec id23_first_ 1 (v75.2.2.first_).length), (.vec id23_last_ 1 (v75.2.2.last_).length), (.vec id23_count 1 (v75.2.2.count).length), (eI v75.2.2.free), (eI v75.2.2.clock)]), (id23_nodes, (cL e_lists_link v75.2.2.nodes)), (id23_first_, (cL eI v75.2.2.first_)), (id23_last_, (cL eI v75.2.2.last_)), (id23_count, (cL eI v75.2.2.count))] [] τ) => ?_
                  refine wpo_nil ?_
                  have e := Option.some.inj H74
                  subst e
                  exact ⟨(wkf_cons (.of_eq rfl) (wkf_cons (.of_eq rfl) (wkf_cons (.of_eq rfl) (wkf_nil _)))), hH⟩
                · refine awp_seq ?_
                  refine awp_region rfl ?_
                  refine wpo_lt H71 eB rfl rfl rfl (o_ar tk rfl rfl rfl) fun v77 H76 => ?_
                  refine wpo_mv (a := (eB v77)) rfl rfl rfl (o_as tk rfl (Wk.refl _)) ?_
                  refine wpo_nil ?_
                  refine awp_if H76 rfl (fun H78 => ?_) (fun H78 => ?_)
                  · refine awp_region rfl ?_
                    refine wpo_mv (a := (.ref id23 0)) rfl rfl rfl (o_mv tk rfl (Wk.refl _)) ?_
                    refine wpo_mv (a := ((eL 2 e_butterylaw09_Op) x2)) rfl rfl rfl (o_mv tk rfl (Wk.refl _)) ?_
                    refine wpo_mv (a := (eI c43)) rfl rfl rfl (o_mv tk rfl (Wk.refl _)) ?_
                    refine wpo_bd H78 (fun y => .fptr (e_butterylaw09_Op y).cells 0) rfl rfl rfl (fun v80 hv => o_ixa tk hv td57 enc70 rfl rfl) fun v80 hv80 H79 => ?_
                    refine wpo_mv (a := (.fptr (c_butterylaw09_Op v80) 1)) rfl rfl rfl (o_c tk false rfl (fun _ => rfl)) ?_
                    refine wpo_mv (a := (eI v80.At)) rfl rfl rfl (o_ld tk rfl rfl) ?_
                    refine wpo_cb H79 (fun x _ => eErr x.1) rfl rfl rfl (fun v82 hv => h_call1 hH [(0, (id23, [(.vec id23_nodes 4 (v82.2.nodes).length), (.vec id23_first_ 1 (v82.2.first_).length), (.vec id23_last_ 1 (v82.2.last_).length), (.vec id23_count 1 (v82.2.count).length), (eI v82.2.free), (eI v82.2.clock)])), (1, (id23_nodes, (cL e_lists_link v82.2.nodes))), (2, (id23_first_, (cL eI v82.2.first_))), (3, (id23_last_, (cL eI v82.2.last_))), (4, (id23_count, (cL eI v82.2.count)))] ⟨⟨_, rfl⟩, ⟨⟨_, rfl⟩, ⟨⟨_, rfl⟩, ⟨⟨_, rfl⟩, ⟨⟨_, rfl⟩, trivial⟩⟩⟩⟩⟩ rfl rfl (.cons (.of_eq rfl) (.cons (.of_eq rfl) .nil)) (lists_Lists_Drop_ok hv _ (hH.at_ 0 rfl) (hH.at_ 1 rfl) (hH.at_ 2 rfl) (hH.at_ 3 rfl) (hH.at_ 4 rfl) (hH.pw [0, 1, 2, 3, 4] rfl (by decide)))) fun v82 _ τ hv82 H81 (hH : Holds σ [(id23, [(.vec id23_nodes 4 (v82.2.nodes).length), (.vec id23_first_ 1 (v82.2.first_).length), (.vec id23_last_ 1 (v82.2.last_).length), (.vec id23_count 1 (v82.2.count).length), (eI v82.2.free), (eI v82.2.clock)]), (id23_nodes, (cL e_lists_link v82.2.nodes)), (id23_first_, (cL eI v82.2.first_)), (id23_last_, (cL eI v82.2.last_)), (id23_count, (cL eI v82.2.count))] [] τ) => ?_
                    refine wpo_nil ?_
                    have e := Option.some.inj H81
                    subst e
                    exact ⟨(wkf_cons (.of_eq rfl) (wkf_cons (.of_eq rfl) (wkf_cons (.of_eq rfl) (wkf_nil _)))), hH⟩
                  · refine awp_seq ?_
                    refine awp_region rfl ?_
                    refine wpo_lt H78 eB rfl rfl rfl (o_ar tk rfl rfl rfl) fun v84 H83 => ?_
                    refine wpo_mv (a := (eB v84)) rfl rfl rfl (o_as tk rfl (Wk.refl _)) ?_
                    refine wpo_nil ?_
                    refine awp_if H83 rfl (fun H85 => ?_) (fun H85 => ?_)
                    · refine awp_region rfl ?_
                      refine wpo_mv (a := (.ref id23 0)) rfl rfl rfl (o_mv tk rfl (Wk.refl _)) ?_
                      refine wpo_mv (a := ((eL 2 e_butterylaw09_Op) x2)) rfl rfl rfl (o_mv tk rfl (Wk.refl _)) ?_
                      refine wpo_mv (a := (eI c43)) rfl rfl rfl (o_mv tk rfl (Wk.refl _)) ?_
                      refine wpo_bd H85 (fun y => .fptr (e_butterylaw09_Op y).cells 0) rfl rfl rfl (fun v87 hv => o_ixa tk hv td57 enc70 rfl rfl) fun v87 hv87 H86 => ?_
                      refine wpo_mv (a := (.fptr (c_butterylaw09_Op v87) 1)) rfl rfl rfl (o_c tk false rfl (fun _ => rfl)) ?_
                      refine wpo_mv (a := (eI v87.At)) rfl rfl rfl (o_ld tk rfl rfl) ?_
                      refine wpo_cb H86 (fun x _ => eErr x.1) rfl rfl rfl (fun v89 hv => h_call1 hH [(0, (id23, [(.vec id23_nodes 4 (v89.2.nodes).length), (.vec id23_first_ 1 (v89.2.first_).length), (.vec id23_last_ 1 (v89.2.last_).length), (.vec id23_count 1 (v89.2.count).length), (eI v89.2.free), (eI v89.2.clock)])), (1, (id23_nodes, (cL e_lists_link v89.2.nodes))), (2, (id23_first_, (cL eI v89.2.first_))), (3, (id23_last_, (cL eI v89.2.last_))), (4, (id23_count, (cL eI v89.2.count)))] ⟨⟨_, rfl⟩, ⟨⟨_, rfl⟩, ⟨⟨_, rfl⟩, ⟨⟨_, rfl⟩, ⟨⟨_, rfl⟩, trivial⟩⟩⟩⟩⟩ rfl rfl (.cons (.of_eq rfl) (.cons (.of_eq rfl) .nil)) (lists_Lists_Touch_ok hv _ (hH.at_ 0 rfl) (hH.at_ 1 rfl) (hH.at_ 2 rfl) (hH.at_ 3 rfl) (hH.at_ 4 rfl) (hH.pw [0, 1, 2, 3, 4] rfl (by decide)))) fun v89 _ τ hv89 H88 (hH : Holds σ [(id23, [(.vec id23_nodes 4 (v89.2.nodes).length), (.vec id23_first_ 1 (v89.2.first_).length), (.vec id23_last_ 1 (v89.2.last_).length), (.vec id23_count 1 (v89.2.count).length), (eI v89.2.free), (eI v89.2.clock)]), (id23_nodes, (cL e_lists_link v89.2.nodes)), (id23_first_, (cL eI v89.2.first_)), (id23_last_, (cL eI v89.2.last_)), (id23_count, (cL eI v89.2.count))] [] τ) => ?_
                      refine wpo_nil ?_
                      have e := Option.some.inj H88
                      subst e
                      exact ⟨(wkf_cons (.of_eq rfl) (wkf_cons (.of_eq rfl) (wkf_cons (.of_eq rfl) (wkf_nil _)))), hH⟩
                    · refine awp_skip ?_
                      have e := Option.some.inj H85
                      subst e
                      exact ⟨(wkf_cons (.of_eq rfl) (wkf_cons (.of_eq rfl) (wkf_cons (.of_eq rfl) (wkf_nil _)))), hH⟩
            · refine awp_exit ?_
              have hz := hy55 _ (inj_inr H62)
              exact ⟨⟨_, inj_inr H62⟩, (c44, c45, c46, c47, c48), hz.symm, (wkf_nil _), hH⟩
      · refine awp_region rfl ?_
        refine wpo_mv (a := (eErr v21.2)) rfl rfl rfl (o_mv tk rfl (Wk.refl _)) ?_
        refine wpo_lt hs36 eB rfl rfl rfl (o_err_neq tk rfl rfl rfl) fun v39 H38 => ?_
        refine wpo_mv (a := (eB v39)) rfl rfl rfl (o_mv tk rfl (Wk.refl _)) ?_
        refine if_split H38 (fun hb H40 => ?_) (fun hb H40 => ?_)
        · subst hb
          refine wpo_skip rfl rfl rfl ?_
          refine wpo_skip rfl rfl rfl ?_
          refine wpo_mv (a := (eB true)) rfl rfl rfl (o_pick_t tk rfl rfl (Wk.refl _)) ?_
          refine wpo_nil ?_
          have e := Option.some.inj H40
          subst e
          exact ⟨(wkf_cons (.of_eq rfl) (wkf_cons (.of_eq rfl) (wkf_cons (.of_eq rfl) (wkf_nil _)))), hH⟩
        · subst hb
          refine wpo_mv (a := (.ref id23 0)) rfl rfl rfl (o_mv tk rfl (Wk.refl _)) ?_
          refine wpo_mv (a := (eB false)) rfl rfl rfl (o_c tk false rfl (fun _ => rfl)) ?_
          refine wpo_mv (a := (eB false)) rfl rfl rfl (o_pick_f tk rfl rfl (Wk.refl _)) ?_
          refine wpo_nil ?_
          have e := Option.some.inj H40
          subst e
          exact ⟨(wkf_cons (.of_eq rfl) (wkf_cons (.of_eq rfl) (wkf_cons (.of_eq rfl) (wkf_nil _)))), hH⟩
end Go.Proofs.YtobbifgmjkgkfaaDoor
namespace Go.Proofs.YtobbifgmjkgkfaaDoor
open Go Go.Va
set_option linter.unusedVariables false
set_option linter.unusedSimpArgs false
set_option maxRecDepth 20000
noncomputable def butteryref09_with (x0 : butteryref09_Lists) (x1 : Int) (x2 : List Int) : Option (butteryref09_Lists) :=
  (app 24 ([] : List (List Int)) x0.L).bind fun v8 =>
  (chk (v8).length x1).bind fun v14 =>
  (updA (v8).length v8 x1 (fun _ => x2)).bind fun c16 =>
  some (({ ({ ({ (x0 : butteryref09_Lists) with L := [] } : butteryref09_Lists) with L := v8 } : butteryref09_Lists) with L := c16 } : butteryref09_Lists) : butteryref09_Lists)
end Go.Proofs.YtobbifgmjkgkfaaDoor
namespace Go.Proofs.YtobbifgmjkgkfaaDoor
open Go Go.Va
set_option linter.unusedVariables false
set_option linter.unusedSimpArgs false
set_option maxRecDepth 20000
noncomputable def butteryref09_ahead (x0 : List Int) (x1 : Int) : Option ((List Int)) :=
  lt (([x1] : List Int)) fun v2 =>
  (app 8 v2 x0).bind fun v4 =>
  some v4
end Go.Proofs.YtobbifgmjkgkfaaDoor
namespace Go.Proofs.YtobbifgmjkgkfaaDoor
open Go Go.Va
set_option linter.unusedVariables false
set_option linter.unusedSimpArgs false
set_option maxRecDepth 20000
noncomputable def butteryref09_Add (x0 : butteryref09_Lists) (x1 : Int) : Option (butteryref09_Lists × Int × Int) :=
  (
    lt (decide (x1 < (0 : Int))) fun v8 =>
    if v8 = true then
      some true
    else
      lt (((x0.L).length : Int)) fun v11 =>
      lt (decide (x1 ≥ v11)) fun v13 =>
      some v13
   : Option (Bool)).bind fun s3 =>
    if s3 = true then
      some ((x0 : butteryref09_Lists), (-1 : Int), (2 : Int))
    else
      lt (((x0.Free).length : Int)) fun v18 =>
      lt (v18 == (0 : Int)) fun v20 =>
      if v20 = true then
        some ((x0 : butteryref09_Lists), (-1 : Int), (4 : Int))
      else
        (ix x0.Free (0 : Int)).bind fun v24 =>
        (ix x0.L x1).bind fun v26 =>
        (butteryref09_ahead v26 v24).bind fun v28 =>
        (butteryref09_with x0 x1 v28).bind fun v30 =>
        (cutFrom x0.Free (1 : Int)).bind fun v35 =>
        lt (({ (v30 : butteryref09_Lists) with Free := v35 } : butteryref09_Lists)) fun c37 =>
        (butteryref09_ahead x0.Used v24).bind fun v40 =>
        lt (({ c37 with Used := v40 } : butteryref09_Lists)) fun c42 =>
        some ((c42 : butteryref09_Lists), v24, (0 : Int))
end Go.Proofs.YtobbifgmjkgkfaaDoor
namespace Go.Proofs.YtobbifgmjkgkfaaDoor
open Go Go.Va
set_option linter.unusedVariables false
set_option linter.unusedSimpArgs false
set_option maxRecDepth 20000
noncomputable def butteryref09_But_b0 (x0 : List Int) (x1 : Int) (c1 : List Int) (c2 : Int) : Option (((List Int) × Int) ⊕ ((List Int))) :=
  lt (((x0).length : Int)) fun v14 =>
  lt (decide (c2 < v14)) fun v16 =>
  if v16 = true then
    (ix x0 c2).bind fun v19 =>
    lt (v19 != x1) fun v21 =>
    if v21 = true then
      (ix x0 c2).bind fun v24 =>
      lt (([v24] : List Int)) fun v26 =>
      (app 8 c1 v26).bind fun v28 =>
      lt (w64 (c2 + (1 : Int))) fun v32 =>
      some (.inl (v28, v32))
    else
      lt (w64 (c2 + (1 : Int))) fun v34 =>
      some (.inl (c1, v34))
  else
    some (.inr c1)
noncomputable def butteryref09_But_l0 (x0 : List Int) (x1 : Int) (s : (List Int) × Int) : Option ((List Int)) := loopO (fun s => butteryref09_But_b0 x0 x1 s.1 s.2) s
noncomputable def butteryref09_But (x0 : List Int) (x1 : Int) : Option ((List Int)) :=
  (butteryref09_But_l0 x0 x1 ([], (0 : Int))).bind fun s11 =>
    some s11
end Go.Proofs.YtobbifgmjkgkfaaDoor
namespace Go.Proofs.YtobbifgmjkgkfaaDoor
open Go Go.Va
set_option linter.unusedVariables false
set_option linter.unusedSimpArgs false
set_option maxRecDepth 20000
noncomputable def butteryref02_Has_b0 (x0 : List Int) (x1 : Int) (c1 : Int) : Option ((Int) ⊕ (Unit ⊕ (Bool))) :=
  lt (((x0).length : Int)) fun v12 =>
  lt (decide (c1 < v12)) fun v14 =>
  if v14 = true then
    (ix x0 c1).bind fun v17 =>
    lt (v17 == x1) fun v19 =>
    if v19 = true then
      some (.inr (.inr true))
    else
      lt (w64 (c1 + (1 : Int))) fun v23 =>
      some (.inl v23)
  else
    some (.inr (.inl ()))
noncomputable def butteryref02_Has_l0 (x0 : List Int) (x1 : Int) (s : Int) : Option (Unit ⊕ (Bool)) := loopO (fun s => butteryref02_Has_b0 x0 x1 s) s
noncomputable def butteryref02_Has (x0 : List Int) (x1 : Int) : Option (Bool) :=
  (butteryref02_Has_l0 x0 x1 (0 : Int)).bind fun o2 =>
    Sum.elim (fun s9 : Unit =>
      some false
      ) (fun y => some y) o2
end Go.Proofs.YtobbifgmjkgkfaaDoor
namespace Go.Proofs.YtobbifgmjkgkfaaDoor
open Go Go.Va
set_option linter.unusedVariables false
set_option linter.unusedSimpArgs false
set_option maxRecDepth 20000
noncomputable def butteryref09_List_b0 (x0 : butteryref09_Lists) (x1 : Int) (c1 : Int) : Option ((Int) ⊕ (Unit ⊕ (Int))) :=
  lt (((x0.L).length : Int)) fun v12 =>
  lt (decide (c1 < v12)) fun v14 =>
  if v14 = true then
    (ix x0.L c1).bind fun v17 =>
    (butteryref02_Has v17 x1).bind fun v19 =>
    if v19 = true then
      some (.inr (.inr c1))
    else
      lt (w64 (c1 + (1 : Int))) fun v23 =>
      some (.inl v23)
  else
    some (.inr (.inl ()))
noncomputable def butteryref09_List_l0 (x0 : butteryref09_Lists) (x1 : Int) (s : Int) : Option (Unit ⊕ (Int)) := loopO (fun s => butteryref09_List_b0 x0 x1 s) s
noncomputable def butteryref09_List (x0 : butteryref09_Lists) (x1 : Int) : Option (Int) :=
  (butteryref09_List_l0 x0 x1 (0 : Int)).bind fun o2 =>
    Sum.elim (fun s9 : Unit =>
      some (-1 : Int)
      ) (fun y => some y) o2
end Go.Proofs.YtobbifgmjkgkfaaDoor
namespace Go.Proofs.YtobbifgmjkgkfaaDoor
open Go Go.Va
set_option linter.unusedVariables false
set_option linter.unusedSimpArgs false
set_option maxRecDepth 20000
noncomputable def butteryref09_at (x0 : butteryref09_Lists) (x1 : Int) : Option (Int) :=
  (
    lt (decide (x1 < (0 : Int))) fun v6 =>
    if v6 = true then
      some true
    else
      lt (decide (x1 ≥ x0.Nodes)) fun v9 =>
      some v9
   : Option (Bool)).bind fun s1 =>
    if s1 = true then
      some (2 : Int)
    else
      (butteryref09_List x0 x1).bind fun v13 =>
      lt (decide (v13 < (0 : Int))) fun v15 =>
      if v15 = true then
        some (9 : Int)
      else
        some (0 : Int)
end Go.Proofs.YtobbifgmjkgkfaaDoor
namespace Go.Proofs.YtobbifgmjkgkfaaDoor
open Go Go.Va
set_option linter.unusedVariables false
set_option linter.unusedSimpArgs false
set_option maxRecDepth 20000
noncomputable def butteryref09_Drop (x0 : butteryref09_Lists) (x1 : Int) : Option (butteryref09_Lists × Int) :=
  (butteryref09_at x0 x1).bind fun v4 =>
  lt (v4 != (0 : Int)) fun v6 =>
  if v6 = true then
    some ((x0 : butteryref09_Lists), v4)
  else
    (butteryref09_List x0 x1).bind fun v10 =>
    (ix x0.L v10).bind fun v12 =>
    (butteryref09_But v12 x1).bind fun v14 =>
    (butteryref09_with x0 v10 v14).bind fun v16 =>
    (butteryref09_ahead x0.Free x1).bind fun v21 =>
    lt (({ (v16 : butteryref09_Lists) with Free := v21 } : butteryref09_Lists)) fun c23 =>
    (butteryref09_But x0.Used x1).bind fun v26 =>
    lt (({ c23 with Used := v26 } : butteryref09_Lists)) fun c28 =>
    some ((c28 : butteryref09_Lists), (0 : Int))
end Go.Proofs.YtobbifgmjkgkfaaDoor
namespace Go.Proofs.YtobbifgmjkgkfaaDoor
open Go Go.Va
set_option linter.unusedVariables false
set_option linter.unusedSimpArgs false
set_option maxRecDepth 20000
noncomputable def butteryref09_Touch (x0 : butteryref09_Lists) (x1 : Int) : Option (butteryref09_Lists × Int) :=
  (butteryref09_at x0 x1).bind fun v4 =>
  lt (v4 != (0 : Int)) fun v6 =>
  if v6 = true then
    some ((x0 : butteryref09_Lists), v4)
  else
    (butteryref09_List x0 x1).bind fun v10 =>
    (ix x0.L v10).bind fun v12 =>
    (butteryref09_But v12 x1).bind fun v14 =>
    (butteryref09_ahead v14 x1).bind fun v16 =>
    (butteryref09_with x0 v10 v16).bind fun v18 =>
    (butteryref09_But x0.Used x1).bind fun v23 =>
    (butteryref09_ahead v23 x1).bind fun v25 =>
    lt (({ (v18 : butteryref09_Lists) with Used := v25 } : butteryref09_Lists)) fun c27 =>
    some ((c27 : butteryref09_Lists), (0 : Int))
end Go.Proofs.YtobbifgmjkgkfaaDoor
namespace Go.Proofs.YtobbifgmjkgkfaaDoor
open Go Go.Va
set_option linter.unusedVariables false
set_option linter.unusedSimpArgs false
set_option maxRecDepth 20000
noncomputable def butteryref09_New_b0 (x1 : Int) (c28 : Int) (c29 : butteryref09_Lists) : Option ((Int × butteryref09_Lists) ⊕ (butteryref09_Lists)) :=
  lt (decide (c28 < x1)) fun v41 =>
  if v41 = true then
    lt (([c28] : List Int)) fun v44 =>
    (app 8 c29.Free v44).bind fun v46 =>
    lt (w64 (c28 + (1 : Int))) fun v51 =>
    some (.inl (v51, ({ c29 with Free := v46 } : butteryref09_Lists)))
  else
    some (.inr c29)
noncomputable def butteryref09_New_l0 (x1 : Int) (s : Int × butteryref09_Lists) : Option (butteryref09_Lists) := loopO (fun s => butteryref09_New_b0 x1 s.1 s.2) s
noncomputable def butteryref09_New (x0 : Int) (x1 : Int) : Option (butteryref09_Lists × Int) :=
  (
    lt (decide (x0 < (1 : Int))) fun v8 =>
    if v8 = true then
      some true
    else
      lt (decide (x0 > (64 : Int))) fun v11 =>
      if v11 = true then
        some true
      else
        lt (decide (x1 < (1 : Int))) fun v14 =>
        if v14 = true then
          some true
        else
          lt (decide (x1 > (65536 : Int))) fun v17 =>
          some v17
   : Option (Bool)).bind fun s3 =>
    if s3 = true then
      some (((⟨([] : List (List Int)), ([] : List Int), ([] : List Int), (0 : Int)⟩ : butteryref09_Lists) : butteryref09_Lists), (2 : Int))
    else
      (mkS 24 x0 ([] : List Int)).bind fun v22 =>
      (butteryref09_New_l0 x1 ((0 : Int), ((⟨v22, ([] : List Int), ([] : List Int), x1⟩ : butteryref09_Lists) : butteryref09_Lists))).bind fun s38 =>
        some ((s38 : butteryref09_Lists), (0 : Int))
end Go.Proofs.YtobbifgmjkgkfaaDoor
namespace Go.Proofs.YtobbifgmjkgkfaaDoor
open Go Go.Va
set_option linter.unusedVariables false
set_option linter.unusedSimpArgs false
set_option maxRecDepth 20000
noncomputable def butteryref09_Last (x0 : List Int) : Option (Int) :=
  lt (((x0).length : Int)) fun v2 =>
  lt (v2 == (0 : Int)) fun v4 =>
  if v4 = true then
    some (-1 : Int)
  else
    lt (((x0).length : Int)) fun v7 =>
    lt (w64 (v7 - (1 : Int))) fun v9 =>
    (ix x0 v9).bind fun v11 =>
    some v11
end Go.Proofs.YtobbifgmjkgkfaaDoor
namespace Go.Proofs.YtobbifgmjkgkfaaDoor
open Go Go.Va
set_option linter.unusedVariables false
set_option linter.unusedSimpArgs false
/-- One at a place. -/
def At {α : Type} (l : List α) (i : Int) (y : α) : Prop := 0 ≤ i ∧ l[i.toNat]? = some y
section
variable {α : Type} {l : List α} {i j : Int} {y z : α}
theorem At.lt (h : At l i y) : i < l.length := by
  have := (List.getElem?_eq_some_iff.1 h.2).1
  have := h.1
  omega
theorem At.chk (h : At l i y) : chk l.length i = some () := if_pos ⟨h.1, h.lt⟩
theorem At.ixA (h : At l i y) : ixA l.length l i = some y := (if_pos ⟨h.1, h.lt⟩).trans h.2
theorem At.ix (h : At l i y) : ix l i = some y := (if_pos h.1).trans h.2
theorem At.updA (h : At l i y) (f : α → α) : updA l.length l i f = some (l.set i.toNat (f y)) := by
  unfold Go.Va.updA
  rw [h.ixA]
  rfl
theorem At.same (h : At l i y) (z : α) : At (l.set i.toNat z) i z := ⟨h.1, by rw [List.getElem?_set_self]; have := h.lt; have := h.1; omega⟩
theorem At.ne (h : At l j y) (hi : 0 ≤ i) (hn : j ≠ i) (z : α) : At (l.set i.toNat z) j y := ⟨h.1, by
  rw [List.getElem?_set_ne (by have := h.1; omega)]; exact h.2⟩
theorem At.uniq (h : At l i y) (h' : At l i z) : y = z := Option.some.inj (h.2.symm.trans h'.2)
theorem at_nat {k : Nat} (h : l[k]? = some y) : At l (k : Int) y := ⟨by omega, by simpa using h⟩
theorem at_ex (h0 : 0 ≤ i) (h1 : i < l.length) : ∃ y, At l i y := ⟨l[i.toNat]'(by omega), h0, List.getElem?_eq_getElem _⟩
end
def hdp : List Int → Int → Int
  | [], q => q
  | m :: _, _ => m
def lsp : Int → List Int → Int
  | p, [] => p
  | _, m :: l => lsp m l
theorem hdp_app (a b : List Int) (q : Int) : hdp (a ++ b) q = hdp a (hdp b q) := by cases a <;> rfl
theorem lsp_app : ∀ (p : Int) (a b : List Int), lsp p (a ++ b) = lsp (lsp p a) b
  | _, [], _ => rfl
  | _, m :: a, b => lsp_app m a b
theorem hdp_mem {l : List Int} {q : Int} (h : l ≠ []) : hdp l q ∈ l := by cases l with | nil => exact absurd rfl h | cons a l => exact List.mem_cons_self
theorem lsp_mem : ∀ {l : List Int} {p : Int}, l ≠ [] → lsp p l ∈ l
  | [], _, h => absurd rfl h
  | [a], _, _ => List.mem_cons_self
  | a :: b :: l, p, _ => List.mem_cons_of_mem _ (lsp_mem (l := b :: l) (p := a) (by simp))
theorem lsp_q : ∀ {l : List Int} {p q : Int}, l ≠ [] → lsp p l = lsp q l
  | [], _, _, h => absurd rfl h
  | _ :: _, _, _, _ => rfl
/-- A chain of links. -/
def dl (g : Int → lists_link) (i : Int) : Int → List Int → Int → Prop
  | _, [], _ => True
  | p, n :: l, q => (g n).ahead = p ∧ (g n).behind = hdp l q ∧ (g n).list = i ∧ dl g i n l q
theorem dl_congr {g g' : Int → lists_link} {i : Int} : ∀ {p : Int} {l : List Int} {q : Int}, (∀ n ∈ l, (g n).ahead = (g' n).ahead ∧ (g n).behind = (g' n).behind ∧ (g n).list = (g' n).list) → dl g i p l q → dl g' i p l q
  | _, [], _, _, _ => trivial
  | p, n :: l, q, h, hd => by
    obtain ⟨h1, h2, h3, h4⟩ := hd
    obtain ⟨e1, e2, e3⟩ := h n List.mem_cons_self
    exact ⟨e1 ▸ h1, e2 ▸ h2, e3 ▸ h3, dl_congr (fun m hm => h m (List.mem_cons_of_mem _ hm)) h4⟩
theorem dl_app {g : Int → lists_link} {i : Int} : ∀ {p : Int} {a b : List Int} {q : Int}, dl g i p (a ++ b) q ↔ dl g i p a (hdp b q) ∧ dl g i (lsp p a) b q
  | _, [], _, _ => by simp [dl, lsp]
  | p, n :: a, b, q => by
    simp only [List.cons_append, dl, lsp, hdp_app]
    rw [dl_app (p := n) (a := a)]
    simp only [and_assoc]
theorem dl_list {g : Int → lists_link} {i : Int} : ∀ {p : Int} {l : List Int} {q : Int}, dl g i p l q → ∀ n ∈ l, (g n).list = i
  | _, n :: l, _, h, m, hm => by
    rcases List.mem_cons.1 hm with rfl | hm
    · exact h.2.2.1
    · exact dl_list h.2.2.2 m hm
def fup (g : Int → lists_link) (n : Int) (v : lists_link) : Int → lists_link := fun m => if m = n then v else g m
theorem fup_same {g : Int → lists_link} {n : Int} {v : lists_link} : fup g n v n = v := if_pos rfl
theorem fup_ne {g : Int → lists_link} {n m : Int} {v : lists_link} (h : m ≠ n) : fup g n v m = g m := if_neg h
/-- The end of a chain turned elsewhere. -/
theorem dl_q {g : Int → lists_link} {i q' : Int} : ∀ {p : Int} {a : List Int} {q : Int}, a ≠ [] → a.Nodup → dl g i p a q → dl (fup g (lsp p a) { g (lsp p a) with behind := q' }) i p a q'
  | _, [], _, h, _, _ => absurd rfl h
  | p, [n], q, _, _, hd => by
    simp only [dl, lsp, fup_same, hdp] at hd ⊢
    exact ⟨hd.1, trivial, hd.2.2.1, trivial⟩
  | p, n :: m :: a, q, _, hn, hd => by
    obtain ⟨h1, h2, h3, h4⟩ := hd
    have hn' := List.nodup_cons.1 hn
    have hne : n ≠ lsp n (m :: a) := fun e => hn'.1 (e ▸ lsp_mem (by simp))
    have := dl_q (p := n) (q' := q') (by simp) hn'.2 h4
    refine ⟨?_, ?_, ?_, this⟩
    · show (fup g (lsp n (m :: a)) _ n).ahead = p
      rw [fup_ne hne]; exact h1
    · show (fup g (lsp n (m :: a)) _ n).behind = m
      rw [fup_ne hne]; exact h2
    · show (fup g (lsp n (m :: a)) _ n).list = i
      rw [fup_ne hne]; exact h3
theorem dl_p {g : Int → lists_link} {i p p' m q : Int} {l : List Int} (hn : (m :: l).Nodup) (hd : dl g i p (m :: l) q) : dl (fup g m { g m with ahead := p' }) i p' (m :: l) q := by
  obtain ⟨h1, h2, h3, h4⟩ := hd
  refine ⟨by rw [fup_same], by rw [fup_same]; exact h2, by rw [fup_same]; exact h3, dl_congr (fun n hm => ?_) h4⟩
  have e : n ≠ m := fun e => (List.nodup_cons.1 hn).1 (e ▸ hm)
  rw [fup_ne e]
  exact ⟨rfl, rfl, rfl⟩
/-- The free ones. -/
def fl (g : Int → lists_link) : List Int → Prop
  | [] => True
  | n :: l => (g n).behind = hdp l (-1) ∧ (g n).list = -1 ∧ fl g l
theorem fl_congr {g g' : Int → lists_link} : ∀ {l : List Int}, (∀ n ∈ l, g n = g' n) → fl g l → fl g' l
  | [], _, _ => trivial
  | n :: l, h, hd => ⟨by rw [← h n List.mem_cons_self]; exact hd.1, by rw [← h n List.mem_cons_self]; exact hd.2.1, fl_congr (fun m hm => h m (List.mem_cons_of_mem _ hm)) hd.2.2⟩
theorem fl_list {g : Int → lists_link} : ∀ {l : List Int}, fl g l → ∀ n ∈ l, (g n).list = -1
  | n :: l, h, m, hm => by
    rcases List.mem_cons.1 hm with rfl | hm
    · exact h.2.1
    · exact fl_list h.2.2 m hm
/-- A table of links, as a function. -/
def Rep (t : List lists_link) (g : Int → lists_link) : Prop := ∀ n : Int, 0 ≤ n → n < t.length → At t n (g n)
theorem Rep.set {t : List lists_link} {g : Int → lists_link} (h : Rep t g) {n : Int} (h0 : 0 ≤ n) (h1 : n < t.length) (v : lists_link) : Rep (t.set n.toNat v) (fup g n v) := fun m hm hl => by
  rw [List.length_set] at hl
  unfold fup
  split
  · rename_i e; subst e; exact (h m hm hl).same v
  · rename_i e; exact (h m hm hl).ne h0 e v
/-! ### the document's -/
def but (l : List Int) (n : Int) : List Int := l.filter (fun m => m != n)
theorem but_split {a b : List Int} {n : Int} (h : (a ++ n :: b).Nodup) : but (a ++ n :: b) n = a ++ b := by
  unfold but
  rw [List.nodup_append] at h
  obtain ⟨h1, h2, h3⟩ := h
  rw [List.filter_append, List.filter_cons, if_neg (by simp), List.filter_eq_self.2 (fun m hm => by simpa using h3 m hm n List.mem_cons_self), List.filter_eq_self.2 (fun m hm => by simpa using show ¬ m = n from fun e => (List.nodup_cons.1 h2).1 (e ▸ hm))]
theorem but_not {l : List Int} {n : Int} (h : n ∉ l) : but l n = l := List.filter_eq_self.2 fun m hm => by simpa using show ¬ m = n from fun e => h (e ▸ hm)
theorem mem_but {l : List Int} {n m : Int} : m ∈ but l n ↔ m ∈ l ∧ m ≠ n := by simp [but]
theorem butF_eq (l : List Int) (n : Int) (h : l.length ≤ 70000) : butteryref09_But l n = some (but l n) := by
  unfold butteryref09_But butteryref09_But_l0
  have key := loopO_up (body := fun s => butteryref09_But_b0 l n s.1 s.2) (fun i => (but (l.take i) n, (i : Int))) l.length (x := but l n) (fun i hi => ?_) ?_
  · rw [show ((([] : List Int), (0 : Int))) = (but (l.take 0) n, ((0 : Nat) : Int)) from rfl, key]
    rfl
  · unfold butteryref09_But_b0
    simp only [lt_eq]
    have hlen : (but (l.take i) n).length ≤ i := Nat.le_trans (List.length_filter_le _ _) (by simp; omega)
    rw [if_pos (decide_eq_true (by omega)), ix_nat hi]
    simp only [Option.bind_some, lt_eq]
    have e : but (l.take (i + 1)) n = but (l.take i) n ++ (if (l[i] != n) = true then [l[i]] else []) := by
      unfold but
      rw [List.take_succ_eq_append_getElem hi, List.filter_append]
      simp only [List.filter_cons, List.filter_nil]
    rw [w64_nat (by omega), e]
    split
    · rw [app_eq (by simp only [List.length_cons, List.length_nil]; omega)]
      rfl
    · rw [List.append_nil]
  · unfold butteryref09_But_b0
    simp only [lt_eq]
    rw [if_neg (by simp), List.take_length]
theorem hasF_eq (l : List Int) (n : Int) (h : l.length ≤ 70000) : butteryref02_Has l n = some (decide (n ∈ l)) := by
  unfold butteryref02_Has butteryref02_Has_l0
  have key := loopO_inv (body := fun s => butteryref02_Has_b0 l n s) (fun s => ∃ i : Nat, s = (i : Int) ∧ i ≤ l.length ∧ n ∉ l.take i) (fun s => (l.length - s).toNat) (fun x => x = (if n ∈ l then .inr true else .inl ())) ?_ (s := 0) ⟨0, rfl, Nat.zero_le _, by simp⟩
  · obtain ⟨x, h1, h2⟩ := key
    rw [h1, h2]
    by_cases hn : n ∈ l <;> simp [hn]
  · rintro s ⟨i, rfl, hi, hn⟩
    unfold butteryref02_Has_b0
    simp only [lt_eq]
    by_cases hil : i < l.length
    · rw [if_pos (decide_eq_true (by omega)), ix_nat hil]
      simp only [Option.bind_some, lt_eq]
      by_cases he : l[i] = n
      · right
        rw [if_pos (by simpa using he), if_pos (he ▸ List.getElem_mem hil)]
        exact ⟨_, rfl, rfl⟩
      · left
        rw [if_neg (by simpa using he), w64_nat (by omega)]
        refine ⟨_, rfl, ⟨i + 1, rfl, hil, ?_⟩, by omega⟩
        rw [List.take_succ_eq_append_getElem hil, List.mem_append, List.mem_singleton]
        rintro (h1 | h1)
        · exact hn h1
        · exact he h1.symm
    · right
      have : i = l.length := by omega
      subst this
      rw [List.take_length] at hn
      rw [if_neg (by simp), if_neg hn]
      exact ⟨_, rfl, rfl⟩
theorem aheadF_eq (l : List Int) (n : Int) (h : l.length ≤ 70000) : butteryref09_ahead l n = some (n :: l) := by
  unfold butteryref09_ahead
  simp only [lt_eq]
  rw [app_eq (by simp only [List.length_cons, List.length_nil]; omega)]
  rfl
theorem withF_eq (r : butteryref09_Lists) (k : Int) {y : List Int} (to : List Int) (hk : At r.L k y) (h : r.L.length ≤ 70000) : butteryref09_with r k to = some { r with L := r.L.set k.toNat to } := by
  unfold butteryref09_with
  rw [app_eq (by simp only [List.length_nil]; omega)]
  simp only [Option.bind_some, List.nil_append]
  rw [hk.chk, Option.bind_some, hk.updA, Option.bind_some]
theorem lsp_get : ∀ {l : List Int} {p : Int}, l ≠ [] → l[l.length - 1]? = some (lsp p l)
  | [], _, h => absurd rfl h
  | [a], _, _ => rfl
  | a :: b :: l, p, _ => by
    have := lsp_get (l := b :: l) (p := a) (by simp)
    simpa [lsp] using this
theorem lastF_eq (l : List Int) (h : l.length ≤ 70000) : butteryref09_Last l = some (lsp (-1) l) := by
  unfold butteryref09_Last
  simp only [lt_eq]
  by_cases hl : l = []
  · subst hl; rfl
  · have h0 : 0 < l.length := List.length_pos_iff.2 hl
    rw [if_neg (by simpa using hl), w64_eq (by omega) (by omega), show (l.length : Int) - 1 = ((l.length - 1 : Nat) : Int) by omega, ix_get, lsp_get hl]
    rfl
/-- In which list one stands, the first one. -/
theorem listF_eq (r : butteryref09_Lists) (n : Int) (h : r.L.length ≤ 64) (h2 : ∀ l ∈ r.L, l.length ≤ 70000) : ∃ k, butteryref09_List r n = some k ∧ ((k = -1 ∧ ∀ l ∈ r.L, n ∉ l) ∨ ∃ l, At r.L k l ∧ n ∈ l) := by
  unfold butteryref09_List butteryref09_List_l0
  have key := loopO_inv (body := fun s => butteryref09_List_b0 r n s) (fun s => ∃ i : Nat, s = (i : Int) ∧ i ≤ r.L.length ∧ ∀ l ∈ r.L.take i, n ∉ l) (fun s => (r.L.length - s).toNat) (fun x => (x = .inl () ∧ ∀ l ∈ r.L, n ∉ l) ∨ ∃ k l, x = .inr k ∧ At r.L k l ∧ n ∈ l) ?_ (s := 0) ⟨0, rfl, Nat.zero_le _, by simp⟩
  · obtain ⟨x, h1, h3⟩ := key
    rw [h1]
    rcases h3 with ⟨rfl, h3⟩ | ⟨k, l, rfl, h4, h5⟩
    · exact ⟨-1, rfl, .inl ⟨rfl, h3⟩⟩
    · exact ⟨k, rfl, .inr ⟨l, h4, h5⟩⟩
  · rintro s ⟨i, rfl, hi, hn⟩
    unfold butteryref09_List_b0
    simp only [lt_eq]
    by_cases hil : i < r.L.length
    · rw [if_pos (decide_eq_true (by omega)), ix_nat hil]
      simp only [Option.bind_some, lt_eq]
      rw [hasF_eq _ _ (h2 _ (List.getElem_mem hil))]
      simp only [Option.bind_some, lt_eq]
      by_cases he : n ∈ r.L[i]
      · right
        rw [if_pos (decide_eq_true he)]
        exact ⟨_, rfl, .inr ⟨_, _, rfl, at_nat (List.getElem?_eq_getElem hil), he⟩⟩
      · left
        rw [if_neg (by simpa using he), w64_nat (by omega)]
        refine ⟨_, rfl, ⟨i + 1, rfl, hil, ?_⟩, by omega⟩
        intro l hl
        rw [List.take_succ_eq_append_getElem hil, List.mem_append, List.mem_singleton] at hl
        rcases hl with h1 | rfl
        · exact hn l h1
        · exact he
    · right
      have : i = r.L.length := by omega
      subst this
      rw [List.take_length] at hn
      rw [if_neg (by simp)]
      exact ⟨_, rfl, .inl ⟨rfl, hn⟩⟩
theorem ints_eq (a : List Int) (h : a.length ≤ 70000) : butteryref02_Ints a a = some true := by
  unfold butteryref02_Ints butteryref02_Ints_l0
  simp only [lt_eq]
  rw [if_neg (by simp)]
  have key := loopO_up (body := fun s => butteryref02_Ints_b0 a a s) (fun i => (i : Int)) a.length (x := .inl ()) (fun i hi => ?_) ?_
  · rw [show (0 : Int) = ((0 : Nat) : Int) from rfl, key]
    rfl
  · unfold butteryref02_Ints_b0
    simp only [lt_eq]
    rw [if_pos (decide_eq_true (by omega)), ix_nat hi]
    simp only [Option.bind_some, lt_eq]
    rw [if_neg (by simp), w64_nat (by omega)]
  · unfold butteryref02_Ints_b0
    simp only [lt_eq]
    rw [if_neg (by simp)]
end Go.Proofs.YtobbifgmjkgkfaaDoor
namespace Go.Proofs.YtobbifgmjkgkfaaDoor
open Go Go.Va
set_option linter.unusedVariables false
set_option linter.unusedSimpArgs false
theorem At.of_set {α : Type} {l : List α} {i j : Int} {y z w : α} (hw : At l i w) (h : At (l.set i.toNat z) j y) : (j = i ∧ y = z) ∨ (j ≠ i ∧ At l j y) := by
  by_cases hj : j = i
  · subst hj
    exact .inl ⟨rfl, h.uniq (hw.same z)⟩
  · refine .inr ⟨hj, h.1, ?_⟩
    have h2 := h.2
    rwa [List.getElem?_set_ne (by have := h.1; have := hw.1; omega)] at h2
/-- The tables say what the lists are. -/
structure Gd (g : Int → lists_link) (fs ls cs : List Int) (L : List (List Int)) : Prop where
  f : fs.length = L.length
  l : ls.length = L.length
  c : cs.length = L.length
  dll : ∀ (i : Int) l, At L i l → dl g i (-1) l (-1) ∧ At fs i (hdp l (-1)) ∧ At ls i (lsp (-1) l) ∧ At cs i (l.length : Int)
def ulEq (g g' : Int → lists_link) : Prop := ∀ m, (g' m).used = (g m).used ∧ (g' m).list = (g m).list
theorem ulEq.fup {g : Int → lists_link} {n : Int} {v : lists_link} (h1 : v.used = (g n).used) (h2 : v.list = (g n).list) : ulEq g (fup g n v) := fun m => by
  unfold Go.Proofs.YtobbifgmjkgkfaaDoor.fup
  split
  · rename_i e; subst e; exact ⟨h1, h2⟩
  · exact ⟨rfl, rfl⟩
theorem pull_eq {x : lists_Lists} {g : Int → lists_link} {L : List (List Int)} {i n : Int} {a b : List Int} (hr : Rep x.nodes g) (hg : Gd g x.first_ x.last_ x.count L) (hl : At L i (a ++ n :: b)) (hnd : (a ++ n :: b).Nodup) (hrg : ∀ m ∈ a ++ n :: b, 0 ≤ m ∧ m < x.nodes.length)
    (hdis : ∀ j l, At L j l → j ≠ i → ∀ m ∈ a ++ n :: b, m ∉ l) (hlen : (a ++ n :: b).length ≤ 70000) :
    ∃ x' g', lists_Lists_pull x n = some x' ∧ Rep x'.nodes g' ∧ x'.nodes.length = x.nodes.length ∧ Gd g' x'.first_ x'.last_ x'.count (L.set i.toNat (a ++ b)) ∧ x'.free = x.free ∧ x'.clock = x.clock ∧ ulEq g g' ∧ ∀ m, m ∉ a → m ∉ b → g' m = g m := by
  obtain ⟨n0, n1⟩ := hrg n (by simp)
  have hn := hr n n0 n1
  obtain ⟨hd, hf, hla, hc⟩ := hg.dll i _ hl
  obtain ⟨da, e1, e2, e3, db⟩ := dl_app.1 hd
  rw [List.nodup_append] at hnd
  obtain ⟨hna, hnb, hab⟩ := hnd
  obtain ⟨hnnb, hnb⟩ := List.nodup_cons.1 hnb
  have ra : ∀ m ∈ a, 0 ≤ m ∧ m < x.nodes.length := fun m hm => hrg m (by simp [hm])
  have rb : ∀ m ∈ b, 0 ≤ m ∧ m < x.nodes.length := fun m hm => hrg m (by simp [hm])
  have hab' : ∀ m ∈ a, m ∉ b := fun m hm hb => hab m hm m (List.mem_cons_of_mem _ hb) rfl
  obtain ⟨N1, f1, g1, r1, l1, lf, af, of, d1, s1, u1, k1⟩ : ∃ N1 f1 g1, Rep N1 g1 ∧ N1.length = x.nodes.length ∧ f1.length = x.first_.length ∧ At f1 i (hdp (a ++ b) (-1)) ∧ (∀ j y, j ≠ i → At x.first_ j y → At f1 j y) ∧ dl g1 i (-1) a (hdp b (-1)) ∧ (∀ m, m ∉ a → g1 m = g m) ∧ ulEq g g1 ∧
      ∀ (k : List lists_link × List Int → Option lists_Lists), ((if ((g n).ahead == (-1 : Int)) = true then (chk x.first_.length (g n).list).bind fun _ => (updA x.first_.length x.first_ (g n).list (fun _ => (g n).behind)).bind fun c => some (x.nodes, c) else (chk x.nodes.length (g n).ahead).bind fun _ => (updA x.nodes.length x.nodes (g n).ahead (fun y => ({ y with behind := (g n).behind } : lists_link))).bind fun c => some (c, x.first_)).bind k) = k (N1, f1) := by
    rw [e1, e2, e3]
    by_cases ha : a = []
    · subst ha
      refine ⟨x.nodes, x.first_.set i.toNat (hdp b (-1)), g, hr, rfl, by simp, hf.same _, fun j y hj hy => hy.ne hf.1 hj _, trivial, fun _ _ => rfl, fun m => ⟨rfl, rfl⟩, fun k => ?_⟩
      rw [if_pos (by simp [lsp]), hf.chk, Option.bind_some, hf.updA]
      rfl
    · have hm := lsp_mem (p := -1) ha
      obtain ⟨m0, m1⟩ := ra _ hm
      have hat := hr _ m0 m1
      refine ⟨x.nodes.set (lsp (-1) a).toNat _, x.first_, fup g (lsp (-1) a) { g (lsp (-1) a) with behind := hdp b (-1) }, hr.set m0 m1 _, by simp, rfl, ?_, fun j y _ hy => hy, dl_q ha hna da, fun m hma => fup_ne (fun e => hma (e ▸ hm)), .fup rfl rfl, fun k => ?_⟩
      · rw [hdp_app] at hf ⊢
        cases a with
        | nil => exact absurd rfl ha
        | cons c a => exact hf
      · rw [if_neg (by simp; omega), hat.chk, Option.bind_some, hat.updA]
        rfl
  have db1 : dl g1 i n b (-1) := dl_congr (fun m hm => by rw [s1 m (fun h => hab' m h hm)]; exact ⟨rfl, rfl, rfl⟩) db
  obtain ⟨N2, f2, g2, r2, l2, lf2, af2, of2, d2, s2, u2, k2⟩ : ∃ N2 f2 g2, Rep N2 g2 ∧ N2.length = N1.length ∧ f2.length = x.last_.length ∧ At f2 i (lsp (-1) (a ++ b)) ∧ (∀ j y, j ≠ i → At x.last_ j y → At f2 j y) ∧ dl g2 i (lsp (-1) a) b (-1) ∧ (∀ m, m ∉ b → g2 m = g1 m) ∧ ulEq g1 g2 ∧
      ∀ (k : List lists_link × List Int → Option lists_Lists), ((if ((g n).behind == (-1 : Int)) = true then (chk x.last_.length (g n).list).bind fun _ => (updA x.last_.length x.last_ (g n).list (fun _ => (g n).ahead)).bind fun c => some (N1, c) else (chk N1.length (g n).behind).bind fun _ => (updA N1.length N1 (g n).behind (fun y => ({ y with ahead := (g n).ahead } : lists_link))).bind fun c => some (c, x.last_)).bind k) = k (N2, f2) := by
    rw [e1, e2, e3]
    cases b with
    | nil =>
      refine ⟨N1, x.last_.set i.toNat (lsp (-1) a), g1, r1, rfl, by simp, by rw [List.append_nil]; exact hla.same _, fun j y hj hy => hy.ne hla.1 hj _, trivial, fun _ _ => rfl, fun m => ⟨rfl, rfl⟩, fun k => ?_⟩
      rw [if_pos (by simp [hdp]), hla.chk, Option.bind_some, hla.updA]
      rfl
    | cons c b =>
      obtain ⟨m0, m1⟩ := rb c (by simp)
      have hat := r1 c m0 (by omega)
      refine ⟨N1.set c.toNat _, x.last_, fup g1 c { g1 c with ahead := lsp (-1) a }, r1.set m0 (by omega) _, by simp, rfl, ?_, fun j y _ hy => hy, dl_p hnb db1, fun m hmb => fup_ne (fun e => hmb (by rw [e]; exact List.mem_cons_self)), .fup rfl rfl, fun k => ?_⟩
      · rw [lsp_app] at hla ⊢
        exact hla
      · rw [if_neg (by simp [hdp]; omega)]
        show ((chk N1.length c).bind _).bind k = _
        rw [hat.chk, Option.bind_some]
        show ((updA N1.length N1 c _).bind _).bind k = _
        rw [hat.updA]
        rfl
  refine ⟨{ x with nodes := N2, first_ := f1, last_ := f2, count := x.count.set i.toNat ((a ++ n :: b).length - 1 : Int) }, g2, ?_, r2, l2.trans l1, ⟨by simp [lf, hg.f], by simp [lf2, hg.l], by simp [hg.c], fun j l hj => ?_⟩, rfl, rfl, fun m => ⟨(u2 m).1.trans (u1 m).1, (u2 m).2.trans (u1 m).2⟩, fun m hma hmb => (s2 m hmb).trans (s1 m hma)⟩
  · unfold lists_Lists_pull
    rw [hn.chk, Option.bind_some, hn.ixA, Option.bind_some]
    simp only [lt_eq]
    refine (k1 _).trans ((k2 _).trans ?_)
    rw [e3, hc.chk, Option.bind_some, hc.ixA, Option.bind_some, Option.bind_some, w64_eq (by omega) (by omega), hc.updA]
    rfl
  · rcases hl.of_set hj with ⟨rfl, rfl⟩ | ⟨hji, hjl⟩
    · refine ⟨dl_app.2 ⟨dl_congr (fun m hm => by rw [s2 m (hab' m hm)]; exact ⟨rfl, rfl, rfl⟩) d1, d2⟩, af, af2, ?_⟩
      have := hc.same ((a ++ n :: b).length - 1 : Int)
      rw [show ((a ++ n :: b).length - 1 : Int) = ((a ++ b).length : Int) by simp only [List.length_append, List.length_cons]; omega] at this ⊢
      exact this
    · obtain ⟨q1, q2, q3, q4⟩ := hg.dll j l hjl
      have hd := hdis j l hjl hji
      exact ⟨dl_congr (fun m hm => by rw [s2 m (fun h => hd m (by simp [h]) hm), s1 m (fun h => hd m (by simp [h]) hm)]; exact ⟨rfl, rfl, rfl⟩) q1, of j _ hji q2, of2 j _ hji q3, q4.ne hc.1 hji _⟩
theorem push_eq {x : lists_Lists} {g : Int → lists_link} {L : List (List Int)} {i n : Int} {l : List Int} (hr : Rep x.nodes g) (hg : Gd g x.first_ x.last_ x.count L) (hl : At L i l) (hnd : (n :: l).Nodup) (hrg : ∀ m ∈ n :: l, 0 ≤ m ∧ m < x.nodes.length)
    (hdis : ∀ j l', At L j l' → j ≠ i → ∀ m ∈ n :: l, m ∉ l') (hlen : l.length ≤ 70000) (hck : 0 ≤ x.clock ∧ x.clock ≤ 1000000) :
    ∃ x' g', lists_Lists_push x n i = some x' ∧ Rep x'.nodes g' ∧ x'.nodes.length = x.nodes.length ∧ Gd g' x'.first_ x'.last_ x'.count (L.set i.toNat (n :: l)) ∧ x'.free = x.free ∧ x'.clock = x.clock + 1 ∧ (∀ m, m ≠ n → (g' m).used = (g m).used ∧ (g' m).list = (g m).list) ∧ (g' n).used = x.clock + 1 ∧ ∀ m, m ∉ n :: l → g' m = g m := by
  obtain ⟨n0, n1⟩ := hrg n (by simp)
  have hn := hr n n0 n1
  obtain ⟨hd, hf, hla, hc⟩ := hg.dll i _ hl
  obtain ⟨hnl, hndl⟩ := List.nodup_cons.1 hnd
  have w1 : w64 (x.clock + 1) = x.clock + 1 := w64_eq (by omega) (by omega)
  let v : lists_link := ⟨-1, hdp l (-1), i, x.clock + 1⟩
  have r1 := hr.set n0 n1 v
  have hd1 : dl (fup g n v) i (-1) l (-1) := dl_congr (fun m hm => by rw [fup_ne (show m ≠ n from fun e => hnl (e ▸ hm))]; exact ⟨rfl, rfl, rfl⟩) hd
  obtain ⟨N2, f2, g2, r2, l2, lf2, af2, of2, d2, g2n, s2, u2, k2⟩ : ∃ N2 f2 g2, Rep N2 g2 ∧ N2.length = x.nodes.length ∧ f2.length = x.last_.length ∧ At f2 i (lsp (-1) (n :: l)) ∧ (∀ j y, j ≠ i → At x.last_ j y → At f2 j y) ∧ dl g2 i n l (-1) ∧ g2 n = v ∧ (∀ m, m ∉ n :: l → g2 m = g m) ∧ (∀ m, m ≠ n → (g2 m).used = (g m).used ∧ (g2 m).list = (g m).list) ∧
      ∀ (k : List lists_link × List Int → Option lists_Lists), ((if (hdp l (-1) == (-1 : Int)) = true then (chk x.last_.length i).bind fun _ => (updA x.last_.length x.last_ i (fun _ => n)).bind fun c => some (x.nodes.set n.toNat v, c) else (some ()).bind fun _ => (some (hdp l (-1))).bind fun v34 => (chk (x.nodes.set n.toNat v).length v34).bind fun _ => (updA (x.nodes.set n.toNat v).length (x.nodes.set n.toNat v) v34 (fun y => ({ y with ahead := n } : lists_link))).bind fun c => some (c, x.last_)).bind k) = k (N2, f2) := by
    have un : ∀ m, m ≠ n → (fup g n v m).used = (g m).used ∧ (fup g n v m).list = (g m).list := fun m hm => by rw [fup_ne hm]; exact ⟨rfl, rfl⟩
    cases l with
    | nil =>
      refine ⟨_, x.last_.set i.toNat n, _, r1, by simp, by simp, hla.same _, fun j y hj hy => hy.ne hla.1 hj _, trivial, fup_same, fun m hm => fup_ne (fun e => hm (by simp [e])), un, fun k => ?_⟩
      rw [if_pos (by simp [hdp]), hla.chk, Option.bind_some, hla.updA]
      rfl
    | cons c b =>
      obtain ⟨m0, m1⟩ := hrg c (by simp)
      have hcn : c ≠ n := fun e => hnl (by simp [e])
      have hat := r1 c m0 (by simpa using m1)
      refine ⟨_, x.last_, _, r1.set m0 (by simpa using m1) { fup g n v c with ahead := n }, by simp, rfl, hla, fun j y _ hy => hy, dl_p hndl hd1, (fup_ne (Ne.symm hcn)).trans fup_same, fun m hm => ?_, fun m hm => ?_, fun k => ?_⟩
      · have h1 : m ≠ c := fun e => hm (by simp [e])
        have h2 : m ≠ n := fun e => hm (by simp [e])
        rw [fup_ne h1, fup_ne h2]
      · by_cases h1 : m = c
        · subst h1
          rw [fup_same]
          exact un m hm
        · rw [fup_ne h1]
          exact un m hm
      · rw [if_neg (by simp [hdp]; omega), Option.bind_some, Option.bind_some]
        show ((chk _ c).bind _).bind k = _
        rw [hat.chk, Option.bind_some]
        show ((updA _ _ c _).bind _).bind k = _
        rw [hat.updA]
        rfl
  refine ⟨{ x with clock := x.clock + 1, nodes := N2, first_ := x.first_.set i.toNat n, last_ := f2, count := x.count.set i.toNat (l.length + 1 : Int) }, g2, ?_, r2, l2, ⟨by simp [hg.f], by simp [lf2, hg.l], by simp [hg.c], fun j l' hj => ?_⟩, rfl, rfl, u2, by rw [g2n], s2⟩
  · unfold lists_Lists_push
    simp only [lt_eq, w1]
    rw [hf.chk, Option.bind_some, hf.ixA, Option.bind_some, hn.chk, Option.bind_some, hn.updA, Option.bind_some, Option.bind_some, Option.bind_some]
    refine (k2 _).trans ?_
    rw [Option.bind_some, hf.updA, Option.bind_some, hc.chk, Option.bind_some, hc.ixA, Option.bind_some, Option.bind_some, w64_eq (by omega) (by omega), hc.updA]
    rfl
  · rcases hl.of_set hj with ⟨rfl, rfl⟩ | ⟨hji, hjl⟩
    · exact ⟨⟨by rw [g2n], by rw [g2n], by rw [g2n], d2⟩, hf.same _, af2, by simpa using hc.same (l.length + 1 : Int)⟩
    · obtain ⟨q1, q2, q3, q4⟩ := hg.dll j l' hjl
      have hd := hdis j l' hjl hji
      exact ⟨dl_congr (fun m hm => by rw [s2 m (fun h => hd m h hm)]; exact ⟨rfl, rfl, rfl⟩) q1, q2.ne hf.1 hji _, of2 j _ hji q3, q4.ne hc.1 hji _⟩
end Go.Proofs.YtobbifgmjkgkfaaDoor
namespace Go.Proofs.YtobbifgmjkgkfaaDoor
open Go Go.Va
set_option linter.unusedVariables false
set_option linter.unusedSimpArgs false
theorem flt_eq (op : List (BitVec 8)) (n c : Int) (hc : c ≠ 0) : trouble_New op n c = some (.fault op n c .nil) := by
  simp [trouble_New, lt_eq, hc]
theorem flt_code (op : List (BitVec 8)) (n c : Int) (hc : c ≠ 0) : codeOf (.fault op n c .nil) = c := by simp [codeOf, hc]
theorem outc (a m : Int) : (if a < 0 then some true else some (decide (a ≥ m))) = some (decide (a < 0 ∨ m ≤ a)) := by
  by_cases h : a < 0
  · rw [if_pos h, decide_eq_true (Or.inl h)]
  · rw [if_neg h]
    congr 1
    rw [decide_eq_decide]
    omega
structure Good (x : lists_Lists) (r : butteryref09_Lists) (g : Int → lists_link) (k : Int) : Prop where
  rep : Rep x.nodes g
  NN : r.Nodes = (x.nodes.length : Int)
  nN : x.nodes.length ≤ 65536
  gd : Gd g x.first_ x.last_ x.count r.L
  M : r.L.length ≤ 64
  rng : ∀ n ∈ r.Free ++ r.Used, 0 ≤ n ∧ n < x.nodes.length
  nod : (r.Free ++ r.Used).Nodup
  len : r.Free.length + r.Used.length = x.nodes.length
  cov : ∀ n, 0 ≤ n → n < (x.nodes.length : Int) → n ∈ r.Free ++ r.Used
  sub : ∀ i l, At r.L i l → l.Sublist r.Used
  mem : ∀ n ∈ r.Used, ∃ i l, At r.L i l ∧ n ∈ l
  fr : fl g r.Free
  free : x.free = hdp r.Free (-1)
  tm : r.Used.Pairwise fun a b => (g b).used < (g a).used
  ck : ∀ n ∈ r.Used, (g n).used ≤ x.clock
  ck2 : 0 ≤ x.clock ∧ x.clock ≤ k
section
variable {x : lists_Lists} {r : butteryref09_Lists} {g : Int → lists_link} {k : Int}
theorem Good.dis (G : Good x r g k) {i j m : Int} {l l' : List Int} (h : At r.L i l) (h' : At r.L j l') (hm : m ∈ l) (hm' : m ∈ l') : i = j :=
  (dl_list (G.gd.dll i l h).1 m hm).symm.trans (dl_list (G.gd.dll j l' h').1 m hm')
theorem Good.nfu (G : Good x r g k) {m : Int} (h : m ∈ r.Free) : m ∉ r.Used := fun h' => (List.nodup_append.1 G.nod).2.2 m h m h' rfl
theorem Good.nu (G : Good x r g k) : r.Used.Nodup := (List.nodup_append.1 G.nod).2.1
theorem Good.nf (G : Good x r g k) : r.Free.Nodup := (List.nodup_append.1 G.nod).1
theorem Good.ul (G : Good x r g k) : r.Used.length ≤ 65536 := by have := G.len; have := G.nN; omega
theorem Good.fll (G : Good x r g k) : r.Free.length ≤ 65536 := by have := G.len; have := G.nN; omega
theorem Good.ll (G : Good x r g k) {i : Int} {l : List Int} (h : At r.L i l) : l.length ≤ 65536 := Nat.le_trans (G.sub i l h).length_le G.ul
theorem Good.le (G : Good x r g k) : ∀ l ∈ r.L, l.length ≤ 70000 := fun l hl => by
  obtain ⟨i, hi⟩ := List.mem_iff_getElem?.1 hl
  have := G.ll (at_nat hi)
  omega
theorem Good.more (G : Good x r g k) {k' : Int} (h : k ≤ k') : Good x r g k' := { G with ck2 := ⟨G.ck2.1, Int.le_trans G.ck2.2 h⟩ }
theorem add_step (G : Good x r g k) (hk : k ≤ 1000) (i : Int) : ∃ x' r' n e c, lists_Lists_Add x i = some (n, e, x') ∧ butteryref09_Add r i = some (r', n, c) ∧ codeOf e = c ∧ x'.nodes.length = x.nodes.length ∧ r'.L.length = r.L.length ∧ (∃ g', Good x' r' g' (k + 1)) ∧ (∀ m F l, r.Free = m :: F → At r.L i l → e = .nil ∧ n = m ∧ r' = { r with L := r.L.set i.toNat (m :: l), Free := F, Used := m :: r.Used }) := by
  have hM := G.gd.f
  have hM2 := G.M
  have eX : lists_Lists_Add x i = if i < 0 ∨ (r.L.length : Int) ≤ i then some (-1, .fault [97#8, 100#8, 100#8] i 2 .nil, x) else if (x.free == (-1 : Int)) = true then some (-1, .fault [97#8, 100#8, 100#8] i 4 .nil, x) else (chk (x.nodes).length x.free).bind fun v22 =>
        (ixA (x.nodes).length x.nodes x.free).bind fun v24 =>
        (lists_Lists_push ({ ({ x with free := v24.behind } : lists_Lists) with nodes := x.nodes, first_ := x.first_, last_ := x.last_, count := x.count } : lists_Lists) x.free i).bind fun v27 =>
        some (x.free, Err.nil, v27) := by
    unfold lists_Lists_Add
    simp only [lt_eq, outc, Option.bind_some, decide_eq_true_eq, hM, flt_eq _ _ 2 (by decide), flt_eq _ _ 4 (by decide)]
  have eR : butteryref09_Add r i = if i < 0 ∨ (r.L.length : Int) ≤ i then some (r, -1, 2) else if ((r.Free.length : Int) == (0 : Int)) = true then some (r, -1, 4) else (ix r.Free (0 : Int)).bind fun v24 =>
        (ix r.L i).bind fun v26 =>
        (butteryref09_ahead v26 v24).bind fun v28 =>
        (butteryref09_with r i v28).bind fun v30 =>
        (cutFrom r.Free (1 : Int)).bind fun v35 =>
        (butteryref09_ahead r.Used v24).bind fun v40 =>
        some (({ ({ (v30 : butteryref09_Lists) with Free := v35 } : butteryref09_Lists) with Used := v40 } : butteryref09_Lists), v24, (0 : Int)) := by
    unfold butteryref09_Add
    simp only [lt_eq, outc, Option.bind_some, decide_eq_true_eq]
  by_cases h2 : i < 0 ∨ (r.L.length : Int) ≤ i
  · rw [eX, eR, if_pos h2, if_pos h2]
    exact ⟨x, r, _, _, _, rfl, rfl, flt_code _ _ _ (by decide), rfl, rfl, ⟨g, G.more (by omega)⟩, fun m F l _ hl => by have := hl.lt; have := hl.1; omega⟩
  rw [if_neg h2] at eX eR
  cases hF : r.Free with
  | nil =>
    have hfr := G.free
    rw [hF] at hfr
    rw [eX, eR, hF, if_pos (by rw [hfr]; rfl), if_pos (by simp)]
    exact ⟨x, r, _, _, _, rfl, rfl, flt_code _ _ _ (by decide), rfl, rfl, ⟨g, G.more (by omega)⟩, fun m F l h _ => by cases h⟩
  | cons n F =>
    have hfr := G.free
    have hfl := G.fr
    rw [hF] at hfr hfl
    have hnF : n ∈ r.Free := by rw [hF]; exact List.mem_cons_self
    obtain ⟨n0, n1⟩ := G.rng n (List.mem_append_left _ hnF)
    have hn := G.rep n n0 n1
    obtain ⟨l, hl⟩ := at_ex (show 0 ≤ i by omega) (show i < r.L.length by omega)
    have hsub := G.sub i l hl
    have hnl : n ∉ l := fun h => G.nfu hnF (hsub.subset h)
    have hfre : x.free = n := hfr
    rw [hfre, if_neg (by simp; omega), hn.chk, Option.bind_some, hn.ixA, Option.bind_some] at eX
    rw [hF, if_neg (by simp; omega)] at eR
    obtain ⟨x', g', q1, q2, q3, q4, q5, q6, q7, q8, q9⟩ := push_eq (x := { ({ x with free := (g n).behind } : lists_Lists) with nodes := x.nodes, first_ := x.first_, last_ := x.last_, count := x.count }) (n := n) G.rep G.gd hl (List.nodup_cons.2 ⟨hnl, hsub.nodup G.nu⟩)
      (fun m hm => by
        rcases List.mem_cons.1 hm with rfl | hm
        · exact ⟨n0, n1⟩
        · exact G.rng m (List.mem_append_right _ (hsub.subset hm)))
      (fun j l' hj hji m hm hm' => by
        rcases List.mem_cons.1 hm with rfl | hm
        · exact G.nfu hnF ((G.sub j l' hj).subset hm')
        · exact hji (G.dis hj hl hm' hm)) (by have := G.ll hl; omega) ⟨G.ck2.1, by have := G.ck2.2; show x.clock ≤ 1000000; omega⟩
    rw [q1, Option.bind_some] at eX
    have hul := G.ul
    have hll := G.ll hl
    rw [eX, eR, show ix (n :: F) (0 : Int) = some n from rfl, Option.bind_some, hl.ix, Option.bind_some, aheadF_eq _ _ (by omega), Option.bind_some, withF_eq r i _ hl (by omega), Option.bind_some, show cutFrom (n :: F) (1 : Int) = some F from by
      have := cutFrom_eq (l := n :: F) (n := 1) (by simp)
      exact this, Option.bind_some, aheadF_eq _ _ (by omega), Option.bind_some]
    refine ⟨x', { r with L := r.L.set i.toNat (n :: l), Free := F, Used := n :: r.Used }, n, .nil, 0, rfl, rfl, rfl, q3, by simp, ⟨g', ?_⟩, fun m F' l' h hl' => by cases h; rw [hl.uniq hl']; exact ⟨rfl, rfl, rfl⟩⟩
    have hnd : (F ++ n :: r.Used).Nodup := by
      have h := G.nod
      rw [hF] at h
      exact List.perm_middle.nodup_iff.2 h
    have q3' : x'.nodes.length = x.nodes.length := q3
    refine ⟨q2, by rw [q3']; exact G.NN, by rw [q3']; exact G.nN, q4, by simpa using G.M, fun m hm => ?_, hnd, ?_, fun m h0 h1 => ?_, fun j l' hj => ?_, fun m hm => ?_, ?_, ?_, ?_, fun m hm => ?_, ?_⟩
    · rw [q3']
      refine G.rng m ?_
      rw [hF]
      exact List.perm_middle.mem_iff.1 hm
    · have := G.len
      rw [hF] at this
      rw [q3']
      simp only [List.length_cons] at this ⊢
      omega
    · rw [q3'] at h1
      have := G.cov m h0 h1
      rw [hF] at this
      exact List.perm_middle.mem_iff.2 this
    · rcases hl.of_set hj with ⟨rfl, rfl⟩ | ⟨hji, hjl⟩
      · exact hsub.cons_cons n
      · exact (G.sub j l' hjl).cons n
    · rcases List.mem_cons.1 hm with rfl | hm
      · exact ⟨i, _, hl.same _, List.mem_cons_self⟩
      · obtain ⟨j, l', hj, hml⟩ := G.mem m hm
        by_cases hji : j = i
        · subst hji
          rw [hl.uniq hj]
          exact ⟨j, _, hj.same _, List.mem_cons_of_mem _ hml⟩
        · exact ⟨j, l', hj.ne hl.1 hji _, hml⟩
    · refine fl_congr (fun m hm => ?_) hfl.2.2
      have hmF : m ∈ r.Free := by rw [hF]; exact List.mem_cons_of_mem _ hm
      refine (q9 m fun h => ?_).symm
      rcases List.mem_cons.1 h with rfl | h
      · have h := G.nf
        rw [hF] at h
        exact (List.nodup_cons.1 h).1 hm
      · exact G.nfu hmF (hsub.subset h)
    · rw [q5]; exact hfl.1
    · refine List.pairwise_cons.2 ⟨fun b hb => ?_, ?_⟩
      · have hbn : b ≠ n := fun e => G.nfu hnF (e ▸ hb)
        rw [q8, (q7 b hbn).1]
        have := G.ck b hb
        show (g b).used < x.clock + 1
        omega
      · refine G.tm.imp_of_mem fun {a b} ha hb h => ?_
        rw [(q7 b (fun e => G.nfu hnF (e ▸ hb))).1, (q7 a (fun e => G.nfu hnF (e ▸ ha))).1]
        exact h
    · rw [q6]
      rcases List.mem_cons.1 hm with rfl | hm
      · rw [q8]; exact Int.le_refl _
      · rw [(q7 m (fun e => G.nfu hnF (e ▸ hm))).1]
        have := G.ck m hm
        show _ ≤ x.clock + 1
        omega
    · rw [q6]
      have := G.ck2
      constructor
      · show 0 ≤ x.clock + 1; omega
      · show x.clock + 1 ≤ k + 1; omega
/-- Where a node stands. -/
theorem at_spec (G : Good x r g k) (op : List (BitVec 8)) (n : Int) : ((n < 0 ∨ (x.nodes.length : Int) ≤ n) ∧ lists_Lists_at x op n = some (.fault op n 2 .nil) ∧ butteryref09_at r n = some 2) ∨
    (n ∈ r.Free ∧ lists_Lists_at x op n = some (.fault op n 9 .nil) ∧ butteryref09_at r n = some 9 ∧ (g n).list = -1 ∧ butteryref09_List r n = some (-1)) ∨
    (n ∈ r.Used ∧ lists_Lists_at x op n = some .nil ∧ butteryref09_at r n = some 0 ∧ ∃ i l, At r.L i l ∧ n ∈ l ∧ (g n).list = i ∧ butteryref09_List r n = some i) := by
  have hNN := G.NN
  have eX : lists_Lists_at x op n = if n < 0 ∨ (x.nodes.length : Int) ≤ n then some (.fault op n 2 .nil) else (chk (x.nodes).length n).bind fun v17 =>
      (ixA (x.nodes).length x.nodes n).bind fun v19 => if (v19.list == (-1 : Int)) = true then some (.fault op n 9 .nil) else some Err.nil := by
    unfold lists_Lists_at
    simp only [lt_eq, outc, Option.bind_some, decide_eq_true_eq, flt_eq _ _ 2 (by decide), flt_eq _ _ 9 (by decide)]
  have eR : butteryref09_at r n = if n < 0 ∨ r.Nodes ≤ n then some 2 else (butteryref09_List r n).bind fun v13 => if v13 < 0 then some 9 else some 0 := by
    unfold butteryref09_at
    simp only [lt_eq, outc, Option.bind_some, decide_eq_true_eq]
  rw [hNN] at eR
  by_cases h1 : n < 0 ∨ (x.nodes.length : Int) ≤ n
  · left
    rw [eX, eR, if_pos h1, if_pos h1]
    exact ⟨h1, rfl, rfl⟩
  rw [if_neg h1] at eX eR
  right
  have hn := G.rep n (by omega) (by omega)
  obtain ⟨kk, hk1, hk2⟩ := listF_eq r n G.M G.le
  have hA : lists_Lists_at x op n = if ((g n).list == (-1 : Int)) = true then some (.fault op n 9 .nil) else some .nil := by
    rw [eX, hn.chk, Option.bind_some, hn.ixA, Option.bind_some]
  have hB : butteryref09_at r n = if kk < 0 then some 9 else some 0 := by
    rw [eR, hk1, Option.bind_some]
  rcases List.mem_append.1 (G.cov n (by omega) (by omega)) with hf | hu
  · left
    have hl := fl_list G.fr n hf
    have hkk : kk = -1 := by
      rcases hk2 with ⟨h, _⟩ | ⟨l, h3, h4⟩
      · exact h
      · exact absurd ((G.sub _ _ h3).subset h4) (G.nfu hf)
    subst hkk
    refine ⟨hf, by rw [hA, hl]; rfl, by rw [hB]; rfl, hl, hk1⟩
  · right
    obtain ⟨i, l, h3, h4⟩ := G.mem n hu
    have hl := dl_list (G.gd.dll i l h3).1 n h4
    have hkk : kk = i := by
      rcases hk2 with ⟨_, h⟩ | ⟨l', h5, h6⟩
      · exact absurd h4 (h l (List.mem_of_getElem? h3.2))
      · exact G.dis h5 h3 h6 h4
    subst hkk
    have := h3.1
    refine ⟨hu, by rw [hA, hl, if_neg (by simp; omega)], by rw [hB, if_neg (by omega)], kk, l, h3, h4, hl, hk1⟩
theorem Gd.congr {g g' : Int → lists_link} {fs ls cs : List Int} {L : List (List Int)} (h : Gd g fs ls cs L) (he : ∀ i l, At L i l → ∀ m ∈ l, g' m = g m) : Gd g' fs ls cs L :=
  ⟨h.f, h.l, h.c, fun i l hl => ⟨dl_congr (fun m hm => by rw [he i l hl m hm]; exact ⟨rfl, rfl, rfl⟩) (h.dll i l hl).1, (h.dll i l hl).2⟩⟩
end
end Go.Proofs.YtobbifgmjkgkfaaDoor
namespace Go.Proofs.YtobbifgmjkgkfaaDoor
open Go Go.Va
set_option linter.unusedVariables false
set_option linter.unusedSimpArgs false
section
variable {x : lists_Lists} {r : butteryref09_Lists} {g : Int → lists_link} {k : Int}
/-- A node of a list, pulled. -/
theorem Good.pulled (G : Good x r g k) {i n : Int} {l : List Int} (hl : At r.L i l) (hn : n ∈ l) : l.Nodup ∧ ∃ x' g', lists_Lists_pull x n = some x' ∧ Rep x'.nodes g' ∧ x'.nodes.length = x.nodes.length ∧ Gd g' x'.first_ x'.last_ x'.count (r.L.set i.toNat (but l n)) ∧ x'.free = x.free ∧ x'.clock = x.clock ∧ ulEq g g' ∧ ∀ m, m ∉ l → g' m = g m := by
  obtain ⟨a, b, rfl⟩ := List.append_of_mem hn
  have hsub := G.sub i _ hl
  have hnd := hsub.nodup G.nu
  refine ⟨hnd, ?_⟩
  have hll := G.ll hl
  obtain ⟨x', g', q1, q2, q3, q4, q5, q6, q7, q8⟩ := pull_eq G.rep G.gd hl hnd (fun m hm => G.rng m (List.mem_append_right _ (hsub.subset hm))) (fun j l' hj hji m hm hm' => hji (G.dis hj hl hm' hm)) (by omega)
  rw [← but_split hnd] at q4
  exact ⟨x', g', q1, q2, q3, q4, q5, q6, q7, fun m hm => q8 m (fun h => hm (by simp [h])) (fun h => hm (by simp [h]))⟩
theorem but_len {l : List Int} {n : Int} (hn : l.Nodup) (h : n ∈ l) : (but l n).length + 1 = l.length := by
  obtain ⟨a, b, rfl⟩ := List.append_of_mem h
  rw [but_split hn]
  simp only [List.length_append, List.length_cons]
  omega
theorem but_le (l : List Int) (n : Int) : (but l n).length ≤ l.length := List.length_filter_le _ _
theorem but_perm {l : List Int} {n : Int} (hn : l.Nodup) (h : n ∈ l) : (n :: but l n).Perm l := by
  obtain ⟨a, b, rfl⟩ := List.append_of_mem h
  rw [but_split hn]
  exact List.perm_middle.symm
theorem but_sub {l u : List Int} (h : l.Sublist u) (n : Int) : (but l n).Sublist (but u n) := h.filter _
theorem drop_step (G : Good x r g k) (hk : k ≤ 1000) (n : Int) : ∃ x' r' e c, lists_Lists_Drop x n = some (e, x') ∧ butteryref09_Drop r n = some (r', c) ∧ codeOf e = c ∧ x'.nodes.length = x.nodes.length ∧ r'.L.length = r.L.length ∧ (∃ g', Good x' r' g' (k + 1)) ∧ ((n < 0 ∨ (x.nodes.length : Int) ≤ n) → r' = r ∧ c = 2) := by
  unfold lists_Lists_Drop butteryref09_Drop
  simp only [lt_eq]
  rcases at_spec G [100#8, 114#8, 111#8, 112#8] n with ⟨_, h1, h2⟩ | ⟨hf, h1, h2, _⟩ | ⟨hu, h1, h2, i, l, hl, hnl, hgl, hL⟩
  · rw [h1, h2, Option.bind_some, Option.bind_some]
    exact ⟨x, r, _, _, rfl, rfl, flt_code _ _ _ (by decide), rfl, rfl, ⟨g, G.more (by omega)⟩, fun _ => ⟨rfl, rfl⟩⟩
  · rw [h1, h2, Option.bind_some, Option.bind_some]
    exact ⟨x, r, _, _, rfl, rfl, flt_code _ _ _ (by decide), rfl, rfl, ⟨g, G.more (by omega)⟩, fun h => by have := G.rng n (List.mem_append_left _ hf); omega⟩
  obtain ⟨hnd, x', g', q1, q2, q3, q4, q5, q6, q7, q8⟩ := G.pulled hl hnl
  obtain ⟨n0, n1⟩ := G.rng n (List.mem_append_right _ hu)
  have hn := q2 n n0 (by omega)
  have hM := G.M
  have hll := G.ll hl
  have hul := G.ul
  have hfl := G.fll
  have hbl := but_le l n
  rw [h1, h2, Option.bind_some, Option.bind_some, q1]
  simp only [Err.isNil, Bool.not_true, Bool.false_eq_true, if_false, Option.bind_some]
  rw [hn.chk, Option.bind_some, hn.updA, Option.bind_some, if_neg (by simp), hL, Option.bind_some, hl.ix, Option.bind_some, butF_eq _ _ (by omega), Option.bind_some, withF_eq r i _ hl (by omega), Option.bind_some, aheadF_eq _ _ (by omega), Option.bind_some, butF_eq _ _ (by omega), Option.bind_some]
  refine ⟨_, { r with L := r.L.set i.toNat (but l n), Free := n :: r.Free, Used := but r.Used n }, .nil, 0, rfl, rfl, rfl, by simp [q3], by simp, ⟨fup g' n ⟨-1, x'.free, -1, 0⟩, ?_⟩, fun h => by omega⟩
  have hnf : n ∉ r.Free := fun h => G.nfu h hu
  have hpm : (n :: r.Free ++ but r.Used n).Perm (r.Free ++ r.Used) := (List.perm_middle.symm).trans (List.Perm.append_left _ (but_perm G.nu hu))
  have hgm : ∀ m, m ≠ n → (fup g' n ⟨-1, x'.free, -1, 0⟩ m).used = (g m).used := fun m hm => by rw [fup_ne hm]; exact (q7 m).1
  have hnodes : (x'.nodes.set n.toNat ⟨-1, x'.free, -1, 0⟩).length = x.nodes.length := by simp [q3]
  refine ⟨q2.set n0 (by omega) _, by show r.Nodes = _; rw [hnodes]; exact G.NN, by show (x'.nodes.set _ _).length ≤ _; rw [hnodes]; exact G.nN, ?_, by simpa using G.M, fun m hm => ?_, hpm.nodup_iff.2 G.nod, ?_, fun m h0 h1 => ?_, fun j l' hj => ?_, fun m hm => ?_, ?_, rfl, ?_, fun m hm => ?_, ?_⟩
  · refine Gd.congr q4 fun j l' hj m hm => fup_ne fun e => ?_
    subst e
    rcases hl.of_set hj with ⟨rfl, rfl⟩ | ⟨hji, hjl⟩
    · exact (mem_but.1 hm).2 rfl
    · exact hji (G.dis hjl hl hm hnl)
  · show 0 ≤ m ∧ m < ((x'.nodes.set n.toNat ⟨-1, x'.free, -1, 0⟩).length : Int)
    rw [hnodes]
    exact G.rng m (hpm.mem_iff.1 hm)
  · show (n :: r.Free).length + (but r.Used n).length = (x'.nodes.set n.toNat ⟨-1, x'.free, -1, 0⟩).length
    rw [hnodes]
    have := but_len G.nu hu
    have := G.len
    simp only [List.length_cons]
    omega
  · have h1' : m < ((x'.nodes.set n.toNat ⟨-1, x'.free, -1, 0⟩).length : Int) := h1
    rw [hnodes] at h1'
    exact hpm.mem_iff.2 (G.cov m h0 h1')
  · rcases hl.of_set hj with ⟨rfl, rfl⟩ | ⟨hji, hjl⟩
    · exact but_sub (G.sub _ _ hl) n
    · have h3 := but_sub (G.sub j l' hjl) n
      rwa [but_not (fun h => hji (G.dis hjl hl h hnl))] at h3
  · obtain ⟨hmu, hmn⟩ := mem_but.1 hm
    obtain ⟨j, l', hj, hml⟩ := G.mem m hmu
    by_cases hji : j = i
    · subst hji
      rw [← hl.uniq hj] at hml
      exact ⟨j, _, hj.same _, mem_but.2 ⟨hml, hmn⟩⟩
    · exact ⟨j, l', hj.ne hl.1 hji _, hml⟩
  · refine ⟨?_, ?_, fl_congr (fun m hm => ?_) G.fr⟩
    · rw [fup_same]
      show x'.free = _
      rw [q5]; exact G.free
    · rw [fup_same]
    · rw [fup_ne (show m ≠ n from fun e => hnf (e ▸ hm))]
      exact (q8 m fun h => G.nfu hm ((G.sub _ _ hl).subset h)).symm
  · have h3 : (but r.Used n).Pairwise fun a b => (g b).used < (g a).used := G.tm.sublist List.filter_sublist
    refine h3.imp_of_mem fun {a b} ha hb h => ?_
    rw [hgm a (mem_but.1 ha).2, hgm b (mem_but.1 hb).2]
    exact h
  · obtain ⟨hmu, hmn⟩ := mem_but.1 hm
    rw [hgm m hmn]
    show _ ≤ x'.clock
    rw [q6]
    exact G.ck m hmu
  · show 0 ≤ x'.clock ∧ x'.clock ≤ k + 1
    rw [q6]
    have := G.ck2
    omega
theorem touch_step (G : Good x r g k) (hk : k ≤ 1000) (n : Int) : ∃ x' r' e c, lists_Lists_Touch x n = some (e, x') ∧ butteryref09_Touch r n = some (r', c) ∧ codeOf e = c ∧ x'.nodes.length = x.nodes.length ∧ r'.L.length = r.L.length ∧ (∃ g', Good x' r' g' (k + 1)) ∧
    (n ∈ r.Used → e = .nil ∧ ∃ i l, At r.L i l ∧ n ∈ l ∧ (g n).list = i ∧ r'.L = r.L.set i.toNat (n :: but l n) ∧ r'.Used = n :: but r.Used n) := by
  unfold lists_Lists_Touch butteryref09_Touch
  simp only [lt_eq]
  rcases at_spec G [116#8, 111#8, 117#8, 99#8, 104#8] n with ⟨h0, h1, h2⟩ | ⟨h0, h1, h2, _⟩ | ⟨hu, h1, h2, i, l, hl, hnl, hgl, hL⟩
  · rw [h1, h2, Option.bind_some, Option.bind_some]
    exact ⟨x, r, _, _, rfl, rfl, flt_code _ _ _ (by decide), rfl, rfl, ⟨g, G.more (by omega)⟩, fun h => by have := G.rng n (List.mem_append_right _ h); omega⟩
  · rw [h1, h2, Option.bind_some, Option.bind_some]
    exact ⟨x, r, _, _, rfl, rfl, flt_code _ _ _ (by decide), rfl, rfl, ⟨g, G.more (by omega)⟩, fun h => absurd h (G.nfu h0)⟩
  obtain ⟨hnd, x', g', q1, q2, q3, q4, q5, q6, q7, q8⟩ := G.pulled hl hnl
  obtain ⟨n0, n1⟩ := G.rng n (List.mem_append_right _ hu)
  have hn := G.rep n n0 (by omega)
  have hM := G.M
  have hll := G.ll hl
  have hul := G.ul
  have hbl := but_le l n
  have hbu := but_le r.Used n
  have hck := G.ck2
  have hl' : At (r.L.set i.toNat (but l n)) i (but l n) := hl.same _
  have hsub := G.sub i l hl
  obtain ⟨y, g2, p1, p2, p3, p4, p5, p6, p7, p8, p9⟩ := push_eq (n := n) q2 q4 hl' (List.nodup_cons.2 ⟨fun h => (mem_but.1 h).2 rfl, hnd.sublist List.filter_sublist⟩)
    (fun m hm => by
      rw [q3]
      rcases List.mem_cons.1 hm with rfl | hm
      · exact ⟨n0, n1⟩
      · exact G.rng m (List.mem_append_right _ (hsub.subset (mem_but.1 hm).1)))
    (fun j l'' hj hji m hm hm' => by
      rcases hl.of_set hj with ⟨e, _⟩ | ⟨_, hjl⟩
      · exact hji e
      · rcases List.mem_cons.1 hm with rfl | hm
        · exact hji (G.dis hjl hl hm' hnl)
        · exact hji (G.dis hjl hl hm' (mem_but.1 hm).1)) (by omega) (by omega)
  rw [List.set_set] at p4
  rw [h1, h2, Option.bind_some, Option.bind_some]
  simp only [Err.isNil, Bool.not_true, Bool.false_eq_true, if_false, Option.bind_some]
  rw [hn.chk, Option.bind_some, hn.ixA, Option.bind_some, q1, Option.bind_some, hgl, p1, Option.bind_some, if_neg (by simp), hL, Option.bind_some, hl.ix, Option.bind_some, butF_eq _ _ (by omega), Option.bind_some, aheadF_eq _ _ (by omega), Option.bind_some, withF_eq r i _ hl (by omega), Option.bind_some, butF_eq _ _ (by omega), Option.bind_some, aheadF_eq _ _ (by omega), Option.bind_some]
  refine ⟨y, { r with L := r.L.set i.toNat (n :: but l n), Used := n :: but r.Used n }, .nil, 0, rfl, rfl, rfl, by rw [p3, q3], by simp, ⟨g2, ?_⟩, fun _ => ⟨rfl, i, l, hl, hnl, rfl, rfl, rfl⟩⟩
  have hpu := but_perm G.nu hu
  have hpm : (r.Free ++ n :: but r.Used n).Perm (r.Free ++ r.Used) := List.Perm.append_left _ hpu
  have hgm : ∀ m, m ≠ n → (g2 m).used = (g m).used := fun m hm => (p7 m hm).1.trans (q7 m).1
  have hnodes : y.nodes.length = x.nodes.length := p3.trans q3
  refine ⟨p2, by rw [hnodes]; exact G.NN, by rw [hnodes]; exact G.nN, p4, by simpa using G.M, fun m hm => ?_, hpm.nodup_iff.2 G.nod, ?_, fun m h0 h1 => ?_, fun j l' hj => ?_, fun m hm => ?_, ?_, ?_, ?_, fun m hm => ?_, ?_⟩
  · rw [hnodes]
    exact G.rng m (hpm.mem_iff.1 hm)
  · rw [hnodes]
    have := hpu.length_eq
    have := G.len
    show r.Free.length + (n :: but r.Used n).length = _
    omega
  · rw [hnodes] at h1
    exact hpm.mem_iff.2 (G.cov m h0 h1)
  · rcases hl.of_set hj with ⟨rfl, rfl⟩ | ⟨hji, hjl⟩
    · exact (but_sub (G.sub _ _ hl) n).cons_cons n
    · have h3 := but_sub (G.sub j l' hjl) n
      rw [but_not (fun h => hji (G.dis hjl hl h hnl))] at h3
      exact h3.cons n
  · rcases List.mem_cons.1 hm with rfl | hm
    · exact ⟨i, _, hl.same _, List.mem_cons_self⟩
    · obtain ⟨hmu, hmn⟩ := mem_but.1 hm
      obtain ⟨j, l', hj, hml⟩ := G.mem m hmu
      by_cases hji : j = i
      · subst hji
        rw [← hl.uniq hj] at hml
        exact ⟨j, _, hj.same _, List.mem_cons_of_mem _ (mem_but.2 ⟨hml, hmn⟩)⟩
      · exact ⟨j, l', hj.ne hl.1 hji _, hml⟩
  · refine fl_congr (fun m hm => ?_) G.fr
    have hml : m ∉ l := fun h => G.nfu hm (hsub.subset h)
    rw [p9 m, q8 m hml]
    intro h
    rcases List.mem_cons.1 h with rfl | h
    · exact hml hnl
    · exact hml (mem_but.1 h).1
  · rw [p5, q5]; exact G.free
  · refine List.pairwise_cons.2 ⟨fun b hb => ?_, ?_⟩
    · rw [p8, hgm b (mem_but.1 hb).2, q6]
      have := G.ck b (mem_but.1 hb).1
      omega
    · have h3 : (but r.Used n).Pairwise fun a b => (g b).used < (g a).used := G.tm.sublist List.filter_sublist
      refine h3.imp_of_mem fun {a b} ha hb h => ?_
      rw [hgm a (mem_but.1 ha).2, hgm b (mem_but.1 hb).2]
      exact h
  · rw [p6, q6]
    rcases List.mem_cons.1 hm with rfl | hm
    · rw [p8, q6]; exact Int.le_refl _
    · obtain ⟨hmu, hmn⟩ := mem_but.1 hm
      rw [hgm m hmn]
      have := G.ck m hmu
      omega
  · rw [p6, q6]
    omega
end
end Go.Proofs.YtobbifgmjkgkfaaDoor
namespace Go.Proofs.YtobbifgmjkgkfaaDoor
open Go Go.Va
set_option linter.unusedVariables false
set_option linter.unusedSimpArgs false
set_option maxRecDepth 20000
noncomputable def butterylaw09_do (x0 : lists_Lists) (x1 : butteryref09_Lists) (x2 : butterylaw09_Op) : Option (butteryref09_Lists × Bool × lists_Lists) :=
  lt (x2.Kind == (0 : Int)) fun v4 =>
  if v4 = true then
    (butteryref09_Add x1 x2.At).bind fun v7 =>
    (lists_Lists_Add x0 x2.At).bind fun v12 =>
    lt (v12.1 == v7.2.1) fun v14 =>
    if v14 = true then
      (trouble_Of v12.2.1).bind fun v17 =>
      lt (v17 == v7.2.2) fun v19 =>
      some (((v7.1 : butteryref09_Lists) : butteryref09_Lists), v19, v12.2.2)
    else
      some (((v7.1 : butteryref09_Lists) : butteryref09_Lists), false, v12.2.2)
  else
    lt (x2.Kind == (1 : Int)) fun v23 =>
    if v23 = true then
      (butteryref09_Drop x1 x2.At).bind fun v26 =>
      (lists_Lists_Drop x0 x2.At).bind fun v31 =>
      (trouble_Of v31.1).bind fun v33 =>
      lt (v33 == v26.2) fun v35 =>
      some (((v26.1 : butteryref09_Lists) : butteryref09_Lists), v35, v31.2)
    else
      lt (x2.Kind == (2 : Int)) fun v38 =>
      if v38 = true then
        (butteryref09_Touch x1 x2.At).bind fun v41 =>
        (lists_Lists_Touch x0 x2.At).bind fun v46 =>
        (trouble_Of v46.1).bind fun v48 =>
        lt (v48 == v41.2) fun v50 =>
        some (((v41.1 : butteryref09_Lists) : butteryref09_Lists), v50, v46.2)
      else
        some ((x1 : butteryref09_Lists), true, x0)
end Go.Proofs.YtobbifgmjkgkfaaDoor
namespace Go.Proofs.YtobbifgmjkgkfaaDoor
open Go Go.Va
set_option linter.unusedVariables false
set_option linter.unusedSimpArgs false
set_option maxRecDepth 20000
noncomputable def butterylaw09_same_b0 (x0 : lists_Lists) (x1 : butteryref09_Lists) (x2 : Int) (c1 : Int) : Option ((Int) ⊕ (Unit ⊕ (Bool))) :=
  lt (((x1.L).length : Int)) fun v12 =>
  lt (decide (c1 < v12)) fun v14 =>
  if v14 = true then
    (
      (lists_Lists_Order x0 c1).bind fun v21 =>
      (ix x1.L c1).bind fun v23 =>
      (butteryref02_Ints v21 v23).bind fun v25 =>
      lt (!v25) fun v27 =>
      if v27 = true then
        some true
      else
        (lists_Lists_Last x0 c1).bind fun v30 =>
        (ix x1.L c1).bind fun v32 =>
        (butteryref09_Last v32).bind fun v34 =>
        lt (v30 != v34) fun v36 =>
        if v36 = true then
          some true
        else
          (lists_Lists_Len x0 c1).bind fun v39 =>
          (ix x1.L c1).bind fun v41 =>
          lt (((v41).length : Int)) fun v43 =>
          lt (v39 != v43) fun v45 =>
          some v45
     : Option (Bool)).bind fun s16 =>
      if s16 = true then
        some (.inr (.inr false))
      else
        lt (w64 (c1 + (1 : Int))) fun v50 =>
        some (.inl v50)
  else
    some (.inr (.inl ()))
noncomputable def butterylaw09_same_l0 (x0 : lists_Lists) (x1 : butteryref09_Lists) (x2 : Int) (s : Int) : Option (Unit ⊕ (Bool)) := loopO (fun s => butterylaw09_same_b0 x0 x1 x2 s) s
noncomputable def butterylaw09_same_b1 (x0 : lists_Lists) (x1 : butteryref09_Lists) (x2 : Int) (c52 : Int) : Option ((Int) ⊕ (Unit ⊕ (Bool))) :=
  (
    lt (decide (c52 < x1.Nodes)) fun v67 =>
    if v67 = true then
      lt (decide (c52 < (40 : Int))) fun v70 =>
      some v70
    else
      some false
   : Option (Bool)).bind fun s62 =>
    if s62 = true then
      (lists_Lists_List x0 c52).bind fun v74 =>
      (butteryref09_List x1 c52).bind fun v76 =>
      lt (v74 != v76) fun v78 =>
      if v78 = true then
        some (.inr (.inr false))
      else
        lt (w64 (c52 + (1 : Int))) fun v82 =>
        some (.inl v82)
    else
      some (.inr (.inl ()))
noncomputable def butterylaw09_same_l1 (x0 : lists_Lists) (x1 : butteryref09_Lists) (x2 : Int) (s : Int) : Option (Unit ⊕ (Bool)) := loopO (fun s => butterylaw09_same_b1 x0 x1 x2 s) s
noncomputable def butterylaw09_same (x0 : lists_Lists) (x1 : butteryref09_Lists) (x2 : Int) : Option (Bool) :=
  (butterylaw09_same_l0 x0 x1 x2 (0 : Int)).bind fun o2 =>
    Sum.elim (fun s9 : Unit =>
      (butterylaw09_same_l1 x0 x1 x2 (0 : Int)).bind fun o53 =>
        Sum.elim (fun s60 : Unit =>
          (
            lt (decide (x2 < (0 : Int))) fun v89 =>
            if v89 = true then
              some true
            else
              lt (((x1.L).length : Int)) fun v92 =>
              lt (decide (x2 ≥ v92)) fun v94 =>
              some v94
           : Option (Bool)).bind fun s84 =>
            (lists_Lists_Oldest x0).bind fun v97 =>
            (butteryref09_Last x1.Used).bind fun v99 =>
            lt (v97 == v99) fun v101 =>
            if v101 = true then
              lt (!s84) fun v104 =>
              if v104 = true then
                lt (decide (x2 ≥ (0 : Int))) fun v107 =>
                if v107 = true then
                  lt (decide (x2 < x1.Nodes)) fun v110 =>
                  if v110 = true then
                    some true
                  else
                    (lists_Lists_List x0 x2).bind fun v113 =>
                    lt (v113 == (-1 : Int)) fun v115 =>
                    some v115
                else
                  (lists_Lists_List x0 x2).bind fun v117 =>
                  lt (v117 == (-1 : Int)) fun v119 =>
                  some v119
              else
                (lists_Lists_Order x0 x2).bind fun v121 =>
                lt (((v121).length : Int)) fun v123 =>
                lt (v123 == (0 : Int)) fun v125 =>
                if v125 = true then
                  (lists_Lists_Last x0 x2).bind fun v128 =>
                  lt (v128 == (-1 : Int)) fun v130 =>
                  if v130 = true then
                    (lists_Lists_Len x0 x2).bind fun v133 =>
                    lt (v133 == (0 : Int)) fun v135 =>
                    if v135 = true then
                      lt (decide (x2 ≥ (0 : Int))) fun v138 =>
                      if v138 = true then
                        lt (decide (x2 < x1.Nodes)) fun v141 =>
                        if v141 = true then
                          some true
                        else
                          (lists_Lists_List x0 x2).bind fun v144 =>
                          lt (v144 == (-1 : Int)) fun v146 =>
                          some v146
                      else
                        (lists_Lists_List x0 x2).bind fun v148 =>
                        lt (v148 == (-1 : Int)) fun v150 =>
                        some v150
                    else
                      some false
                  else
                    some false
                else
                  some false
            else
              some false
          ) (fun y => some y) o53
      ) (fun y => some y) o2
end Go.Proofs.YtobbifgmjkgkfaaDoor
namespace Go.Proofs.YtobbifgmjkgkfaaDoor
open Go Go.Va
set_option linter.unusedVariables false
set_option linter.unusedSimpArgs false
section
variable {x : lists_Lists} {r : butteryref09_Lists} {g : Int → lists_link} {k : Int}
theorem order_loop (G : Good x r g k) {i : Int} : ∀ (l acc : List Int) (p : Int), dl g i p l (-1) → (∀ m ∈ l, 0 ≤ m ∧ m < (x.nodes.length : Int)) → acc.length + l.length ≤ 70000 → loopO (fun s => lists_Lists_Order_b0 x s.1 s.2) (acc, hdp l (-1)) = some (acc ++ l)
  | [], acc, p, _, _, _ => by
    refine loopO_out ?_
    unfold lists_Lists_Order_b0
    simp [lt_eq, hdp]
  | m :: l, acc, p, hd, hr, hle => by
    obtain ⟨h1, h2, h3, h4⟩ := hd
    obtain ⟨m0, m1⟩ := hr m List.mem_cons_self
    have hm := G.rep m m0 m1
    simp only [List.length_cons] at hle
    rw [loopO_in (s' := (acc ++ [m], hdp l (-1)))]
    · rw [order_loop G l (acc ++ [m]) m h4 (fun q hq => hr q (List.mem_cons_of_mem _ hq)) (by simp; omega)]
      simp
    · show lists_Lists_Order_b0 x acc m = _
      unfold lists_Lists_Order_b0
      simp only [lt_eq]
      rw [if_pos (by simp; omega), app_eq (by simp; omega), Option.bind_some, hm.chk, Option.bind_some, hm.ixA, Option.bind_some, h2]
theorem Good.rl (G : Good x r g k) {i : Int} {l : List Int} (hl : At r.L i l) : ∀ m ∈ l, 0 ≤ m ∧ m < (x.nodes.length : Int) := fun m hm => G.rng m (List.mem_append_right _ ((G.sub i l hl).subset hm))
theorem order_eq (G : Good x r g k) {i : Int} {l : List Int} (hl : At r.L i l) : lists_Lists_Order x i = some l := by
  obtain ⟨q1, q2, q3, q4⟩ := G.gd.dll i l hl
  have h0 := hl.1
  have h1 := q2.lt
  have hll := G.ll hl
  unfold lists_Lists_Order lists_Lists_Order_l0
  simp only [lt_eq, decide_eq_true_eq, outc, Option.bind_some]
  rw [if_neg (by omega), q2.chk, Option.bind_some, q2.ixA, Option.bind_some, order_loop G l [] (-1) q1 (G.rl hl) (by simp; omega)]
  rfl
theorem order_out (G : Good x r g k) {i : Int} (h : i < 0 ∨ (r.L.length : Int) ≤ i) : lists_Lists_Order x i = some [] := by
  have := G.gd.f
  unfold lists_Lists_Order
  simp only [lt_eq, decide_eq_true_eq, outc, Option.bind_some]
  rw [if_pos (by omega)]
theorem last_eq (G : Good x r g k) {i : Int} {l : List Int} (hl : At r.L i l) : lists_Lists_Last x i = some (lsp (-1) l) := by
  obtain ⟨q1, q2, q3, q4⟩ := G.gd.dll i l hl
  have h0 := hl.1
  have h1 := q3.lt
  unfold lists_Lists_Last
  simp only [lt_eq, decide_eq_true_eq, outc, Option.bind_some]
  rw [if_neg (by omega), q3.chk, Option.bind_some, q3.ixA, Option.bind_some]
theorem last_out (G : Good x r g k) {i : Int} (h : i < 0 ∨ (r.L.length : Int) ≤ i) : lists_Lists_Last x i = some (-1) := by
  have := G.gd.l
  unfold lists_Lists_Last
  simp only [lt_eq, decide_eq_true_eq, outc, Option.bind_some]
  rw [if_pos (by omega)]
theorem len_eq (G : Good x r g k) {i : Int} {l : List Int} (hl : At r.L i l) : lists_Lists_Len x i = some (l.length : Int) := by
  obtain ⟨q1, q2, q3, q4⟩ := G.gd.dll i l hl
  have h0 := hl.1
  have h1 := q4.lt
  unfold lists_Lists_Len
  simp only [lt_eq, decide_eq_true_eq, outc, Option.bind_some]
  rw [if_neg (by omega), q4.chk, Option.bind_some, q4.ixA, Option.bind_some]
theorem len_out (G : Good x r g k) {i : Int} (h : i < 0 ∨ (r.L.length : Int) ≤ i) : lists_Lists_Len x i = some 0 := by
  have := G.gd.c
  unfold lists_Lists_Len
  simp only [lt_eq, decide_eq_true_eq, outc, Option.bind_some]
  rw [if_pos (by omega)]
theorem listX_in (G : Good x r g k) {n : Int} (h0 : 0 ≤ n) (h1 : n < (x.nodes.length : Int)) : lists_Lists_List x n = some (g n).list := by
  have hn := G.rep n h0 h1
  unfold lists_Lists_List
  simp only [lt_eq, decide_eq_true_eq, outc, Option.bind_some]
  rw [if_neg (by omega), hn.chk, Option.bind_some, hn.ixA, Option.bind_some]
theorem listX_out {n : Int} (h : n < 0 ∨ (x.nodes.length : Int) ≤ n) : lists_Lists_List x n = some (-1) := by
  unfold lists_Lists_List
  simp only [lt_eq, decide_eq_true_eq, outc, Option.bind_some]
  rw [if_pos h]
theorem list_same (G : Good x r g k) {n : Int} (h0 : 0 ≤ n) (h1 : n < (x.nodes.length : Int)) : butteryref09_List r n = some (g n).list := by
  rcases at_spec G [] n with ⟨h, _⟩ | ⟨_, _, _, h, h'⟩ | ⟨_, _, _, i, l, _, _, h, h'⟩
  · omega
  · rw [h, h']
  · rw [h, h']
/-! ### the oldest one -/
theorem last_min {f : Int → Int} : ∀ {u : List Int} {p m : Int}, (u.Pairwise fun a b => f b < f a) → m ∈ u → m ≠ lsp p u → f (lsp p u) < f m
  | [], _, _, _, h, _ => absurd h List.not_mem_nil
  | a :: u, p, m, hp, hm, hne => by
    obtain ⟨h1, h2⟩ := List.pairwise_cons.1 hp
    simp only [lsp] at hne ⊢
    cases u with
    | nil =>
      simp only [lsp, List.mem_singleton] at hne hm
      exact absurd hm hne
    | cons b u =>
      rcases List.mem_cons.1 hm with rfl | hm
      · exact h1 _ (lsp_mem (by simp))
      · exact last_min h2 hm hne
theorem Good.lastof (G : Good x r g k) {i : Int} {l : List Int} (hl : At r.L i l) (hu : lsp (-1) r.Used ∈ l) : lsp (-1) l = lsp (-1) r.Used := by
  refine Classical.byContradiction fun hne => ?_
  have hsub := G.sub i l hl
  have hl0 : l ≠ [] := fun e => by rw [e] at hu; cases hu
  have h1 := last_min (p := -1) G.tm (hsub.subset (lsp_mem (p := -1) hl0)) hne
  have h2 := last_min (p := -1) (G.tm.sublist hsub) hu (Ne.symm hne)
  omega
theorem oldest_eq (G : Good x r g k) : lists_Lists_Oldest x = some (lsp (-1) r.Used) := by
  have hM := G.M
  have hl := G.gd.l
  unfold lists_Lists_Oldest lists_Lists_Oldest_l0
  simp only [lt_eq]
  have key := loopO_inv (body := fun s => lists_Lists_Oldest_b0 x (x.last_.length : Int) s.1 s.2) (fun s => ∃ j : Nat, s.2 = (j : Int) ∧ j ≤ r.L.length ∧ ((s.1 = -1 ∧ ∀ l ∈ r.L.take j, l = []) ∨ (s.1 ∈ r.Used ∧ ∀ l ∈ r.L.take j, l ≠ [] → (g s.1).used ≤ (g (lsp (-1) l)).used)))
    (fun s => (r.L.length - s.2).toNat) (fun y => y = lsp (-1) r.Used) (s := ((-1 : Int), (0 : Int))) ?_ ⟨0, rfl, Nat.zero_le _, .inl ⟨rfl, by simp⟩⟩
  · obtain ⟨y, h1, rfl⟩ := key
    rw [h1]
    rfl
  · rintro ⟨c, s2⟩ ⟨j, hj, hjl, hI⟩
    simp only at hj hI
    subst hj
    unfold lists_Lists_Oldest_b0
    simp only [lt_eq]
    by_cases hjn : j < r.L.length
    · left
      have hat : At r.L (j : Int) r.L[j] := at_nat (List.getElem?_eq_getElem hjn)
      obtain ⟨q1, q2, q3, q4⟩ := G.gd.dll _ _ hat
      have hsub := G.sub _ _ hat
      rw [if_pos (decide_eq_true (by omega)), q3.chk, Option.bind_some, q3.ixA, Option.bind_some, w64_nat (by omega)]
      have htk : r.L.take (j + 1) = r.L.take j ++ [r.L[j]] := List.take_succ_eq_append_getElem hjn
      by_cases he : r.L[j] = []
      · have hv : lsp (-1) r.L[j] = -1 := by rw [he]; rfl
        generalize lsp (-1) r.L[j] = v at hv
        subst hv
        rw [if_neg (show ¬ ((-1 : Int) != -1) = true by simp), Option.bind_some, if_neg (by simp)]
        refine ⟨_, rfl, ⟨j + 1, rfl, hjn, ?_⟩, by simp only; omega⟩
        rw [htk, he]
        rcases hI with ⟨e, hI⟩ | ⟨e, hI⟩
        · refine .inl ⟨e, fun l hl => ?_⟩
          rcases List.mem_append.1 hl with h | h
          · exact hI l h
          · exact List.mem_singleton.1 h
        · refine .inr ⟨e, fun l hl hne => ?_⟩
          rcases List.mem_append.1 hl with h | h
          · exact hI l h hne
          · exact absurd (List.mem_singleton.1 h) hne
      · have hm := lsp_mem (p := -1) he
        have hmu := hsub.subset hm
        obtain ⟨m0, m1⟩ := G.rng _ (List.mem_append_right _ hmu)
        have hmr := G.rep _ m0 m1
        rw [if_pos (by simp; omega)]
        rcases hI with ⟨e, hI⟩ | ⟨e, hI⟩
        · subst e
          rw [if_pos (by simp), Option.bind_some, if_pos rfl]
          refine ⟨_, rfl, ⟨j + 1, rfl, hjn, .inr ⟨hmu, fun l hl hne => ?_⟩⟩, by simp only; omega⟩
          rw [htk] at hl
          rcases List.mem_append.1 hl with h | h
          · exact absurd (hI l h) hne
          · rw [List.mem_singleton.1 h]; exact Int.le_refl _
        · obtain ⟨c0, c1⟩ := G.rng _ (List.mem_append_right _ e)
          have hcr := G.rep _ c0 c1
          rw [if_neg (by simp; omega), hmr.chk, Option.bind_some, hmr.ixA, Option.bind_some, hcr.chk, Option.bind_some, hcr.ixA, Option.bind_some, Option.bind_some]
          by_cases hlt : (g (lsp (-1) r.L[j])).used < (g c).used
          · rw [if_pos (decide_eq_true hlt)]
            refine ⟨_, rfl, ⟨j + 1, rfl, hjn, .inr ⟨hmu, fun l hl hne => ?_⟩⟩, by simp only; omega⟩
            rw [htk] at hl
            rcases List.mem_append.1 hl with h | h
            · have := hI l h hne
              show (g (lsp (-1) r.L[j])).used ≤ _
              omega
            · rw [List.mem_singleton.1 h]; exact Int.le_refl _
          · rw [if_neg (by simpa using hlt)]
            refine ⟨_, rfl, ⟨j + 1, rfl, hjn, .inr ⟨e, fun l hl hne => ?_⟩⟩, by simp only; omega⟩
            rw [htk] at hl
            rcases List.mem_append.1 hl with h | h
            · exact hI l h hne
            · rw [List.mem_singleton.1 h]
              show (g c).used ≤ _
              omega
    · right
      have hje : j = r.L.length := by omega
      subst hje
      rw [List.take_length] at hI
      rw [if_neg (by simp; omega)]
      refine ⟨_, rfl, ?_⟩
      rcases hI with ⟨e, hI⟩ | ⟨e, hI⟩
      · cases hu : r.Used with
        | nil => exact e
        | cons n u =>
          obtain ⟨i, l, h1, h2⟩ := G.mem n (by rw [hu]; exact List.mem_cons_self)
          rw [hI l (List.mem_of_getElem? h1.2)] at h2
          cases h2
      · refine Classical.byContradiction fun hne => ?_
        have h1 := last_min (p := -1) G.tm e hne
        have hu0 : r.Used ≠ [] := fun h => by rw [h] at e; cases e
        obtain ⟨i, l, h2, h3⟩ := G.mem _ (lsp_mem (p := -1) hu0)
        have h4 := hI l (List.mem_of_getElem? h2.2) (fun h => by rw [h] at h3; cases h3)
        rw [G.lastof h2 h3] at h4
        omega
/-! ### an act; and all that is asked -/
theorem do_eq (G : Good x r g k) (hk : k ≤ 1000) (o : butterylaw09_Op) : ∃ x' r' g', butterylaw09_do x r o = some (r', true, x') ∧ Good x' r' g' (k + 1) ∧ x'.nodes.length = x.nodes.length ∧ r'.L.length = r.L.length := by
  unfold butterylaw09_do
  simp only [lt_eq, trouble_Of, Option.bind_some]
  by_cases h0 : o.Kind = 0
  · obtain ⟨x', r', n, e, c, h1, h2, h3, h4, h5, ⟨g', h6⟩, _⟩ := add_step G hk o.At
    rw [if_pos (by simp [h0]), h1, h2]
    simp only [Option.bind_some, h3, beq_self_eq_true, if_true]
    exact ⟨x', r', g', rfl, h6, h4, h5⟩
  rw [if_neg (by simp [h0])]
  by_cases h1 : o.Kind = 1
  · obtain ⟨x', r', e, c, h1', h2, h3, h4, h5, ⟨g', h6⟩, _⟩ := drop_step G hk o.At
    rw [if_pos (by simp [h1]), h1', h2]
    simp only [Option.bind_some, h3, beq_self_eq_true]
    exact ⟨x', r', g', rfl, h6, h4, h5⟩
  rw [if_neg (by simp [h1])]
  by_cases h2 : o.Kind = 2
  · obtain ⟨x', r', e, c, h1', h2', h3, h4, h5, ⟨g', h6⟩, _⟩ := touch_step G hk o.At
    rw [if_pos (by simp [h2]), h1', h2']
    simp only [Option.bind_some, h3, beq_self_eq_true]
    exact ⟨x', r', g', rfl, h6, h4, h5⟩
  rw [if_neg (by simp [h2])]
  exact ⟨x, r, g, rfl, G.more (by omega), rfl, rfl⟩
theorem same_eq (G : Good x r g k) (a : Int) : butterylaw09_same x r a = some true := by
  have hM := G.M
  have hf := G.gd.f
  unfold butterylaw09_same butterylaw09_same_l0 butterylaw09_same_l1
  have l0 : loopO (fun s => butterylaw09_same_b0 x r a s) (0 : Int) = some (.inl ()) := by
    have := loopO_up (body := fun s => butterylaw09_same_b0 x r a s) (fun j => (j : Int)) r.L.length (x := .inl ()) (fun j hj => ?_) ?_
    · exact this
    · have hat : At r.L (j : Int) r.L[j] := at_nat (List.getElem?_eq_getElem hj)
      have hll := G.ll hat
      unfold butterylaw09_same_b0
      simp only [lt_eq]
      rw [if_pos (decide_eq_true (by omega)), order_eq G hat, Option.bind_some, hat.ix, Option.bind_some, ints_eq _ (by omega), Option.bind_some, last_eq G hat, Option.bind_some, Option.bind_some, lastF_eq _ (by omega), Option.bind_some, len_eq G hat, Option.bind_some, Option.bind_some]
      simp only [Bool.not_true, Bool.false_eq_true, if_false, bne_self_eq_false, Option.bind_some]
      rw [w64_nat (by omega)]
    · unfold butterylaw09_same_b0
      simp only [lt_eq]
      rw [if_neg (by simp)]
  have hNN := G.NN
  have l1 : loopO (fun s => butterylaw09_same_b1 x r a s) (0 : Int) = some (.inl ()) := by
    have := loopO_up (body := fun s => butterylaw09_same_b1 x r a s) (fun j => (j : Int)) (min x.nodes.length 40) (x := .inl ()) (fun j hj => ?_) ?_
    · exact this
    · unfold butterylaw09_same_b1
      simp only [lt_eq]
      rw [if_pos (decide_eq_true (by omega)), Option.bind_some, if_pos (decide_eq_true (by omega)), listX_in G (by omega) (by omega), Option.bind_some, list_same G (by omega) (by omega), Option.bind_some, if_neg (by simp), w64_nat (by omega)]
    · unfold butterylaw09_same_b1
      simp only [lt_eq]
      by_cases h : ((min x.nodes.length 40 : Nat) : Int) < r.Nodes
      · rw [if_pos (decide_eq_true h), Option.bind_some, if_neg (by simp; omega)]
      · rw [if_neg (by simpa using h)]
        rfl
  have hul := G.ul
  have hout : a < 0 ∨ r.Nodes ≤ a → lists_Lists_List x a = some (-1) := fun h => listX_out (by omega)
  rw [l0, l1]
  simp only [Option.bind_some, Sum.elim_inl, lt_eq, decide_eq_true_eq, outc, oldest_eq G, lastF_eq _ (show r.Used.length ≤ 70000 by omega), beq_self_eq_true, if_true]
  have tail : (if a ≥ 0 then if a < r.Nodes then some true else (lists_Lists_List x a).bind fun v => some (v == -1) else (lists_Lists_List x a).bind fun v => some (v == -1)) = some true := by
    by_cases h1 : a ≥ 0
    · rw [if_pos h1]
      by_cases h2 : a < r.Nodes
      · rw [if_pos h2]
      · rw [if_neg h2, hout (by omega)]; rfl
    · rw [if_neg h1, hout (by omega)]; rfl
  rw [tail]
  by_cases h : a < 0 ∨ (r.L.length : Int) ≤ a
  · rw [if_neg (by simp; omega), order_out G h, last_out G h, len_out G h]
    rfl
  · rw [if_pos (by simp; omega)]
end
end Go.Proofs.YtobbifgmjkgkfaaDoor
namespace Go.Proofs.YtobbifgmjkgkfaaDoor
open Go Go.Va
set_option linter.unusedVariables false
set_option linter.unusedSimpArgs false
def tab {α : Type} (n j : Nat) (f : Nat → α) (d : α) : List α := (List.range n).map fun m => if m < j then f m else d
section
variable {α : Type} {n j : Nat} {f : Nat → α} {d : α}
theorem tab_len : (tab n j f d).length = n := by simp [tab]
theorem tab_zero : tab n 0 f d = List.replicate n d := by
  refine List.ext_getElem? fun m => ?_
  simp only [tab, List.getElem?_map, List.getElem?_replicate]
  by_cases h : m < n
  · rw [List.getElem?_range h, if_pos h]; simp
  · rw [List.getElem?_eq_none (by simp; omega), if_neg h]; rfl
theorem tab_get {m : Nat} (h : m < n) : (tab n j f d)[m]? = some (if m < j then f m else d) := by
  simp only [tab, List.getElem?_map]
  rw [List.getElem?_range h]; rfl
theorem tab_set (h : j < n) : (tab n j f d).set j (f j) = tab n (j + 1) f d := by
  refine List.ext_getElem? fun m => ?_
  by_cases hm : m < n
  · by_cases he : j = m
    · subst he
      rw [List.getElem?_set_self (by rw [tab_len]; exact hm), tab_get hm, if_pos (by omega)]
    · rw [List.getElem?_set_ne he, tab_get hm, tab_get hm]
      by_cases h2 : m < j
      · rw [if_pos h2, if_pos (by omega)]
      · rw [if_neg h2, if_neg (by omega)]
  · rw [List.getElem?_eq_none (by rw [List.length_set, tab_len]; omega), List.getElem?_eq_none (by rw [tab_len]; omega)]
theorem tab_at (h : j < n) : At (tab n j f d) (j : Int) d := at_nat (by rw [tab_get h, if_neg (by omega)])
theorem tab_upd (h : j < n) {g : α → α} (hg : g d = f j) : updA (tab n j f d).length (tab n j f d) (j : Int) g = some (tab n (j + 1) f d) := by
  rw [(tab_at h).updA, hg, Int.toNat_natCast, tab_set h]
end
theorem mkS_nat {α : Type} {b n : Nat} (z : α) (h : b * n ≤ 281474976710656) (h2 : n ≤ 1000000) : mkS b (n : Int) z = some (List.replicate n z) := by
  unfold mkS
  have h' : ((b * n : Nat) : Int) ≤ 281474976710656 := by omega
  rw [Int.natCast_mul] at h'
  rw [if_pos ⟨by omega, h', by omega⟩, Int.toNat_natCast]
def ints (a d : Nat) : List Int := (List.range' a d).map fun (m : Nat) => (m : Int)
theorem ints_succ (a d : Nat) : ints a (d + 1) = (a : Int) :: ints (a + 1) d := rfl
theorem mem_ints {a d : Nat} {m : Int} : m ∈ ints a d ↔ (a : Int) ≤ m ∧ m < ((a + d : Nat) : Int) := by
  unfold ints
  rw [List.mem_map]
  constructor
  · rintro ⟨q, hq, rfl⟩
    have := List.mem_range'_1.1 hq
    omega
  · intro h
    exact ⟨m.toNat, List.mem_range'_1.2 (by omega), by omega⟩
theorem ints_nodup : ∀ (d a : Nat), (ints a d).Nodup
  | 0, _ => List.nodup_nil
  | d + 1, a => by
    rw [ints_succ]
    exact List.nodup_cons.2 ⟨fun h => by have := (mem_ints.1 h).1; omega, ints_nodup d (a + 1)⟩
def g0 (N : Nat) (m : Int) : lists_link := if m = (N : Int) - 1 then ⟨-1, -1, -1, 0⟩ else ⟨-1, m + 1, -1, 0⟩
theorem fl_g0 (N : Nat) : ∀ (d a : Nat), a + d = N → fl (g0 N) (ints a d)
  | 0, _, _ => trivial
  | d + 1, a, h => by
    rw [ints_succ]
    refine ⟨?_, ?_, fl_g0 N d (a + 1) (by omega)⟩
    · cases d with
      | zero =>
        unfold g0
        rw [if_pos (by omega)]
        rfl
      | succ d =>
        unfold g0
        rw [if_neg (by omega), ints_succ]
        show (a : Int) + 1 = ((a + 1 : Nat) : Int)
        omega
    · unfold g0
      split <;> rfl
theorem new_bad {n m : Int} (h : n < 1 ∨ n > 64 ∨ m < 1 ∨ m > 65536) : ∃ e, lists_New n m = some (none, e) ∧ codeOf e = 2 ∧ ∃ r, butteryref09_New n m = some (r, 2) := by
  have hr : butteryref09_New n m = some (⟨[], [], [], 0⟩, 2) := by
    unfold butteryref09_New
    simp only [lt_eq]
    by_cases h1 : n < 1
    · simp [h1]
    by_cases h2 : n > 64
    · simp [h1, h2]
    by_cases h3 : m < 1
    · simp [h1, h2, h3]
    have h4 : m > 65536 := by omega
    simp [h1, h2, h3, h4]
  have hx : ∃ e, lists_New n m = some (none, e) ∧ codeOf e = 2 := by
    unfold lists_New
    simp only [lt_eq]
    by_cases h1 : n < 1
    · rw [if_pos (decide_eq_true h1), Option.bind_some, if_pos rfl, flt_eq _ _ _ (by decide)]
      exact ⟨_, rfl, flt_code _ _ _ (by decide)⟩
    rw [if_neg (by simp [h1]), Option.bind_some]
    by_cases h2 : n > 64
    · rw [if_pos (decide_eq_true h2), flt_eq _ _ _ (by decide)]
      exact ⟨_, rfl, flt_code _ _ _ (by decide)⟩
    rw [if_neg (by simpa using h2)]
    by_cases h3 : m < 1
    · rw [if_pos (decide_eq_true h3), Option.bind_some, if_pos rfl, flt_eq _ _ _ (by decide)]
      exact ⟨_, rfl, flt_code _ _ _ (by decide)⟩
    rw [if_neg (by simp [h3]), Option.bind_some, if_pos (decide_eq_true (by omega)), flt_eq _ _ _ (by decide)]
    exact ⟨_, rfl, flt_code _ _ _ (by decide)⟩
  obtain ⟨e, h1, h2⟩ := hx
  exact ⟨e, h1, h2, _, hr⟩
theorem new_ok {n N : Nat} (h1 : 1 ≤ n) (h2 : n ≤ 64) (h3 : 1 ≤ N) (h4 : N ≤ 65536) : ∃ x r, lists_New (n : Int) (N : Int) = some (some x, .nil) ∧ butteryref09_New (n : Int) (N : Int) = some (r, 0) ∧ Good x r (g0 N) 0 ∧ x.nodes.length = N ∧ r = ⟨List.replicate n [], ints 0 N, [], N⟩ := by
  let x : lists_Lists := ⟨(tab N N (fun m => (⟨-1, (m : Int) + 1, -1, 0⟩ : lists_link)) z_lists_link).set (N - 1) ⟨-1, -1, -1, 0⟩, tab n n (fun _ => -1) 0, tab n n (fun _ => -1) 0, List.replicate n 0, 0, 0⟩
  let r : butteryref09_Lists := ⟨List.replicate n [], ints 0 N, [], N⟩
  refine ⟨x, r, ?_, ?_, ?_, by simp [x, tab_len], rfl⟩
  · unfold lists_New
    simp only [lt_eq]
    rw [if_neg (by simp; omega), Option.bind_some, if_neg (by simp; omega), if_neg (by simp; omega), Option.bind_some, if_neg (by simp; omega), mkS_nat _ (by omega) (by omega), mkS_nat _ (by omega) (by omega), Option.bind_some, Option.bind_some, Option.bind_some, Option.bind_some]
    have k0 := loopO_up (body := fun s => lists_New_b0 (N : Int) (List.replicate N z_lists_link) (List.replicate n (0 : Int)) (List.replicate n (0 : Int)) (List.replicate n (0 : Int)) ((List.replicate n (0 : Int)).length : Int) s.1 s.2.1 s.2.2) (fun j => ((j : Int), tab n j (fun _ => (-1 : Int)) 0, tab n j (fun _ => (-1 : Int)) 0)) n (x := (tab n n (fun _ => (-1 : Int)) 0, tab n n (fun _ => (-1 : Int)) 0)) (fun j hj => by
      unfold lists_New_b0
      simp only [lt_eq]
      rw [if_pos (decide_eq_true (by simp; omega)), (tab_at hj).chk, Option.bind_some, tab_upd hj (f := fun _ => (-1 : Int)) (d := 0) (g := fun _ => (-1 : Int)) rfl, Option.bind_some, Option.bind_some, Option.bind_some, w64_nat (by omega)]) (by
      unfold lists_New_b0
      simp only [lt_eq]
      rw [if_neg (by simp)])
    have k1 := fun s61 => loopO_up (body := fun s => lists_New_b1 (N : Int) (List.replicate N z_lists_link) (List.replicate n (0 : Int)) (List.replicate n (0 : Int)) (List.replicate n (0 : Int)) s61 ((List.replicate N z_lists_link).length : Int) s.1 s.2) (fun j => ((j : Int), tab N j (fun m => (⟨-1, (m : Int) + 1, -1, 0⟩ : lists_link)) z_lists_link)) N (x := (tab N N (fun m => (⟨-1, (m : Int) + 1, -1, 0⟩ : lists_link)) z_lists_link)) (fun j hj => by
      unfold lists_New_b1
      simp only [lt_eq]
      rw [if_pos (decide_eq_true (by simp; omega)), (tab_at hj).chk, Option.bind_some, tab_upd hj (f := fun m => (⟨-1, (m : Int) + 1, -1, 0⟩ : lists_link)) (by rw [w64_nat (by omega)]; simp), Option.bind_some, w64_nat (by omega)]) (by
      unfold lists_New_b1
      simp only [lt_eq]
      rw [if_neg (by simp)])
    simp only [tab_zero] at k0 k1
    unfold lists_New_l0 lists_New_l1
    rw [show ((0 : Int), List.replicate n (0 : Int), List.replicate n (0 : Int)) = (((0 : Nat) : Int), List.replicate n (0 : Int), List.replicate n (0 : Int)) from rfl, k0, Option.bind_some, show ((0 : Int), List.replicate N z_lists_link) = (((0 : Nat) : Int), List.replicate N z_lists_link) from rfl, k1 _, Option.bind_some, w64_eq (by omega) (by omega)]
    have hat : At (tab N N (fun m => (⟨-1, (m : Int) + 1, -1, 0⟩ : lists_link)) z_lists_link) ((N : Int) - 1) ⟨-1, (N : Int), -1, 0⟩ := by
      have h : N - 1 < N := by omega
      have := at_nat (tab_get (f := fun m => (⟨-1, (m : Int) + 1, -1, 0⟩ : lists_link)) (d := z_lists_link) (j := N) h)
      rw [if_pos h] at this
      rw [show ((N : Int) - 1) = ((N - 1 : Nat) : Int) by omega]
      rw [show ((N - 1 : Nat) : Int) + 1 = (N : Int) by omega] at this
      exact this
    rw [hat.chk, Option.bind_some, hat.updA, Option.bind_some]
    have : ((N : Int) - 1).toNat = N - 1 := by omega
    rw [this]
  · unfold butteryref09_New
    simp only [lt_eq]
    rw [if_neg (by simp; omega), if_neg (by simp; omega), if_neg (by simp; omega), Option.bind_some, if_neg (by simp; omega), mkS_nat _ (by omega) (by omega), Option.bind_some]
    have k0 := loopO_up (body := fun s => butteryref09_New_b0 (N : Int) s.1 s.2) (fun j => ((j : Int), (⟨List.replicate n [], ints 0 j, [], (N : Int)⟩ : butteryref09_Lists))) N (x := (⟨List.replicate n [], ints 0 N, [], (N : Int)⟩ : butteryref09_Lists)) (fun j hj => by
      unfold butteryref09_New_b0
      simp only [lt_eq]
      rw [if_pos (decide_eq_true (by omega)), app_eq (by simp [ints]; omega), Option.bind_some, w64_nat (by omega)]
      have : ints 0 (j + 1) = ints 0 j ++ [(j : Int)] := by
        unfold ints
        rw [List.range'_concat, List.map_append]
        simp
      rw [this]) (by
      unfold butteryref09_New_b0
      simp only [lt_eq]
      rw [if_neg (by simp)])
    unfold butteryref09_New_l0
    have e : ((0 : Int), (⟨List.replicate n [], [], [], (N : Int)⟩ : butteryref09_Lists)) = (((0 : Nat) : Int), (⟨List.replicate n [], ints 0 0, [], (N : Int)⟩ : butteryref09_Lists)) := rfl
    rw [e, k0, Option.bind_some]
  · have hL : ∀ {i : Int} {l}, At (List.replicate n ([] : List Int)) i l → l = [] ∧ i < n := fun {i l} h => ⟨(List.mem_replicate.1 (List.mem_of_getElem? h.2)).2, by simpa using h.lt⟩
    have hlen : x.nodes.length = N := by simp [x, tab_len]
    refine ⟨fun m h0 h1 => ⟨h0, ?_⟩, ?_, by rw [hlen]; exact h4, ⟨by simp [x, r, tab_len], by simp [x, r, tab_len], by simp [x, r], fun i l hl => ?_⟩, by simpa [r] using h2, fun m hm => ?_, ?_, ?_, fun m h0 h1 => ?_, fun i l hl => ?_, fun m hm => (by cases hm), fl_g0 N N 0 (by omega), ?_, .nil, fun m hm => (by cases hm), by simp [x]⟩
    · rw [hlen] at h1
      show ((tab N N (fun m => (⟨-1, (m : Int) + 1, -1, 0⟩ : lists_link)) z_lists_link).set (N - 1) ⟨-1, -1, -1, 0⟩)[m.toNat]? = some (g0 N m)
      unfold g0
      by_cases hm : m = (N : Int) - 1
      · rw [if_pos hm, show m.toNat = N - 1 by omega, List.getElem?_set_self (by rw [tab_len]; omega)]
      · rw [if_neg hm, List.getElem?_set_ne (by omega), tab_get (by omega), if_pos (by omega)]
        congr 2
        omega
    · rw [hlen]
    · obtain ⟨rfl, hi⟩ := hL hl
      have h0 := hl.1
      have ht : At (tab n n (fun _ => (-1 : Int)) 0) i (-1) := ⟨h0, by rw [tab_get (by omega), if_pos (by omega)]⟩
      exact ⟨trivial, ht, ht, h0, by show (List.replicate n (0 : Int))[i.toNat]? = some 0; rw [List.getElem?_replicate, if_pos (by omega)]⟩
    · rw [hlen]
      simp only [r, List.append_nil] at hm
      have := mem_ints.1 hm
      omega
    · simp only [r, List.append_nil]
      exact ints_nodup N 0
    · rw [hlen]; simp [r, ints]
    · rw [hlen] at h1
      simp only [r, List.append_nil]
      exact mem_ints.2 (by omega)
    · obtain ⟨rfl, hi⟩ := hL hl
      exact List.nil_sublist _
    · show (0 : Int) = hdp (ints 0 N) (-1)
      obtain ⟨N', rfl⟩ : ∃ N', N = N' + 1 := ⟨N - 1, by omega⟩
      rw [ints_succ]
      rfl
end Go.Proofs.YtobbifgmjkgkfaaDoor
