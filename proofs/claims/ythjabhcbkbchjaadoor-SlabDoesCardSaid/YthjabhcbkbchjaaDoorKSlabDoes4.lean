/- Proves SlabDoes: whatever is taken and given back, each call answers what the chapter says; for every input. (part 4 of 6) -/
import Derived.Test.YthjabhcbkbchjaaDoorKSlabDoes3
namespace Go.Proofs.YthjabhcbkbchjaaDoor
open Go Go.Va
set_option linter.unusedVariables false
set_option linter.unusedSimpArgs false
set_option maxRecDepth 20000
theorem butterylaw08_works_ok  {r : Bool} (H : butterylaw08_works = some r) (σ : St)  (hg : σ.gl = gls) : ACall Tryd.prog 14 [] σ (fun a τ => a = eB r ∧ τ = σ) := by
  unfold butterylaw08_works at H
  refine ACall.pure (acall_start tk Tryd.func14 (by decide) rfl (Nat.le_of_ble_eq_true rfl) ?_)
  have hH := Holds.init σ
  refine awp_seq ?_
  refine awp_region rfl ?_
  refine wpo_mv (a := (eB false)) rfl rfl rfl (o_as tk rfl (Wk.refl _)) ?_
  refine wpo_nil ?_
  refine awp_seq ?_
  refine awp_region rfl ?_
  obtain ⟨v2, hvv2, H1⟩ := Option.bind_eq_some_iff.1 H
  rcases hz6 : v2.1 with _ | c3
  · rw [hz6, Option.elim_none] at H1
    refine wpo_a (av := fun _ => .tup [.nilp, (eErr v2.2)]) rfl rfl rfl (h_callno0 hH hz6 rfl rfl (.cons (.of_eq rfl) .nil) (slab_New_ok hvv2 _)) fun _ τ hH => ?_
    refine wpo_mv (a := (.tup [.nilp, (eErr v2.2)])) rfl rfl rfl (o_mv tk rfl (Wk.refl _)) ?_
    refine wpo_mv (a := .nilp) rfl rfl rfl (o_ext tk rfl rfl) ?_
    refine wpo_mv (a := (eErr v2.2)) rfl rfl rfl (o_ext tk rfl rfl) ?_
    refine wpo_mv (a := .nilp) rfl rfl rfl (o_as tk rfl (Wk.refl _)) ?_
    refine wpo_mv (a := (eErr v2.2)) rfl rfl rfl (o_as tk rfl (Wk.refl _)) ?_
    refine wpo_nil ?_
    refine awp_seq ?_
    refine awp_region rfl ?_
    obtain ⟨v8, hvv8, H7⟩ := Option.bind_eq_some_iff.1 H1
    rcases hz12 : v8.1 with _ | c9
    · rw [hz12, Option.elim_none] at H7
      refine wpo_a (av := fun _ => .tup [.nilp, (eErr v8.2)]) rfl rfl rfl (h_callno0 hH hz12 rfl rfl (.cons (.of_eq rfl) .nil) (slab_New_ok hvv8 _)) fun _ τ hH => ?_
      refine wpo_mv (a := (.tup [.nilp, (eErr v8.2)])) rfl rfl rfl (o_mv tk rfl (Wk.refl _)) ?_
      refine wpo_mv (a := .nilp) rfl rfl rfl (o_ext tk rfl rfl) ?_
      refine wpo_mv (a := (eErr v8.2)) rfl rfl rfl (o_ext tk rfl rfl) ?_
      refine wpo_mv (a := .nilp) rfl rfl rfl (o_as tk rfl (Wk.refl _)) ?_
      refine wpo_mv (a := (eErr v8.2)) rfl rfl rfl (o_as tk rfl (Wk.refl _)) ?_
      refine wpo_nil ?_
      refine awp_seq ?_
      refine awp_seq ?_
      refine awp_region rfl ?_
      refine wpo_mv (a := .nilp) rfl rfl rfl (o_mv tk rfl (Wk.refl _)) ?_
      refine wpo_mv (a := (eB true)) rfl rfl rfl (o_c tk false rfl (fun _ => rfl)) ?_
      refine wpo_mv (a := (eB true)) rfl rfl rfl (o_mv tk rfl (Wk.refl _)) ?_
      refine wpo_skip rfl rfl rfl ?_
      refine wpo_skip rfl rfl rfl ?_
      refine wpo_mv (a := (eB true)) rfl rfl rfl (o_pick_t tk rfl rfl (Wk.refl _)) ?_
      refine wpo_nil ?_
      refine awp_true rfl ?_
      refine awp_seq ?_
      refine awp_region rfl ?_
      refine wpo_mv (a := (eB false)) rfl rfl rfl (o_as tk rfl (Wk.refl _)) ?_
      refine wpo_nil ?_
      refine awp_ret ?_
      obtain rfl := Option.some.inj H7
      exact ⟨_, (eB false), rfl, (.of_eq rfl), .of_eq ((enc_b td4 sz4).cut _ _ _), hH.noT⟩
    · rw [hz12, Option.elim_some] at H7
      refine wpo_a (av := fun id => .tup [.ref id 0, (eErr v8.2)]) rfl rfl rfl (h_callno1 hH hz12 rfl rfl (.cons (.of_eq rfl) .nil) (slab_New_ok hvv8 _)) fun id10 τ ⟨hH, n11⟩ => ?_
      refine wpo_mv (a := (.tup [(.ref id10 0), (eErr v8.2)])) rfl rfl rfl (o_mv tk rfl (Wk.refl _)) ?_
      refine wpo_mv (a := (.ref id10 0)) rfl rfl rfl (o_ext tk rfl rfl) ?_
      refine wpo_mv (a := (eErr v8.2)) rfl rfl rfl (o_ext tk rfl rfl) ?_
      refine wpo_mv (a := (.ref id10 0)) rfl rfl rfl (o_as tk rfl (Wk.refl _)) ?_
      refine wpo_mv (a := (eErr v8.2)) rfl rfl rfl (o_as tk rfl (Wk.refl _)) ?_
      refine wpo_nil ?_
      refine awp_seq ?_
      refine awp_seq ?_
      refine awp_region rfl ?_
      refine wpo_mv (a := .nilp) rfl rfl rfl (o_mv tk rfl (Wk.refl _)) ?_
      refine wpo_mv (a := (eB true)) rfl rfl rfl (o_c tk false rfl (fun _ => rfl)) ?_
      refine wpo_mv (a := (eB true)) rfl rfl rfl (o_mv tk rfl (Wk.refl _)) ?_
      refine wpo_skip rfl rfl rfl ?_
      refine wpo_skip rfl rfl rfl ?_
      refine wpo_mv (a := (eB true)) rfl rfl rfl (o_pick_t tk rfl rfl (Wk.refl _)) ?_
      refine wpo_nil ?_
      refine awp_true rfl ?_
      refine awp_seq ?_
      refine awp_region rfl ?_
      refine wpo_mv (a := (eB false)) rfl rfl rfl (o_as tk rfl (Wk.refl _)) ?_
      refine wpo_nil ?_
      refine awp_ret ?_
      obtain rfl := Option.some.inj H7
      exact ⟨_, (eB false), rfl, (.of_eq rfl), .of_eq ((enc_b td4 sz4).cut _ _ _), (hH.noT.drop n11)⟩
  · rw [hz6, Option.elim_some] at H1
    refine wpo_a (av := fun id => .tup [.ref id 0, (eErr v2.2)]) rfl rfl rfl (h_callno1 hH hz6 rfl rfl (.cons (.of_eq rfl) .nil) (slab_New_ok hvv2 _)) fun id4 τ ⟨hH, n5⟩ => ?_
    refine wpo_mv (a := (.tup [(.ref id4 0), (eErr v2.2)])) rfl rfl rfl (o_mv tk rfl (Wk.refl _)) ?_
    refine wpo_mv (a := (.ref id4 0)) rfl rfl rfl (o_ext tk rfl rfl) ?_
    refine wpo_mv (a := (eErr v2.2)) rfl rfl rfl (o_ext tk rfl rfl) ?_
    refine wpo_mv (a := (.ref id4 0)) rfl rfl rfl (o_as tk rfl (Wk.refl _)) ?_
    refine wpo_mv (a := (eErr v2.2)) rfl rfl rfl (o_as tk rfl (Wk.refl _)) ?_
    refine wpo_nil ?_
    refine awp_seq ?_
    refine awp_region rfl ?_
    obtain ⟨v14, hvv14, H13⟩ := Option.bind_eq_some_iff.1 H1
    rcases hz18 : v14.1 with _ | c15
    · rw [hz18, Option.elim_none] at H13
      refine wpo_a (av := fun _ => .tup [.nilp, (eErr v14.2)]) rfl rfl rfl (h_callno0 hH hz18 rfl rfl (.cons (.of_eq rfl) .nil) (slab_New_ok hvv14 _)) fun _ τ hH => ?_
      refine wpo_mv (a := (.tup [.nilp, (eErr v14.2)])) rfl rfl rfl (o_mv tk rfl (Wk.refl _)) ?_
      refine wpo_mv (a := .nilp) rfl rfl rfl (o_ext tk rfl rfl) ?_
      refine wpo_mv (a := (eErr v14.2)) rfl rfl rfl (o_ext tk rfl rfl) ?_
      refine wpo_mv (a := .nilp) rfl rfl rfl (o_as tk rfl (Wk.refl _)) ?_
      refine wpo_mv (a := (eErr v14.2)) rfl rfl rfl (o_as tk rfl (Wk.refl _)) ?_
      refine wpo_nil ?_
      refine awp_seq ?_
      refine awp_seq ?_
      refine awp_region rfl ?_
      refine wpo_mv (a := (.ref id4 0)) rfl rfl rfl (o_mv tk rfl (Wk.refl _)) ?_
      refine wpo_mv (a := (eB false)) rfl rfl rfl (o_c tk false rfl (fun _ => rfl)) ?_
      refine wpo_mv (a := (eB false)) rfl rfl rfl (o_mv tk rfl (Wk.refl _)) ?_
      refine wpo_mv (a := (eErr v2.2)) rfl rfl rfl (o_mv tk rfl (Wk.refl _)) ?_
      refine wpo_lt H13 eB rfl rfl rfl (o_err_neq tk rfl rfl rfl) fun v20 H19 => ?_
      refine wpo_mv (a := (eB v20)) rfl rfl rfl (o_pick_f tk rfl rfl (Wk.refl _)) ?_
      refine wpo_nil ?_
      refine awp_if H19 rfl (fun H21 => ?_) (fun H21 => ?_)
      · refine awp_seq ?_
        refine awp_region rfl ?_
        refine wpo_mv (a := (eB false)) rfl rfl rfl (o_as tk rfl (Wk.refl _)) ?_
        refine wpo_nil ?_
        refine awp_ret ?_
        obtain rfl := Option.some.inj H21
        exact ⟨_, (eB false), rfl, (.of_eq rfl), .of_eq ((enc_b td4 sz4).cut _ _ _), (hH.noT.drop n5)⟩
      · refine awp_skip ?_
        refine awp_seq ?_
        refine awp_region rfl ?_
        refine wpo_mv (a := (.ref id4 0)) rfl rfl rfl (o_mv tk rfl (Wk.refl _)) ?_
        refine wpo_cb H21 (fun x _ => eErr x.1) rfl rfl rfl (fun v23 hv => h_call1 hH [(0, (id4, (c_slab_Budget v23.2)))] ⟨⟨_, rfl⟩, trivial⟩ rfl rfl (.cons (.of_eq rfl) (.cons (.of_eq rfl) .nil)) (slab_Budget_Take_ok hv _ (hH.at_ 0 rfl))) fun v23 _ τ hv23 H22 hH => ?_
        refine wpo_mv (a := (eErr v23.1)) rfl rfl rfl (o_as tk rfl (Wk.refl _)) ?_
        refine wpo_nil ?_
        refine awp_seq ?_
        refine awp_region rfl ?_
        refine wpo_mv (a := (.ref id4 0)) rfl rfl rfl (o_mv tk rfl (Wk.refl _)) ?_
        refine wpo_cb H22 (fun x _ => eErr x.1) rfl rfl rfl (fun v25 hv => h_call1 hH [(0, (id4, (c_slab_Budget v25.2)))] ⟨⟨_, rfl⟩, trivial⟩ rfl rfl (.cons (.of_eq rfl) (.cons (.of_eq rfl) .nil)) (slab_Budget_Take_ok hv _ (hH.at_ 0 rfl))) fun v25 _ τ hv25 H24 hH => ?_
        refine wpo_mv (a := (eErr v25.1)) rfl rfl rfl (o_as tk rfl (Wk.refl _)) ?_
        refine wpo_nil ?_
        refine awp_seq ?_
        refine awp_region rfl ?_
        refine wpo_mv (a := (eErr v14.2)) rfl rfl rfl (o_mv tk rfl (Wk.refl _)) ?_
        refine wpo_bdr H24 eI rfl rfl rfl (fun v27 hv => h_callr rfl rfl (.cons (.of_eq rfl) .nil) (trouble_Of_ok hv _ (hH.gl.trans hg))) fun v27 hv27 H26 => ?_
        refine wpo_lt H26 eB rfl rfl rfl (o_ar tk rfl rfl rfl) fun v29 H28 => ?_
        refine wpo_mv (a := (eB v29)) rfl rfl rfl (o_mv tk rfl (Wk.refl _)) ?_
        refine if_split H28 (fun hb H30 => ?_) (fun hb H30 => ?_)
        · subst hb
          refine wpo_mv (a := (eErr v23.1)) rfl rfl rfl (o_mv tk rfl (Wk.refl _)) ?_
          refine wpo_lt H30 eB rfl rfl rfl (o_err_eql tk rfl rfl rfl) fun v32 H31 => ?_
          refine wpo_mv (a := (eB v32)) rfl rfl rfl (o_pick_t tk rfl rfl (Wk.refl _)) ?_
          refine wpo_mv (a := (eB v32)) rfl rfl rfl (o_mv tk rfl (Wk.refl _)) ?_
          refine if_split H31 (fun hb H33 => ?_) (fun hb H33 => ?_)
          · subst hb
            refine wpo_mv (a := (eErr v25.1)) rfl rfl rfl (o_mv tk rfl (Wk.refl _)) ?_
            refine wpo_bdr H33 eI rfl rfl rfl (fun v35 hv => h_callr rfl rfl (.cons (.of_eq rfl) .nil) (trouble_Of_ok hv _ (hH.gl.trans hg))) fun v35 hv35 H34 => ?_
            refine wpo_lt H34 eB rfl rfl rfl (o_ar tk rfl rfl rfl) fun v37 H36 => ?_
            refine wpo_mv (a := (eB v37)) rfl rfl rfl (o_pick_t tk rfl rfl (Wk.refl _)) ?_
            refine wpo_mv (a := (eB v37)) rfl rfl rfl (o_mv tk rfl (Wk.refl _)) ?_
            refine if_split H36 (fun hb H38 => ?_) (fun hb H38 => ?_)
            · subst hb
              refine wpo_mv (a := (.ref id4 0)) rfl rfl rfl (o_mv tk rfl (Wk.refl _)) ?_
              refine wpo_bdr H38 eI rfl rfl rfl (fun v40 hv => h_callr rfl rfl (.cons (.of_eq rfl) .nil) (slab_Budget_Used_ok hv _ (hH.at_ 0 rfl))) fun v40 hv40 H39 => ?_
              refine wpo_lt H39 eB rfl rfl rfl (o_ar tk rfl rfl rfl) fun v42 H41 => ?_
              refine wpo_mv (a := (eB v42)) rfl rfl rfl (o_pick_t tk rfl rfl (Wk.refl _)) ?_
              refine wpo_mv (a := (eB v42)) rfl rfl rfl (o_mv tk rfl (Wk.refl _)) ?_
              refine if_split H41 (fun hb H43 => ?_) (fun hb H43 => ?_)
              · subst hb
                refine wpo_mv (a := (.ref id4 0)) rfl rfl rfl (o_mv tk rfl (Wk.refl _)) ?_
                refine wpo_bdr H43 eI rfl rfl rfl (fun v45 hv => h_callr rfl rfl (.cons (.of_eq rfl) .nil) (slab_Budget_Left_ok hv _ (hH.at_ 0 rfl))) fun v45 hv45 H44 => ?_
                refine wpo_lt H44 eB rfl rfl rfl (o_ar tk rfl rfl rfl) fun v47 H46 => ?_
                refine wpo_mv (a := (eB v47)) rfl rfl rfl (o_pick_t tk rfl rfl (Wk.refl _)) ?_
                refine wpo_mv (a := (eB v47)) rfl rfl rfl (o_mv tk rfl (Wk.refl _)) ?_
                refine if_split H46 (fun hb H48 => ?_) (fun hb H48 => ?_)
                · subst hb
                  refine wpo_bd H48 eI rfl rfl rfl (fun v50 hv => OpP.of_call rfl rfl (.cons (.of_eq rfl) .nil) (slab_Class_ok hv)) fun v50 hv50 H49 => ?_
                  refine wpo_lt H49 eB rfl rfl rfl (o_ar tk rfl rfl rfl) fun v52 H51 => ?_
                  refine wpo_mv (a := (eB v52)) rfl rfl rfl (o_pick_t tk rfl rfl (Wk.refl _)) ?_
                  refine wpo_mv (a := (eB v52)) rfl rfl rfl (o_mv tk rfl (Wk.refl _)) ?_
                  refine if_split H51 (fun hb H53 => ?_) (fun hb H53 => ?_)
                  · subst hb
                    refine wpo_bd H53 eI rfl rfl rfl (fun v55 hv => OpP.of_call rfl rfl (.cons (.of_eq rfl) .nil) (slab_Size_ok hv)) fun v55 hv55 H54 => ?_
                    refine wpo_lt H54 eB rfl rfl rfl (o_ar tk rfl rfl rfl) fun v57 H56 => ?_
                    refine wpo_mv (a := (eB v57)) rfl rfl rfl (o_pick_t tk rfl rfl (Wk.refl _)) ?_
                    refine wpo_mv (a := (eB v57)) rfl rfl rfl (o_mv tk rfl (Wk.refl _)) ?_
                    refine if_split H56 (fun hb H58 => ?_) (fun hb H58 => ?_)
                    · subst hb
                      refine wpo_bd H58 eI rfl rfl rfl (fun v60 hv => OpP.of_call rfl rfl (.cons (.of_eq rfl) .nil) (slab_Class_ok hv)) fun v60 hv60 H59 => ?_
                      refine wpo_lt H59 eB rfl rfl rfl (o_ar tk rfl rfl rfl) fun v62 H61 => ?_
                      refine wpo_mv (a := (eB v62)) rfl rfl rfl (o_pick_t tk rfl rfl (Wk.refl _)) ?_
                      refine wpo_mv (a := (eB v62)) rfl rfl rfl (o_mv tk rfl (Wk.refl _)) ?_
                      refine if_split H61 (fun hb H63 => ?_) (fun hb H63 => ?_)
                      · subst hb
                        refine wpo_mv (a := (.ref id4 0)) rfl rfl rfl (o_mv tk rfl (Wk.refl _)) ?_
                        refine wpo_bdr H63 eB rfl rfl rfl (fun v65 hv => h_callr rfl rfl (.cons (.of_eq rfl) (.cons (.of_eq rfl) .nil)) (slab_Budget_Fits_ok hv _ (hH.at_ 0 rfl))) fun v65 hv65 H64 => ?_
                        refine wpo_mv (a := (eB v65)) rfl rfl rfl (o_pick_t tk rfl rfl (Wk.refl _)) ?_
                        refine wpo_mv (a := (eB v65)) rfl rfl rfl (o_mv tk rfl (Wk.refl _)) ?_
                        refine if_split H64 (fun hb H66 => ?_) (fun hb H66 => ?_)
                        · subst hb
                          refine wpo_mv (a := (.ref id4 0)) rfl rfl rfl (o_mv tk rfl (Wk.refl _)) ?_
                          refine wpo_bdr H66 eB rfl rfl rfl (fun v68 hv => h_callr rfl rfl (.cons (.of_eq rfl) (.cons (.of_eq rfl) .nil)) (slab_Budget_Fits_ok hv _ (hH.at_ 0 rfl))) fun v68 hv68 H67 => ?_
                          refine wpo_lt H67 eB rfl rfl rfl (o_un tk rfl rfl) fun v70 H69 => ?_
                          refine wpo_mv (a := (eB v70)) rfl rfl rfl (o_pick_t tk rfl rfl (Wk.refl _)) ?_
                          refine wpo_mv (a := (eB v70)) rfl rfl rfl (o_mv tk rfl (Wk.refl _)) ?_
                          refine if_split H69 (fun hb H71 => ?_) (fun hb H71 => ?_)
                          · subst hb
                            refine wpo_mv (a := (.ref id4 0)) rfl rfl rfl (o_mv tk rfl (Wk.refl _)) ?_
                            refine wpo_bdr H71 eI rfl rfl rfl (fun v73 hv => h_callr rfl rfl (.cons (.of_eq rfl) (.cons (.of_eq rfl) .nil)) (slab_Budget_Count_ok hv _ (hH.at_ 0 rfl))) fun v73 hv73 H72 => ?_
                            refine wpo_lt H72 eB rfl rfl rfl (o_ar tk rfl rfl rfl) fun v75 H74 => ?_
                            refine wpo_mv (a := (eB v75)) rfl rfl rfl (o_pick_t tk rfl rfl (Wk.refl _)) ?_
                            refine wpo_mv (a := (eB v75)) rfl rfl rfl (o_as tk rfl (Wk.refl _)) ?_
                            refine wpo_nil ?_
                            refine awp_ret ?_
                            obtain rfl := Option.some.inj H74
                            exact ⟨_, (eB v75), rfl, (.of_eq rfl), .of_eq ((enc_b td4 sz4).cut _ _ _), (hH.noT.drop n5)⟩
                          · subst hb
                            refine wpo_skip rfl rfl rfl ?_
                            refine wpo_skip rfl rfl rfl ?_
                            refine wpo_skip rfl rfl rfl ?_
                            refine wpo_mv (a := (eB false)) rfl rfl rfl (o_pick_f tk rfl rfl (Wk.refl _)) ?_
                            refine wpo_mv (a := (eB false)) rfl rfl rfl (o_as tk rfl (Wk.refl _)) ?_
                            refine wpo_nil ?_
                            refine awp_ret ?_
                            obtain rfl := Option.some.inj H71
                            exact ⟨_, (eB false), rfl, (.of_eq rfl), .of_eq ((enc_b td4 sz4).cut _ _ _), (hH.noT.drop n5)⟩
                        · subst hb
                          refine wpo_skip rfl rfl rfl ?_
                          refine wpo_skip rfl rfl rfl ?_
                          refine wpo_skip rfl rfl rfl ?_
                          refine wpo_mv (a := (eB false)) rfl rfl rfl (o_pick_f tk rfl rfl (Wk.refl _)) ?_
                          refine wpo_mv (a := (eB false)) rfl rfl rfl (o_mv tk rfl (Wk.refl _)) ?_
                          refine wpo_skip rfl rfl rfl ?_
                          refine wpo_skip rfl rfl rfl ?_
                          refine wpo_skip rfl rfl rfl ?_
                          refine wpo_mv (a := (eB false)) rfl rfl rfl (o_pick_f tk rfl rfl (Wk.refl _)) ?_
                          refine wpo_mv (a := (eB false)) rfl rfl rfl (o_as tk rfl (Wk.refl _)) ?_
                          refine wpo_nil ?_
                          refine awp_ret ?_
                          obtain rfl := Option.some.inj H66
                          exact ⟨_, (eB false), rfl, (.of_eq rfl), .of_eq ((enc_b td4 sz4).cut _ _ _), (hH.noT.drop n5)⟩
                      · subst hb
                        refine wpo_skip rfl rfl rfl ?_
                        refine wpo_skip rfl rfl rfl ?_
                        refine wpo_mv (a := (eB false)) rfl rfl rfl (o_pick_f tk rfl rfl (Wk.refl _)) ?_
                        refine wpo_mv (a := (eB false)) rfl rfl rfl (o_mv tk rfl (Wk.refl _)) ?_
                        refine wpo_skip rfl rfl rfl ?_
                        refine wpo_skip rfl rfl rfl ?_
                        refine wpo_skip rfl rfl rfl ?_
                        refine wpo_mv (a := (eB false)) rfl rfl rfl (o_pick_f tk rfl rfl (Wk.refl _)) ?_
                        refine wpo_mv (a := (eB false)) rfl rfl rfl (o_mv tk rfl (Wk.refl _)) ?_
                        refine wpo_skip rfl rfl rfl ?_
                        refine wpo_skip rfl rfl rfl ?_
                        refine wpo_skip rfl rfl rfl ?_
                        refine wpo_mv (a := (eB false)) rfl rfl rfl (o_pick_f tk rfl rfl (Wk.refl _)) ?_
                        refine wpo_mv (a := (eB false)) rfl rfl rfl (o_as tk rfl (Wk.refl _)) ?_
                        refine wpo_nil ?_
                        refine awp_ret ?_
                        obtain rfl := Option.some.inj H63
                        exact ⟨_, (eB false), rfl, (.of_eq rfl), .of_eq ((enc_b td4 sz4).cut _ _ _), (hH.noT.drop n5)⟩
                    · subst hb
                      refine wpo_skip rfl rfl rfl ?_
                      refine wpo_skip rfl rfl rfl ?_
                      refine wpo_mv (a := (eB false)) rfl rfl rfl (o_pick_f tk rfl rfl (Wk.refl _)) ?_
                      refine wpo_mv (a := (eB false)) rfl rfl rfl (o_mv tk rfl (Wk.refl _)) ?_
                      refine wpo_skip rfl rfl rfl ?_
                      refine wpo_skip rfl rfl rfl ?_
                      refine wpo_mv (a := (eB false)) rfl rfl rfl (o_pick_f tk rfl rfl (Wk.refl _)) ?_
                      refine wpo_mv (a := (eB false)) rfl rfl rfl (o_mv tk rfl (Wk.refl _)) ?_
                      refine wpo_skip rfl rfl rfl ?_
                      refine wpo_skip rfl rfl rfl ?_
                      refine wpo_skip rfl rfl rfl ?_
                      refine wpo_mv (a := (eB false)) rfl rfl rfl (o_pick_f tk rfl rfl (Wk.refl _)) ?_
                      refine wpo_mv (a := (eB false)) rfl rfl rfl (o_mv tk rfl (Wk.refl _)) ?_
                      refine wpo_skip rfl rfl rfl ?_
                      refine wpo_skip rfl rfl rfl ?_
                      refine wpo_skip rfl rfl rfl ?_
                      refine wpo_mv (a := (eB false)) rfl rfl rfl (o_pick_f tk rfl rfl (Wk.refl _)) ?_
                      refine wpo_mv (a := (eB false)) rfl rfl rfl (o_as tk rfl (Wk.refl _)) ?_
                      refine wpo_nil ?_
                      refine awp_ret ?_
                      obtain rfl := Option.some.inj H58
                      exact ⟨_, (eB false), rfl, (.of_eq rfl), .of_eq ((enc_b td4 sz4).cut _ _ _), (hH.noT.drop n5)⟩
                  · subst hb
                    refine wpo_skip rfl rfl rfl ?_
                    refine wpo_skip rfl rfl rfl ?_
                    refine wpo_mv (a := (eB false)) rfl rfl rfl (o_pick_f tk rfl rfl (Wk.refl _)) ?_
                    refine wpo_mv (a := (eB false)) rfl rfl rfl (o_mv tk rfl (Wk.refl _)) ?_
                    refine wpo_skip rfl rfl rfl ?_
                    refine wpo_skip rfl rfl rfl ?_
                    refine wpo_mv (a := (eB false)) rfl rfl rfl (o_pick_f tk rfl rfl (Wk.refl _)) ?_
                    refine wpo_mv (a := (eB false)) rfl rfl rfl (o_mv tk rfl (Wk.refl _)) ?_
                    refine wpo_skip rfl rfl rfl ?_
                    refine wpo_skip rfl rfl rfl ?_
                    refine wpo_mv (a := (eB false)) rfl rfl rfl (o_pick_f tk rfl rfl (Wk.refl _)) ?_
                    refine wpo_mv (a := (eB false)) rfl rfl rfl (o_mv tk rfl (Wk.refl _)) ?_
                    refine wpo_skip rfl rfl rfl ?_
                    refine wpo_skip rfl rfl rfl ?_
                    refine wpo_skip rfl rfl rfl ?_
                    refine wpo_mv (a := (eB false)) rfl rfl rfl (o_pick_f tk rfl rfl (Wk.refl _)) ?_
                    refine wpo_mv (a := (eB false)) rfl rfl rfl (o_mv tk rfl (Wk.refl _)) ?_
                    refine wpo_skip rfl rfl rfl ?_
                    refine wpo_skip rfl rfl rfl ?_
                    refine wpo_skip rfl rfl rfl ?_
                    refine wpo_mv (a := (eB false)) rfl rfl rfl (o_pick_f tk rfl rfl (Wk.refl _)) ?_
                    refine wpo_mv (a := (eB false)) rfl rfl rfl (o_as tk rfl (Wk.refl _)) ?_
                    refine wpo_nil ?_
                    refine awp_ret ?_
                    obtain rfl := Option.some.inj H53
                    exact ⟨_, (eB false), rfl, (.of_eq rfl), .of_eq ((enc_b td4 sz4).cut _ _ _), (hH.noT.drop n5)⟩
                · subst hb
                  refine wpo_skip rfl rfl rfl ?_
                  refine wpo_skip rfl rfl rfl ?_
                  refine wpo_mv (a := (eB false)) rfl rfl rfl (o_pick_f tk rfl rfl (Wk.refl _)) ?_
                  refine wpo_mv (a := (eB false)) rfl rfl rfl (o_mv tk rfl (Wk.refl _)) ?_
                  refine wpo_skip rfl rfl rfl ?_
                  refine wpo_skip rfl rfl rfl ?_
                  refine wpo_mv (a := (eB false)) rfl rfl rfl (o_pick_f tk rfl rfl (Wk.refl _)) ?_
                  refine wpo_mv (a := (eB false)) rfl rfl rfl (o_mv tk rfl (Wk.refl _)) ?_
                  refine wpo_skip rfl rfl rfl ?_
                  refine wpo_skip rfl rfl rfl ?_
                  refine wpo_mv (a := (eB false)) rfl rfl rfl (o_pick_f tk rfl rfl (Wk.refl _)) ?_
                  refine wpo_mv (a := (eB false)) rfl rfl rfl (o_mv tk rfl (Wk.refl _)) ?_
                  refine wpo_skip rfl rfl rfl ?_
                  refine wpo_skip rfl rfl rfl ?_
                  refine wpo_mv (a := (eB false)) rfl rfl rfl (o_pick_f tk rfl rfl (Wk.refl _)) ?_
                  refine wpo_mv (a := (eB false)) rfl rfl rfl (o_mv tk rfl (Wk.refl _)) ?_
                  refine wpo_skip rfl rfl rfl ?_
                  refine wpo_skip rfl rfl rfl ?_
                  refine wpo_skip rfl rfl rfl ?_
                  refine wpo_mv (a := (eB false)) rfl rfl rfl (o_pick_f tk rfl rfl (Wk.refl _)) ?_
                  refine wpo_mv (a := (eB false)) rfl rfl rfl (o_mv tk rfl (Wk.refl _)) ?_
                  refine wpo_skip rfl rfl rfl ?_
                  refine wpo_skip rfl rfl rfl ?_
                  refine wpo_skip rfl rfl rfl ?_
                  refine wpo_mv (a := (eB false)) rfl rfl rfl (o_pick_f tk rfl rfl (Wk.refl _)) ?_
                  refine wpo_mv (a := (eB false)) rfl rfl rfl (o_as tk rfl (Wk.refl _)) ?_
                  refine wpo_nil ?_
                  refine awp_ret ?_
                  obtain rfl := Option.some.inj H48
                  exact ⟨_, (eB false), rfl, (.of_eq rfl), .of_eq ((enc_b td4 sz4).cut _ _ _), (hH.noT.drop n5)⟩
              · subst hb
                refine wpo_skip rfl rfl rfl ?_
                refine wpo_skip rfl rfl rfl ?_
                refine wpo_skip rfl rfl rfl ?_
                refine wpo_mv (a := (eB false)) rfl rfl rfl (o_pick_f tk rfl rfl (Wk.refl _)) ?_
                refine wpo_mv (a := (eB false)) rfl rfl rfl (o_mv tk rfl (Wk.refl _)) ?_
                refine wpo_skip rfl rfl rfl ?_
                refine wpo_skip rfl rfl rfl ?_
                refine wpo_mv (a := (eB false)) rfl rfl rfl (o_pick_f tk rfl rfl (Wk.refl _)) ?_
                refine wpo_mv (a := (eB false)) rfl rfl rfl (o_mv tk rfl (Wk.refl _)) ?_
                refine wpo_skip rfl rfl rfl ?_
                refine wpo_skip rfl rfl rfl ?_
                refine wpo_mv (a := (eB false)) rfl rfl rfl (o_pick_f tk rfl rfl (Wk.refl _)) ?_
                refine wpo_mv (a := (eB false)) rfl rfl rfl (o_mv tk rfl (Wk.refl _)) ?_
                refine wpo_skip rfl rfl rfl ?_
                refine wpo_skip rfl rfl rfl ?_
                refine wpo_mv (a := (eB false)) rfl rfl rfl (o_pick_f tk rfl rfl (Wk.refl _)) ?_
                refine wpo_mv (a := (eB false)) rfl rfl rfl (o_mv tk rfl (Wk.refl _)) ?_
                refine wpo_skip rfl rfl rfl ?_
                refine wpo_skip rfl rfl rfl ?_
                refine wpo_mv (a := (eB false)) rfl rfl rfl (o_pick_f tk rfl rfl (Wk.refl _)) ?_
                refine wpo_mv (a := (eB false)) rfl rfl rfl (o_mv tk rfl (Wk.refl _)) ?_
                refine wpo_skip rfl rfl rfl ?_
                refine wpo_skip rfl rfl rfl ?_
                refine wpo_skip rfl rfl rfl ?_
                refine wpo_mv (a := (eB false)) rfl rfl rfl (o_pick_f tk rfl rfl (Wk.refl _)) ?_
                refine wpo_mv (a := (eB false)) rfl rfl rfl (o_mv tk rfl (Wk.refl _)) ?_
                refine wpo_skip rfl rfl rfl ?_
                refine wpo_skip rfl rfl rfl ?_
                refine wpo_skip rfl rfl rfl ?_
                refine wpo_mv (a := (eB false)) rfl rfl rfl (o_pick_f tk rfl rfl (Wk.refl _)) ?_
                refine wpo_mv (a := (eB false)) rfl rfl rfl (o_as tk rfl (Wk.refl _)) ?_
                refine wpo_nil ?_
                refine awp_ret ?_
                obtain rfl := Option.some.inj H43
                exact ⟨_, (eB false), rfl, (.of_eq rfl), .of_eq ((enc_b td4 sz4).cut _ _ _), (hH.noT.drop n5)⟩
            · subst hb
              refine wpo_skip rfl rfl rfl ?_
              refine wpo_skip rfl rfl rfl ?_
              refine wpo_skip rfl rfl rfl ?_
              refine wpo_mv (a := (eB false)) rfl rfl rfl (o_pick_f tk rfl rfl (Wk.refl _)) ?_
              refine wpo_mv (a := (eB false)) rfl rfl rfl (o_mv tk rfl (Wk.refl _)) ?_
              refine wpo_skip rfl rfl rfl ?_
              refine wpo_skip rfl rfl rfl ?_
              refine wpo_skip rfl rfl rfl ?_
              refine wpo_mv (a := (eB false)) rfl rfl rfl (o_pick_f tk rfl rfl (Wk.refl _)) ?_
              refine wpo_mv (a := (eB false)) rfl rfl rfl (o_mv tk rfl (Wk.refl _)) ?_
              refine wpo_skip rfl rfl rfl ?_
              refine wpo_skip rfl rfl rfl ?_
              refine wpo_mv (a := (eB false)) rfl rfl rfl (o_pick_f tk rfl rfl (Wk.refl _)) ?_
              refine wpo_mv (a := (eB false)) rfl rfl rfl (o_mv tk rfl (Wk.refl _)) ?_
              refine wpo_skip rfl rfl rfl ?_
              refine wpo_skip rfl rfl rfl ?_
              refine wpo_mv (a := (eB false)) rfl rfl rfl (o_pick_f tk rfl rfl (Wk.refl _)) ?_
              refine wpo_mv (a := (eB false)) rfl rfl rfl (o_mv tk rfl (Wk.refl _)) ?_
              refine wpo_skip rfl rfl rfl ?_
              refine wpo_skip rfl rfl rfl ?_
              refine wpo_mv (a := (eB false)) rfl rfl rfl (o_pick_f tk rfl rfl (Wk.refl _)) ?_
              refine wpo_mv (a := (eB false)) rfl rfl rfl (o_mv tk rfl (Wk.refl _)) ?_
              refine wpo_skip rfl rfl rfl ?_
              refine wpo_skip rfl rfl rfl ?_
              refine wpo_mv (a := (eB false)) rfl rfl rfl (o_pick_f tk rfl rfl (Wk.refl _)) ?_
              refine wpo_mv (a := (eB false)) rfl rfl rfl (o_mv tk rfl (Wk.refl _)) ?_
              refine wpo_skip rfl rfl rfl ?_
              refine wpo_skip rfl rfl rfl ?_
              refine wpo_skip rfl rfl rfl ?_
              refine wpo_mv (a := (eB false)) rfl rfl rfl (o_pick_f tk rfl rfl (Wk.refl _)) ?_
              refine wpo_mv (a := (eB false)) rfl rfl rfl (o_mv tk rfl (Wk.refl _)) ?_
              refine wpo_skip rfl rfl rfl ?_
              refine wpo_skip rfl rfl rfl ?_
              refine wpo_skip rfl rfl rfl ?_
              refine wpo_mv (a := (eB false)) rfl rfl rfl (o_pick_f tk rfl rfl (Wk.refl _)) ?_
              refine wpo_mv (a := (eB false)) rfl rfl rfl (o_as tk rfl (Wk.refl _)) ?_
              refine wpo_nil ?_
              refine awp_ret ?_
              obtain rfl := Option.some.inj H38
              exact ⟨_, (eB false), rfl, (.of_eq rfl), .of_eq ((enc_b td4 sz4).cut _ _ _), (hH.noT.drop n5)⟩
          · subst hb
            refine wpo_skip rfl rfl rfl ?_
            refine wpo_skip rfl rfl rfl ?_
            refine wpo_skip rfl rfl rfl ?_
            refine wpo_mv (a := (eB false)) rfl rfl rfl (o_pick_f tk rfl rfl (Wk.refl _)) ?_
            refine wpo_mv (a := (eB false)) rfl rfl rfl (o_mv tk rfl (Wk.refl _)) ?_
            refine wpo_skip rfl rfl rfl ?_
            refine wpo_skip rfl rfl rfl ?_
            refine wpo_skip rfl rfl rfl ?_
            refine wpo_mv (a := (eB false)) rfl rfl rfl (o_pick_f tk rfl rfl (Wk.refl _)) ?_
            refine wpo_mv (a := (eB false)) rfl rfl rfl (o_mv tk rfl (Wk.refl _)) ?_
            refine wpo_skip rfl rfl rfl ?_
            refine wpo_skip rfl rfl rfl ?_
            refine wpo_skip rfl rfl rfl ?_
            refine wpo_mv (a := (eB false)) rfl rfl rfl (o_pick_f tk rfl rfl (Wk.refl _)) ?_
            refine wpo_mv (a := (eB false)) rfl rfl rfl (o_mv tk rfl (Wk.refl _)) ?_
            refine wpo_skip rfl rfl rfl ?_
            refine wpo_skip rfl rfl rfl ?_
            refine wpo_mv (a := (eB false)) rfl rfl rfl (o_pick_f tk rfl rfl (Wk.refl _)) ?_
            refine wpo_mv (a := (eB false)) rfl rfl rfl (o_mv tk rfl (Wk.refl _)) ?_
            refine wpo_skip rfl rfl rfl ?_
            refine wpo_skip rfl rfl rfl ?_
            refine wpo_mv (a := (eB false)) rfl rfl rfl (o_pick_f tk rfl rfl (Wk.refl _)) ?_
            refine wpo_mv (a := (eB false)) rfl rfl rfl (o_mv tk rfl (Wk.refl _)) ?_
            refine wpo_skip rfl rfl rfl ?_
            refine wpo_skip rfl rfl rfl ?_
            refine wpo_mv (a := (eB false)) rfl rfl rfl (o_pick_f tk rfl rfl (Wk.refl _)) ?_
            refine wpo_mv (a := (eB false)) rfl rfl rfl (o_mv tk rfl (Wk.refl _)) ?_
            refine wpo_skip rfl rfl rfl ?_
            refine wpo_skip rfl rfl rfl ?_
            refine wpo_mv (a := (eB false)) rfl rfl rfl (o_pick_f tk rfl rfl (Wk.refl _)) ?_
            refine wpo_mv (a := (eB false)) rfl rfl rfl (o_mv tk rfl (Wk.refl _)) ?_
            refine wpo_skip rfl rfl rfl ?_
            refine wpo_skip rfl rfl rfl ?_
            refine wpo_skip rfl rfl rfl ?_
            refine wpo_mv (a := (eB false)) rfl rfl rfl (o_pick_f tk rfl rfl (Wk.refl _)) ?_
            refine wpo_mv (a := (eB false)) rfl rfl rfl (o_mv tk rfl (Wk.refl _)) ?_
            refine wpo_skip rfl rfl rfl ?_
            refine wpo_skip rfl rfl rfl ?_
            refine wpo_skip rfl rfl rfl ?_
            refine wpo_mv (a := (eB false)) rfl rfl rfl (o_pick_f tk rfl rfl (Wk.refl _)) ?_
            refine wpo_mv (a := (eB false)) rfl rfl rfl (o_as tk rfl (Wk.refl _)) ?_
            refine wpo_nil ?_
            refine awp_ret ?_
            obtain rfl := Option.some.inj H33
            exact ⟨_, (eB false), rfl, (.of_eq rfl), .of_eq ((enc_b td4 sz4).cut _ _ _), (hH.noT.drop n5)⟩
        · subst hb
          refine wpo_skip rfl rfl rfl ?_
          refine wpo_skip rfl rfl rfl ?_
          refine wpo_mv (a := (eB false)) rfl rfl rfl (o_pick_f tk rfl rfl (Wk.refl _)) ?_
          refine wpo_mv (a := (eB false)) rfl rfl rfl (o_mv tk rfl (Wk.refl _)) ?_
          refine wpo_skip rfl rfl rfl ?_
          refine wpo_skip rfl rfl rfl ?_
          refine wpo_skip rfl rfl rfl ?_
          refine wpo_mv (a := (eB false)) rfl rfl rfl (o_pick_f tk rfl rfl (Wk.refl _)) ?_
          refine wpo_mv (a := (eB false)) rfl rfl rfl (o_mv tk rfl (Wk.refl _)) ?_
          refine wpo_skip rfl rfl rfl ?_
          refine wpo_skip rfl rfl rfl ?_
          refine wpo_skip rfl rfl rfl ?_
          refine wpo_mv (a := (eB false)) rfl rfl rfl (o_pick_f tk rfl rfl (Wk.refl _)) ?_
          refine wpo_mv (a := (eB false)) rfl rfl rfl (o_mv tk rfl (Wk.refl _)) ?_
          refine wpo_skip rfl rfl rfl ?_
          refine wpo_skip rfl rfl rfl ?_
          refine wpo_skip rfl rfl rfl ?_
          refine wpo_mv (a := (eB false)) rfl rfl rfl (o_pick_f tk rfl rfl (Wk.refl _)) ?_
          refine wpo_mv (a := (eB false)) rfl rfl rfl (o_mv tk rfl (Wk.refl _)) ?_
          refine wpo_skip rfl rfl rfl ?_
          refine wpo_skip rfl rfl rfl ?_
          refine wpo_mv (a := (eB false)) rfl rfl rfl (o_pick_f tk rfl rfl (Wk.refl _)) ?_
          refine wpo_mv (a := (eB false)) rfl rfl rfl (o_mv tk rfl (Wk.refl _)) ?_
          refine wpo_skip rfl rfl rfl ?_
          refine wpo_skip rfl rfl rfl ?_
          refine wpo_mv (a := (eB false)) rfl rfl rfl (o_pick_f tk rfl rfl (Wk.refl _)) ?_
          refine wpo_mv (a := (eB false)) rfl rfl rfl (o_mv tk rfl (Wk.refl _)) ?_
          refine wpo_skip rfl rfl rfl ?_
          refine wpo_skip rfl rfl rfl ?_
          refine wpo_mv (a := (eB false)) rfl rfl rfl (o_pick_f tk rfl rfl (Wk.refl _)) ?_
          refine wpo_mv (a := (eB false)) rfl rfl rfl (o_mv tk rfl (Wk.refl _)) ?_
          refine wpo_skip rfl rfl rfl ?_
          refine wpo_skip rfl rfl rfl ?_
          refine wpo_mv (a := (eB false)) rfl rfl rfl (o_pick_f tk rfl rfl (Wk.refl _)) ?_
          refine wpo_mv (a := (eB false)) rfl rfl rfl (o_mv tk rfl (Wk.refl _)) ?_
          refine wpo_skip rfl rfl rfl ?_
          refine wpo_skip rfl rfl rfl ?_
          refine wpo_skip rfl rfl rfl ?_
          refine wpo_mv (a := (eB false)) rfl rfl rfl (o_pick_f tk rfl rfl (Wk.refl _)) ?_
          refine wpo_mv (a := (eB false)) rfl rfl rfl (o_mv tk rfl (Wk.refl _)) ?_
          refine wpo_skip rfl rfl rfl ?_
          refine wpo_skip rfl rfl rfl ?_
          refine wpo_skip rfl rfl rfl ?_
          refine wpo_mv (a := (eB false)) rfl rfl rfl (o_pick_f tk rfl rfl (Wk.refl _)) ?_
          refine wpo_mv (a := (eB false)) rfl rfl rfl (o_as tk rfl (Wk.refl _)) ?_
          refine wpo_nil ?_
          refine awp_ret ?_
          obtain rfl := Option.some.inj H30
          exact ⟨_, (eB false), rfl, (.of_eq rfl), .of_eq ((enc_b td4 sz4).cut _ _ _), (hH.noT.drop n5)⟩
    · rw [hz18, Option.elim_some] at H13
      refine wpo_a (av := fun id => .tup [.ref id 0, (eErr v14.2)]) rfl rfl rfl (h_callno1 hH hz18 rfl rfl (.cons (.of_eq rfl) .nil) (slab_New_ok hvv14 _)) fun id16 τ ⟨hH, n17⟩ => ?_
      refine wpo_mv (a := (.tup [(.ref id16 0), (eErr v14.2)])) rfl rfl rfl (o_mv tk rfl (Wk.refl _)) ?_
      refine wpo_mv (a := (.ref id16 0)) rfl rfl rfl (o_ext tk rfl rfl) ?_
      refine wpo_mv (a := (eErr v14.2)) rfl rfl rfl (o_ext tk rfl rfl) ?_
      refine wpo_mv (a := (.ref id16 0)) rfl rfl rfl (o_as tk rfl (Wk.refl _)) ?_
      refine wpo_mv (a := (eErr v14.2)) rfl rfl rfl (o_as tk rfl (Wk.refl _)) ?_
      refine wpo_nil ?_
      refine awp_seq ?_
      refine awp_seq ?_
      refine awp_region rfl ?_
      refine wpo_mv (a := (.ref id4 0)) rfl rfl rfl (o_mv tk rfl (Wk.refl _)) ?_
      refine wpo_mv (a := (eB false)) rfl rfl rfl (o_c tk false rfl (fun _ => rfl)) ?_
      refine wpo_mv (a := (eB false)) rfl rfl rfl (o_mv tk rfl (Wk.refl _)) ?_
      refine wpo_mv (a := (eErr v2.2)) rfl rfl rfl (o_mv tk rfl (Wk.refl _)) ?_
      refine wpo_lt H13 eB rfl rfl rfl (o_err_neq tk rfl rfl rfl) fun v77 H76 => ?_
      refine wpo_mv (a := (eB v77)) rfl rfl rfl (o_pick_f tk rfl rfl (Wk.refl _)) ?_
      refine wpo_nil ?_
      refine awp_if H76 rfl (fun H78 => ?_) (fun H78 => ?_)
      · refine awp_seq ?_
        refine awp_region rfl ?_
        refine wpo_mv (a := (eB false)) rfl rfl rfl (o_as tk rfl (Wk.refl _)) ?_
        refine wpo_nil ?_
        refine awp_ret ?_
        obtain rfl := Option.some.inj H78
        exact ⟨_, (eB false), rfl, (.of_eq rfl), .of_eq ((enc_b td4 sz4).cut _ _ _), ((hH.noT.drop n17).drop n5)⟩
      · refine awp_skip ?_
        refine awp_seq ?_
        refine awp_region rfl ?_
        refine wpo_mv (a := (.ref id4 0)) rfl rfl rfl (o_mv tk rfl (Wk.refl _)) ?_
        refine wpo_cb H78 (fun x _ => eErr x.1) rfl rfl rfl (fun v80 hv => h_call1 hH [(1, (id4, (c_slab_Budget v80.2)))] ⟨⟨_, rfl⟩, trivial⟩ rfl rfl (.cons (.of_eq rfl) (.cons (.of_eq rfl) .nil)) (slab_Budget_Take_ok hv _ (hH.at_ 1 rfl))) fun v80 _ τ hv80 H79 hH => ?_
        refine wpo_mv (a := (eErr v80.1)) rfl rfl rfl (o_as tk rfl (Wk.refl _)) ?_
        refine wpo_nil ?_
        refine awp_seq ?_
        refine awp_region rfl ?_
        refine wpo_mv (a := (.ref id4 0)) rfl rfl rfl (o_mv tk rfl (Wk.refl _)) ?_
        refine wpo_cb H79 (fun x _ => eErr x.1) rfl rfl rfl (fun v82 hv => h_call1 hH [(1, (id4, (c_slab_Budget v82.2)))] ⟨⟨_, rfl⟩, trivial⟩ rfl rfl (.cons (.of_eq rfl) (.cons (.of_eq rfl) .nil)) (slab_Budget_Take_ok hv _ (hH.at_ 1 rfl))) fun v82 _ τ hv82 H81 hH => ?_
        refine wpo_mv (a := (eErr v82.1)) rfl rfl rfl (o_as tk rfl (Wk.refl _)) ?_
        refine wpo_nil ?_
        refine awp_seq ?_
        refine awp_region rfl ?_
        refine wpo_mv (a := (eErr v14.2)) rfl rfl rfl (o_mv tk rfl (Wk.refl _)) ?_
        refine wpo_bdr H81 eI rfl rfl rfl (fun v84 hv => h_callr rfl rfl (.cons (.of_eq rfl) .nil) (trouble_Of_ok hv _ (hH.gl.trans hg))) fun v84 hv84 H83 => ?_
        refine wpo_lt H83 eB rfl rfl rfl (o_ar tk rfl rfl rfl) fun v86 H85 => ?_
        refine wpo_mv (a := (eB v86)) rfl rfl rfl (o_mv tk rfl (Wk.refl _)) ?_
        refine if_split H85 (fun hb H87 => ?_) (fun hb H87 => ?_)
        · subst hb
          refine wpo_mv (a := (eErr v80.1)) rfl rfl rfl (o_mv tk rfl (Wk.refl _)) ?_
          refine wpo_lt H87 eB rfl rfl rfl (o_err_eql tk rfl rfl rfl) fun v89 H88 => ?_
          refine wpo_mv (a := (eB v89)) rfl rfl rfl (o_pick_t tk rfl rfl (Wk.refl _)) ?_
          refine wpo_mv (a := (eB v89)) rfl rfl rfl (o_mv tk rfl (Wk.refl _)) ?_
          refine if_split H88 (fun hb H90 => ?_) (fun hb H90 => ?_)
          · subst hb
            refine wpo_mv (a := (eErr v82.1)) rfl rfl rfl (o_mv tk rfl (Wk.refl _)) ?_
            refine wpo_bdr H90 eI rfl rfl rfl (fun v92 hv => h_callr rfl rfl (.cons (.of_eq rfl) .nil) (trouble_Of_ok hv _ (hH.gl.trans hg))) fun v92 hv92 H91 => ?_
            refine wpo_lt H91 eB rfl rfl rfl (o_ar tk rfl rfl rfl) fun v94 H93 => ?_
            refine wpo_mv (a := (eB v94)) rfl rfl rfl (o_pick_t tk rfl rfl (Wk.refl _)) ?_
            refine wpo_mv (a := (eB v94)) rfl rfl rfl (o_mv tk rfl (Wk.refl _)) ?_
            refine if_split H93 (fun hb H95 => ?_) (fun hb H95 => ?_)
            · subst hb
              refine wpo_mv (a := (.ref id4 0)) rfl rfl rfl (o_mv tk rfl (Wk.refl _)) ?_
              refine wpo_bdr H95 eI rfl rfl rfl (fun v97 hv => h_callr rfl rfl (.cons (.of_eq rfl) .nil) (slab_Budget_Used_ok hv _ (hH.at_ 1 rfl))) fun v97 hv97 H96 => ?_
              refine wpo_lt H96 eB rfl rfl rfl (o_ar tk rfl rfl rfl) fun v99 H98 => ?_
              refine wpo_mv (a := (eB v99)) rfl rfl rfl (o_pick_t tk rfl rfl (Wk.refl _)) ?_
              refine wpo_mv (a := (eB v99)) rfl rfl rfl (o_mv tk rfl (Wk.refl _)) ?_
              refine if_split H98 (fun hb H100 => ?_) (fun hb H100 => ?_)
              · subst hb
                refine wpo_mv (a := (.ref id4 0)) rfl rfl rfl (o_mv tk rfl (Wk.refl _)) ?_
                refine wpo_bdr H100 eI rfl rfl rfl (fun v102 hv => h_callr rfl rfl (.cons (.of_eq rfl) .nil) (slab_Budget_Left_ok hv _ (hH.at_ 1 rfl))) fun v102 hv102 H101 => ?_
                refine wpo_lt H101 eB rfl rfl rfl (o_ar tk rfl rfl rfl) fun v104 H103 => ?_
                refine wpo_mv (a := (eB v104)) rfl rfl rfl (o_pick_t tk rfl rfl (Wk.refl _)) ?_
                refine wpo_mv (a := (eB v104)) rfl rfl rfl (o_mv tk rfl (Wk.refl _)) ?_
                refine if_split H103 (fun hb H105 => ?_) (fun hb H105 => ?_)
                · subst hb
                  refine wpo_bd H105 eI rfl rfl rfl (fun v107 hv => OpP.of_call rfl rfl (.cons (.of_eq rfl) .nil) (slab_Class_ok hv)) fun v107 hv107 H106 => ?_
                  refine wpo_lt H106 eB rfl rfl rfl (o_ar tk rfl rfl rfl) fun v109 H108 => ?_
                  refine wpo_mv (a := (eB v109)) rfl rfl rfl (o_pick_t tk rfl rfl (Wk.refl _)) ?_
                  refine wpo_mv (a := (eB v109)) rfl rfl rfl (o_mv tk rfl (Wk.refl _)) ?_
                  refine if_split H108 (fun hb H110 => ?_) (fun hb H110 => ?_)
                  · subst hb
                    refine wpo_bd H110 eI rfl rfl rfl (fun v112 hv => OpP.of_call rfl rfl (.cons (.of_eq rfl) .nil) (slab_Size_ok hv)) fun v112 hv112 H111 => ?_
                    refine wpo_lt H111 eB rfl rfl rfl (o_ar tk rfl rfl rfl) fun v114 H113 => ?_
                    refine wpo_mv (a := (eB v114)) rfl rfl rfl (o_pick_t tk rfl rfl (Wk.refl _)) ?_
                    refine wpo_mv (a := (eB v114)) rfl rfl rfl (o_mv tk rfl (Wk.refl _)) ?_
                    refine if_split H113 (fun hb H115 => ?_) (fun hb H115 => ?_)
                    · subst hb
                      refine wpo_bd H115 eI rfl rfl rfl (fun v117 hv => OpP.of_call rfl rfl (.cons (.of_eq rfl) .nil) (slab_Class_ok hv)) fun v117 hv117 H116 => ?_
                      refine wpo_lt H116 eB rfl rfl rfl (o_ar tk rfl rfl rfl) fun v119 H118 => ?_
                      refine wpo_mv (a := (eB v119)) rfl rfl rfl (o_pick_t tk rfl rfl (Wk.refl _)) ?_
                      refine wpo_mv (a := (eB v119)) rfl rfl rfl (o_mv tk rfl (Wk.refl _)) ?_
                      refine if_split H118 (fun hb H120 => ?_) (fun hb H120 => ?_)
                      · subst hb
                        refine wpo_mv (a := (.ref id4 0)) rfl rfl rfl (o_mv tk rfl (Wk.refl _)) ?_
                        refine wpo_bdr H120 eB rfl rfl rfl (fun v122 hv => h_callr rfl rfl (.cons (.of_eq rfl) (.cons (.of_eq rfl) .nil)) (slab_Budget_Fits_ok hv _ (hH.at_ 1 rfl))) fun v122 hv122 H121 => ?_
                        refine wpo_mv (a := (eB v122)) rfl rfl rfl (o_pick_t tk rfl rfl (Wk.refl _)) ?_
                        refine wpo_mv (a := (eB v122)) rfl rfl rfl (o_mv tk rfl (Wk.refl _)) ?_
                        refine if_split H121 (fun hb H123 => ?_) (fun hb H123 => ?_)
                        · subst hb
                          refine wpo_mv (a := (.ref id4 0)) rfl rfl rfl (o_mv tk rfl (Wk.refl _)) ?_
                          refine wpo_bdr H123 eB rfl rfl rfl (fun v125 hv => h_callr rfl rfl (.cons (.of_eq rfl) (.cons (.of_eq rfl) .nil)) (slab_Budget_Fits_ok hv _ (hH.at_ 1 rfl))) fun v125 hv125 H124 => ?_
                          refine wpo_lt H124 eB rfl rfl rfl (o_un tk rfl rfl) fun v127 H126 => ?_
                          refine wpo_mv (a := (eB v127)) rfl rfl rfl (o_pick_t tk rfl rfl (Wk.refl _)) ?_
                          refine wpo_mv (a := (eB v127)) rfl rfl rfl (o_mv tk rfl (Wk.refl _)) ?_
                          refine if_split H126 (fun hb H128 => ?_) (fun hb H128 => ?_)
                          · subst hb
                            refine wpo_mv (a := (.ref id4 0)) rfl rfl rfl (o_mv tk rfl (Wk.refl _)) ?_
                            refine wpo_bdr H128 eI rfl rfl rfl (fun v130 hv => h_callr rfl rfl (.cons (.of_eq rfl) (.cons (.of_eq rfl) .nil)) (slab_Budget_Count_ok hv _ (hH.at_ 1 rfl))) fun v130 hv130 H129 => ?_
                            refine wpo_lt H129 eB rfl rfl rfl (o_ar tk rfl rfl rfl) fun v132 H131 => ?_
                            refine wpo_mv (a := (eB v132)) rfl rfl rfl (o_pick_t tk rfl rfl (Wk.refl _)) ?_
                            refine wpo_mv (a := (eB v132)) rfl rfl rfl (o_as tk rfl (Wk.refl _)) ?_
                            refine wpo_nil ?_
                            refine awp_ret ?_
                            obtain rfl := Option.some.inj H131
                            exact ⟨_, (eB v132), rfl, (.of_eq rfl), .of_eq ((enc_b td4 sz4).cut _ _ _), ((hH.noT.drop n17).drop n5)⟩
                          · subst hb
                            refine wpo_skip rfl rfl rfl ?_
                            refine wpo_skip rfl rfl rfl ?_
                            refine wpo_skip rfl rfl rfl ?_
                            refine wpo_mv (a := (eB false)) rfl rfl rfl (o_pick_f tk rfl rfl (Wk.refl _)) ?_
                            refine wpo_mv (a := (eB false)) rfl rfl rfl (o_as tk rfl (Wk.refl _)) ?_
                            refine wpo_nil ?_
                            refine awp_ret ?_
                            obtain rfl := Option.some.inj H128
                            exact ⟨_, (eB false), rfl, (.of_eq rfl), .of_eq ((enc_b td4 sz4).cut _ _ _), ((hH.noT.drop n17).drop n5)⟩
                        · subst hb
                          refine wpo_skip rfl rfl rfl ?_
                          refine wpo_skip rfl rfl rfl ?_
                          refine wpo_skip rfl rfl rfl ?_
                          refine wpo_mv (a := (eB false)) rfl rfl rfl (o_pick_f tk rfl rfl (Wk.refl _)) ?_
                          refine wpo_mv (a := (eB false)) rfl rfl rfl (o_mv tk rfl (Wk.refl _)) ?_
                          refine wpo_skip rfl rfl rfl ?_
                          refine wpo_skip rfl rfl rfl ?_
                          refine wpo_skip rfl rfl rfl ?_
                          refine wpo_mv (a := (eB false)) rfl rfl rfl (o_pick_f tk rfl rfl (Wk.refl _)) ?_
                          refine wpo_mv (a := (eB false)) rfl rfl rfl (o_as tk rfl (Wk.refl _)) ?_
                          refine wpo_nil ?_
                          refine awp_ret ?_
                          obtain rfl := Option.some.inj H123
                          exact ⟨_, (eB false), rfl, (.of_eq rfl), .of_eq ((enc_b td4 sz4).cut _ _ _), ((hH.noT.drop n17).drop n5)⟩
                      · subst hb
                        refine wpo_skip rfl rfl rfl ?_
                        refine wpo_skip rfl rfl rfl ?_
                        refine wpo_mv (a := (eB false)) rfl rfl rfl (o_pick_f tk rfl rfl (Wk.refl _)) ?_
                        refine wpo_mv (a := (eB false)) rfl rfl rfl (o_mv tk rfl (Wk.refl _)) ?_
                        refine wpo_skip rfl rfl rfl ?_
                        refine wpo_skip rfl rfl rfl ?_
                        refine wpo_skip rfl rfl rfl ?_
                        refine wpo_mv (a := (eB false)) rfl rfl rfl (o_pick_f tk rfl rfl (Wk.refl _)) ?_
                        refine wpo_mv (a := (eB false)) rfl rfl rfl (o_mv tk rfl (Wk.refl _)) ?_
                        refine wpo_skip rfl rfl rfl ?_
                        refine wpo_skip rfl rfl rfl ?_
                        refine wpo_skip rfl rfl rfl ?_
                        refine wpo_mv (a := (eB false)) rfl rfl rfl (o_pick_f tk rfl rfl (Wk.refl _)) ?_
                        refine wpo_mv (a := (eB false)) rfl rfl rfl (o_as tk rfl (Wk.refl _)) ?_
                        refine wpo_nil ?_
                        refine awp_ret ?_
                        obtain rfl := Option.some.inj H120
                        exact ⟨_, (eB false), rfl, (.of_eq rfl), .of_eq ((enc_b td4 sz4).cut _ _ _), ((hH.noT.drop n17).drop n5)⟩
                    · subst hb
                      refine wpo_skip rfl rfl rfl ?_
                      refine wpo_skip rfl rfl rfl ?_
                      refine wpo_mv (a := (eB false)) rfl rfl rfl (o_pick_f tk rfl rfl (Wk.refl _)) ?_
                      refine wpo_mv (a := (eB false)) rfl rfl rfl (o_mv tk rfl (Wk.refl _)) ?_
                      refine wpo_skip rfl rfl rfl ?_
                      refine wpo_skip rfl rfl rfl ?_
                      refine wpo_mv (a := (eB false)) rfl rfl rfl (o_pick_f tk rfl rfl (Wk.refl _)) ?_
                      refine wpo_mv (a := (eB false)) rfl rfl rfl (o_mv tk rfl (Wk.refl _)) ?_
                      refine wpo_skip rfl rfl rfl ?_
                      refine wpo_skip rfl rfl rfl ?_
                      refine wpo_skip rfl rfl rfl ?_
                      refine wpo_mv (a := (eB false)) rfl rfl rfl (o_pick_f tk rfl rfl (Wk.refl _)) ?_
                      refine wpo_mv (a := (eB false)) rfl rfl rfl (o_mv tk rfl (Wk.refl _)) ?_
                      refine wpo_skip rfl rfl rfl ?_
                      refine wpo_skip rfl rfl rfl ?_
                      refine wpo_skip rfl rfl rfl ?_
                      refine wpo_mv (a := (eB false)) rfl rfl rfl (o_pick_f tk rfl rfl (Wk.refl _)) ?_
                      refine wpo_mv (a := (eB false)) rfl rfl rfl (o_as tk rfl (Wk.refl _)) ?_
                      refine wpo_nil ?_
                      refine awp_ret ?_
                      obtain rfl := Option.some.inj H115
                      exact ⟨_, (eB false), rfl, (.of_eq rfl), .of_eq ((enc_b td4 sz4).cut _ _ _), ((hH.noT.drop n17).drop n5)⟩
                  · subst hb
                    refine wpo_skip rfl rfl rfl ?_
                    refine wpo_skip rfl rfl rfl ?_
                    refine wpo_mv (a := (eB false)) rfl rfl rfl (o_pick_f tk rfl rfl (Wk.refl _)) ?_
                    refine wpo_mv (a := (eB false)) rfl rfl rfl (o_mv tk rfl (Wk.refl _)) ?_
                    refine wpo_skip rfl rfl rfl ?_
                    refine wpo_skip rfl rfl rfl ?_
                    refine wpo_mv (a := (eB false)) rfl rfl rfl (o_pick_f tk rfl rfl (Wk.refl _)) ?_
                    refine wpo_mv (a := (eB false)) rfl rfl rfl (o_mv tk rfl (Wk.refl _)) ?_
                    refine wpo_skip rfl rfl rfl ?_
                    refine wpo_skip rfl rfl rfl ?_
                    refine wpo_mv (a := (eB false)) rfl rfl rfl (o_pick_f tk rfl rfl (Wk.refl _)) ?_
                    refine wpo_mv (a := (eB false)) rfl rfl rfl (o_mv tk rfl (Wk.refl _)) ?_
                    refine wpo_skip rfl rfl rfl ?_
                    refine wpo_skip rfl rfl rfl ?_
                    refine wpo_skip rfl rfl rfl ?_
                    refine wpo_mv (a := (eB false)) rfl rfl rfl (o_pick_f tk rfl rfl (Wk.refl _)) ?_
                    refine wpo_mv (a := (eB false)) rfl rfl rfl (o_mv tk rfl (Wk.refl _)) ?_
                    refine wpo_skip rfl rfl rfl ?_
                    refine wpo_skip rfl rfl rfl ?_
                    refine wpo_skip rfl rfl rfl ?_
                    refine wpo_mv (a := (eB false)) rfl rfl rfl (o_pick_f tk rfl rfl (Wk.refl _)) ?_
                    refine wpo_mv (a := (eB false)) rfl rfl rfl (o_as tk rfl (Wk.refl _)) ?_
                    refine wpo_nil ?_
                    refine awp_ret ?_
                    obtain rfl := Option.some.inj H110
                    exact ⟨_, (eB false), rfl, (.of_eq rfl), .of_eq ((enc_b td4 sz4).cut _ _ _), ((hH.noT.drop n17).drop n5)⟩
                · subst hb
                  refine wpo_skip rfl rfl rfl ?_
                  refine wpo_skip rfl rfl rfl ?_
                  refine wpo_mv (a := (eB false)) rfl rfl rfl (o_pick_f tk rfl rfl (Wk.refl _)) ?_
                  refine wpo_mv (a := (eB false)) rfl rfl rfl (o_mv tk rfl (Wk.refl _)) ?_
                  refine wpo_skip rfl rfl rfl ?_
                  refine wpo_skip rfl rfl rfl ?_
                  refine wpo_mv (a := (eB false)) rfl rfl rfl (o_pick_f tk rfl rfl (Wk.refl _)) ?_
                  refine wpo_mv (a := (eB false)) rfl rfl rfl (o_mv tk rfl (Wk.refl _)) ?_
                  refine wpo_skip rfl rfl rfl ?_
                  refine wpo_skip rfl rfl rfl ?_
                  refine wpo_mv (a := (eB false)) rfl rfl rfl (o_pick_f tk rfl rfl (Wk.refl _)) ?_
                  refine wpo_mv (a := (eB false)) rfl rfl rfl (o_mv tk rfl (Wk.refl _)) ?_
                  refine wpo_skip rfl rfl rfl ?_
                  refine wpo_skip rfl rfl rfl ?_
                  refine wpo_mv (a := (eB false)) rfl rfl rfl (o_pick_f tk rfl rfl (Wk.refl _)) ?_
                  refine wpo_mv (a := (eB false)) rfl rfl rfl (o_mv tk rfl (Wk.refl _)) ?_
                  refine wpo_skip rfl rfl rfl ?_
                  refine wpo_skip rfl rfl rfl ?_
                  refine wpo_skip rfl rfl rfl ?_
                  refine wpo_mv (a := (eB false)) rfl rfl rfl (o_pick_f tk rfl rfl (Wk.refl _)) ?_
                  refine wpo_mv (a := (eB false)) rfl rfl rfl (o_mv tk rfl (Wk.refl _)) ?_
                  refine wpo_skip rfl rfl rfl ?_
                  refine wpo_skip rfl rfl rfl ?_
                  refine wpo_skip rfl rfl rfl ?_
                  refine wpo_mv (a := (eB false)) rfl rfl rfl (o_pick_f tk rfl rfl (Wk.refl _)) ?_
                  refine wpo_mv (a := (eB false)) rfl rfl rfl (o_as tk rfl (Wk.refl _)) ?_
                  refine wpo_nil ?_
                  refine awp_ret ?_
                  obtain rfl := Option.some.inj H105
                  exact ⟨_, (eB false), rfl, (.of_eq rfl), .of_eq ((enc_b td4 sz4).cut _ _ _), ((hH.noT.drop n17).drop n5)⟩
              · subst hb
                refine wpo_skip rfl rfl rfl ?_
                refine wpo_skip rfl rfl rfl ?_
                refine wpo_skip rfl rfl rfl ?_
                refine wpo_mv (a := (eB false)) rfl rfl rfl (o_pick_f tk rfl rfl (Wk.refl _)) ?_
                refine wpo_mv (a := (eB false)) rfl rfl rfl (o_mv tk rfl (Wk.refl _)) ?_
                refine wpo_skip rfl rfl rfl ?_
                refine wpo_skip rfl rfl rfl ?_
                refine wpo_mv (a := (eB false)) rfl rfl rfl (o_pick_f tk rfl rfl (Wk.refl _)) ?_
                refine wpo_mv (a := (eB false)) rfl rfl rfl (o_mv tk rfl (Wk.refl _)) ?_
                refine wpo_skip rfl rfl rfl ?_
                refine wpo_skip rfl rfl rfl ?_
                refine wpo_mv (a := (eB false)) rfl rfl rfl (o_pick_f tk rfl rfl (Wk.refl _)) ?_
                refine wpo_mv (a := (eB false)) rfl rfl rfl (o_mv tk rfl (Wk.refl _)) ?_
                refine wpo_skip rfl rfl rfl ?_
                refine wpo_skip rfl rfl rfl ?_
                refine wpo_mv (a := (eB false)) rfl rfl rfl (o_pick_f tk rfl rfl (Wk.refl _)) ?_
                refine wpo_mv (a := (eB false)) rfl rfl rfl (o_mv tk rfl (Wk.refl _)) ?_
                refine wpo_skip rfl rfl rfl ?_
                refine wpo_skip rfl rfl rfl ?_
                refine wpo_mv (a := (eB false)) rfl rfl rfl (o_pick_f tk rfl rfl (Wk.refl _)) ?_
                refine wpo_mv (a := (eB false)) rfl rfl rfl (o_mv tk rfl (Wk.refl _)) ?_
                refine wpo_skip rfl rfl rfl ?_
                refine wpo_skip rfl rfl rfl ?_
                refine wpo_skip rfl rfl rfl ?_
                refine wpo_mv (a := (eB false)) rfl rfl rfl (o_pick_f tk rfl rfl (Wk.refl _)) ?_
                refine wpo_mv (a := (eB false)) rfl rfl rfl (o_mv tk rfl (Wk.refl _)) ?_
                refine wpo_skip rfl rfl rfl ?_
                refine wpo_skip rfl rfl rfl ?_
                refine wpo_skip rfl rfl rfl ?_
                refine wpo_mv (a := (eB false)) rfl rfl rfl (o_pick_f tk rfl rfl (Wk.refl _)) ?_
                refine wpo_mv (a := (eB false)) rfl rfl rfl (o_as tk rfl (Wk.refl _)) ?_
                refine wpo_nil ?_
                refine awp_ret ?_
                obtain rfl := Option.some.inj H100
                exact ⟨_, (eB false), rfl, (.of_eq rfl), .of_eq ((enc_b td4 sz4).cut _ _ _), ((hH.noT.drop n17).drop n5)⟩
            · subst hb
              refine wpo_skip rfl rfl rfl ?_
              refine wpo_skip rfl rfl rfl ?_
              refine wpo_skip rfl rfl rfl ?_
              refine wpo_mv (a := (eB false)) rfl rfl rfl (o_pick_f tk rfl rfl (Wk.refl _)) ?_
              refine wpo_mv (a := (eB false)) rfl rfl rfl (o_mv tk rfl (Wk.refl _)) ?_
              refine wpo_skip rfl rfl rfl ?_
              refine wpo_skip rfl rfl rfl ?_
              refine wpo_skip rfl rfl rfl ?_
              refine wpo_mv (a := (eB false)) rfl rfl rfl (o_pick_f tk rfl rfl (Wk.refl _)) ?_
              refine wpo_mv (a := (eB false)) rfl rfl rfl (o_mv tk rfl (Wk.refl _)) ?_
              refine wpo_skip rfl rfl rfl ?_
              refine wpo_skip rfl rfl rfl ?_
              refine wpo_mv (a := (eB false)) rfl rfl rfl (o_pick_f tk rfl rfl (Wk.refl _)) ?_
              refine wpo_mv (a := (eB false)) rfl rfl rfl (o_mv tk rfl (Wk.refl _)) ?_
              refine wpo_skip rfl rfl rfl ?_
              refine wpo_skip rfl rfl rfl ?_
              refine wpo_mv (a := (eB false)) rfl rfl rfl (o_pick_f tk rfl rfl (Wk.refl _)) ?_
              refine wpo_mv (a := (eB false)) rfl rfl rfl (o_mv tk rfl (Wk.refl _)) ?_
              refine wpo_skip rfl rfl rfl ?_
              refine wpo_skip rfl rfl rfl ?_
              refine wpo_mv (a := (eB false)) rfl rfl rfl (o_pick_f tk rfl rfl (Wk.refl _)) ?_
              refine wpo_mv (a := (eB false)) rfl rfl rfl (o_mv tk rfl (Wk.refl _)) ?_
              refine wpo_skip rfl rfl rfl ?_
              refine wpo_skip rfl rfl rfl ?_
              refine wpo_mv (a := (eB false)) rfl rfl rfl (o_pick_f tk rfl rfl (Wk.refl _)) ?_
              refine wpo_mv (a := (eB false)) rfl rfl rfl (o_mv tk rfl (Wk.refl _)) ?_
              refine wpo_skip rfl rfl rfl ?_
              refine wpo_skip rfl rfl rfl ?_
              refine wpo_skip rfl rfl rfl ?_
              refine wpo_mv (a := (eB false)) rfl rfl rfl (o_pick_f tk rfl rfl (Wk.refl _)) ?_
              refine wpo_mv (a := (eB false)) rfl rfl rfl (o_mv tk rfl (Wk.refl _)) ?_
              refine wpo_skip rfl rfl rfl ?_
              refine wpo_skip rfl rfl rfl ?_
              refine wpo_skip rfl rfl rfl ?_
              refine wpo_mv (a := (eB false)) rfl rfl rfl (o_pick_f tk rfl rfl (Wk.refl _)) ?_
              refine wpo_mv (a := (eB false)) rfl rfl rfl (o_as tk rfl (Wk.refl _)) ?_
              refine wpo_nil ?_
              refine awp_ret ?_
              obtain rfl := Option.some.inj H95
              exact ⟨_, (eB false), rfl, (.of_eq rfl), .of_eq ((enc_b td4 sz4).cut _ _ _), ((hH.noT.drop n17).drop n5)⟩
          · subst hb
            refine wpo_skip rfl rfl rfl ?_
            refine wpo_skip rfl rfl rfl ?_
            refine wpo_skip rfl rfl rfl ?_
            refine wpo_mv (a := (eB false)) rfl rfl rfl (o_pick_f tk rfl rfl (Wk.refl _)) ?_
            refine wpo_mv (a := (eB false)) rfl rfl rfl (o_mv tk rfl (Wk.refl _)) ?_
            refine wpo_skip rfl rfl rfl ?_
            refine wpo_skip rfl rfl rfl ?_
            refine wpo_skip rfl rfl rfl ?_
            refine wpo_mv (a := (eB false)) rfl rfl rfl (o_pick_f tk rfl rfl (Wk.refl _)) ?_
            refine wpo_mv (a := (eB false)) rfl rfl rfl (o_mv tk rfl (Wk.refl _)) ?_
            refine wpo_skip rfl rfl rfl ?_
            refine wpo_skip rfl rfl rfl ?_
            refine wpo_skip rfl rfl rfl ?_
            refine wpo_mv (a := (eB false)) rfl rfl rfl (o_pick_f tk rfl rfl (Wk.refl _)) ?_
            refine wpo_mv (a := (eB false)) rfl rfl rfl (o_mv tk rfl (Wk.refl _)) ?_
            refine wpo_skip rfl rfl rfl ?_
            refine wpo_skip rfl rfl rfl ?_
            refine wpo_mv (a := (eB false)) rfl rfl rfl (o_pick_f tk rfl rfl (Wk.refl _)) ?_
            refine wpo_mv (a := (eB false)) rfl rfl rfl (o_mv tk rfl (Wk.refl _)) ?_
            refine wpo_skip rfl rfl rfl ?_
            refine wpo_skip rfl rfl rfl ?_
            refine wpo_mv (a := (eB false)) rfl rfl rfl (o_pick_f tk rfl rfl (Wk.refl _)) ?_
            refine wpo_mv (a := (eB false)) rfl rfl rfl (o_mv tk rfl (Wk.refl _)) ?_
            refine wpo_skip rfl rfl rfl ?_
            refine wpo_skip rfl rfl rfl ?_
            refine wpo_mv (a := (eB false)) rfl rfl rfl (o_pick_f tk rfl rfl (Wk.refl _)) ?_
            refine wpo_mv (a := (eB false)) rfl rfl rfl (o_mv tk rfl (Wk.refl _)) ?_
            refine wpo_skip rfl rfl rfl ?_
            refine wpo_skip rfl rfl rfl ?_
            refine wpo_mv (a := (eB false)) rfl rfl rfl (o_pick_f tk rfl rfl (Wk.refl _)) ?_
            refine wpo_mv (a := (eB false)) rfl rfl rfl (o_mv tk rfl (Wk.refl _)) ?_
            refine wpo_skip rfl rfl rfl ?_
            refine wpo_skip rfl rfl rfl ?_
            refine wpo_skip rfl rfl rfl ?_
            refine wpo_mv (a := (eB false)) rfl rfl rfl (o_pick_f tk rfl rfl (Wk.refl _)) ?_
            refine wpo_mv (a := (eB false)) rfl rfl rfl (o_mv tk rfl (Wk.refl _)) ?_
            refine wpo_skip rfl rfl rfl ?_
            refine wpo_skip rfl rfl rfl ?_
            refine wpo_skip rfl rfl rfl ?_
            refine wpo_mv (a := (eB false)) rfl rfl rfl (o_pick_f tk rfl rfl (Wk.refl _)) ?_
            refine wpo_mv (a := (eB false)) rfl rfl rfl (o_as tk rfl (Wk.refl _)) ?_
            refine wpo_nil ?_
            refine awp_ret ?_
            obtain rfl := Option.some.inj H90
            exact ⟨_, (eB false), rfl, (.of_eq rfl), .of_eq ((enc_b td4 sz4).cut _ _ _), ((hH.noT.drop n17).drop n5)⟩
        · subst hb
          refine wpo_skip rfl rfl rfl ?_
          refine wpo_skip rfl rfl rfl ?_
          refine wpo_mv (a := (eB false)) rfl rfl rfl (o_pick_f tk rfl rfl (Wk.refl _)) ?_
          refine wpo_mv (a := (eB false)) rfl rfl rfl (o_mv tk rfl (Wk.refl _)) ?_
          refine wpo_skip rfl rfl rfl ?_
          refine wpo_skip rfl rfl rfl ?_
          refine wpo_skip rfl rfl rfl ?_
          refine wpo_mv (a := (eB false)) rfl rfl rfl (o_pick_f tk rfl rfl (Wk.refl _)) ?_
          refine wpo_mv (a := (eB false)) rfl rfl rfl (o_mv tk rfl (Wk.refl _)) ?_
          refine wpo_skip rfl rfl rfl ?_
          refine wpo_skip rfl rfl rfl ?_
          refine wpo_skip rfl rfl rfl ?_
          refine wpo_mv (a := (eB false)) rfl rfl rfl (o_pick_f tk rfl rfl (Wk.refl _)) ?_
          refine wpo_mv (a := (eB false)) rfl rfl rfl (o_mv tk rfl (Wk.refl _)) ?_
          refine wpo_skip rfl rfl rfl ?_
          refine wpo_skip rfl rfl rfl ?_
          refine wpo_skip rfl rfl rfl ?_
          refine wpo_mv (a := (eB false)) rfl rfl rfl (o_pick_f tk rfl rfl (Wk.refl _)) ?_
          refine wpo_mv (a := (eB false)) rfl rfl rfl (o_mv tk rfl (Wk.refl _)) ?_
          refine wpo_skip rfl rfl rfl ?_
          refine wpo_skip rfl rfl rfl ?_
          refine wpo_mv (a := (eB false)) rfl rfl rfl (o_pick_f tk rfl rfl (Wk.refl _)) ?_
          refine wpo_mv (a := (eB false)) rfl rfl rfl (o_mv tk rfl (Wk.refl _)) ?_
          refine wpo_skip rfl rfl rfl ?_
          refine wpo_skip rfl rfl rfl ?_
          refine wpo_mv (a := (eB false)) rfl rfl rfl (o_pick_f tk rfl rfl (Wk.refl _)) ?_
          refine wpo_mv (a := (eB false)) rfl rfl rfl (o_mv tk rfl (Wk.refl _)) ?_
          refine wpo_skip rfl rfl rfl ?_
          refine wpo_skip rfl rfl rfl ?_
          refine wpo_mv (a := (eB false)) rfl rfl rfl (o_pick_f tk rfl rfl (Wk.refl _)) ?_
          refine wpo_mv (a := (eB false)) rfl rfl rfl (o_mv tk rfl (Wk.refl _)) ?_
          refine wpo_skip rfl rfl rfl ?_
          refine wpo_skip rfl rfl rfl ?_
          refine wpo_mv (a := (eB false)) rfl rfl rfl (o_pick_f tk rfl rfl (Wk.refl _)) ?_
          refine wpo_mv (a := (eB false)) rfl rfl rfl (o_mv tk rfl (Wk.refl _)) ?_
          refine wpo_skip rfl rfl rfl ?_
          refine wpo_skip rfl rfl rfl ?_
          refine wpo_skip rfl rfl rfl ?_
          refine wpo_mv (a := (eB false)) rfl rfl rfl (o_pick_f tk rfl rfl (Wk.refl _)) ?_
          refine wpo_mv (a := (eB false)) rfl rfl rfl (o_mv tk rfl (Wk.refl _)) ?_
          refine wpo_skip rfl rfl rfl ?_
          refine wpo_skip rfl rfl rfl ?_
          refine wpo_skip rfl rfl rfl ?_
          refine wpo_mv (a := (eB false)) rfl rfl rfl (o_pick_f tk rfl rfl (Wk.refl _)) ?_
          refine wpo_mv (a := (eB false)) rfl rfl rfl (o_as tk rfl (Wk.refl _)) ?_
          refine wpo_nil ?_
          refine awp_ret ?_
          obtain rfl := Option.some.inj H87
          exact ⟨_, (eB false), rfl, (.of_eq rfl), .of_eq ((enc_b td4 sz4).cut _ _ _), ((hH.noT.drop n17).drop n5)⟩
end Go.Proofs.YthjabhcbkbchjaaDoor
namespace Go.Proofs.YthjabhcbkbchjaaDoor
open Go Go.Va
set_option linter.unusedVariables false
set_option linter.unusedSimpArgs false
set_option maxRecDepth 20000
theorem slab_Budget_Give_ok {x0 : slab_Budget} {x1 : Int} {r : Err × slab_Budget} (H : slab_Budget_Give x0 x1 = some r) (σ : St) {p0 : Nat} (h0 : σ.objs[p0]? = some (c_slab_Budget x0)) : ACall Tryd.prog 17 [(.ref p0 0), (eI x1)] σ (fun a τ => a = eErr r.1 ∧ τ = σ.puts [(p0, (c_slab_Budget r.2))]) := by
  unfold slab_Budget_Give at H
  refine ACall.out [(p0, (c_slab_Budget r.2))] (by simp only [List.mem_cons, List.not_mem_nil, or_false]; rintro _ (rfl) ρ κ <;> exact c_slab_Budget_cut ρ κ _) (acall_start tk Tryd.func17 (by decide) rfl (Nat.le_of_ble_eq_true rfl) ?_)
  have hH := Holds.init σ
  have hH := hH.bring h0 (fun _ h => by cases h)
  refine awp_seq ?_
  refine awp_region rfl ?_
  refine wpo_mv (a := (eErr Err.nil)) rfl rfl rfl (o_as tk rfl (Wk.refl _)) ?_
  refine wpo_nil ?_
  refine awp_seq ?_
  refine awp_region rfl ?_
  refine wpo_mv (a := (eI x1)) rfl rfl rfl (o_mv tk rfl (Wk.refl _)) ?_
  refine wpo_bd H eI rfl rfl rfl (fun v2 hv => OpP.of_call rfl rfl (.cons (.of_eq rfl) .nil) (slab_Size_ok hv)) fun v2 hv2 H1 => ?_
  refine wpo_mv (a := (eI v2)) rfl rfl rfl (o_as tk rfl (Wk.refl _)) ?_
  refine wpo_nil ?_
  refine awp_seq ?_
  refine awp_block ?_
  refine awp_seq ?_
  refine awp_region rfl ?_
  refine wpo_mv (a := (eI v2)) rfl rfl rfl (o_mv tk rfl (Wk.refl _)) ?_
  refine wpo_lt H1 eB rfl rfl rfl (o_ar tk rfl rfl rfl) fun v4 H3 => ?_
  refine wpo_mv (a := (eB v4)) rfl rfl rfl (o_as tk rfl (Wk.refl _)) ?_
  refine wpo_nil ?_
  refine awp_if H3 rfl (fun H5 => ?_) (fun H5 => ?_)
  · refine awp_seq ?_
    refine awp_region rfl ?_
    refine wpo_mv (a := (eI x1)) rfl rfl rfl (o_mv tk rfl (Wk.refl _)) ?_
    refine wpo_bd H5 eErr rfl rfl rfl (fun v7 hv => OpP.of_call rfl rfl (.cons (.of_eq rfl) (.cons (.of_eq rfl) (.cons (.of_eq rfl) .nil))) (trouble_New_ok hv)) fun v7 hv7 H6 => ?_
    refine wpo_mv (a := (eErr v7)) rfl rfl rfl (o_as tk rfl (Wk.refl _)) ?_
    refine wpo_nil ?_
    refine awp_ret ?_
    obtain rfl := Option.some.inj H6
    exact ⟨_, (eErr v7), rfl, (.of_eq rfl), .of_eq (encErr.cut _ _ _), hH.noT⟩
  · refine awp_seq ?_
    refine awp_region rfl ?_
    refine wpo_mv (a := (.ref p0 0)) rfl rfl rfl (o_mv tk rfl (Wk.refl _)) ?_
    refine wpo_mv (a := (eI x1)) rfl rfl rfl (o_mv tk rfl (Wk.refl _)) ?_
    refine wpo_mv (a := (.ref p0 0)) rfl rfl rfl (o_c tk false rfl (fun _ => rfl)) ?_
    refine wpo_mv (a := (.ref p0 2)) rfl rfl rfl (o_c tk false rfl (fun _ => rfl)) ?_
    refine wpo_bd H5 (fun _ => .ref p0 (2 + (x1 : Int).toNat * 1 + 0)) rfl rfl rfl (fun v9 hv => o_arrb tk hv td72 sz3 (by decide) rfl rfl) fun v9 hv9 H8 => ?_
    refine wpo_bdr H8 (fun y => eI y) rfl rfl rfl (fun v11 hv => h_ldb tk hH 0 hv rfl (sp_slab_Budget_count _) (al_slab_Budget_count _) (enc_i64 td3 sz3) (acut_enc (enc_i64 td3 sz3) rfl _) (by decide) rfl) fun v11 hv11 H10 => ?_
    refine wpo_lt H10 eB rfl rfl rfl (o_ar tk rfl rfl rfl) fun v13 H12 => ?_
    refine wpo_mv (a := (eB v13)) rfl rfl rfl (o_as tk rfl (Wk.refl _)) ?_
    refine wpo_nil ?_
    refine awp_if H12 rfl (fun H14 => ?_) (fun H14 => ?_)
    · refine awp_seq ?_
      refine awp_region rfl ?_
      refine wpo_mv (a := (eI x1)) rfl rfl rfl (o_mv tk rfl (Wk.refl _)) ?_
      refine wpo_bd H14 eErr rfl rfl rfl (fun v16 hv => OpP.of_call rfl rfl (.cons (.of_eq rfl) (.cons (.of_eq rfl) (.cons (.of_eq rfl) .nil))) (trouble_New_ok hv)) fun v16 hv16 H15 => ?_
      refine wpo_mv (a := (eErr v16)) rfl rfl rfl (o_as tk rfl (Wk.refl _)) ?_
      refine wpo_nil ?_
      refine awp_ret ?_
      obtain rfl := Option.some.inj H15
      exact ⟨_, (eErr v16), rfl, (.of_eq rfl), .of_eq (encErr.cut _ _ _), hH.noT⟩
    · refine awp_skip ?_
      refine awp_seq ?_
      refine awp_region rfl ?_
      refine wpo_mv (a := (.ref p0 0)) rfl rfl rfl (o_mv tk rfl (Wk.refl _)) ?_
      refine wpo_mv (a := (.ref p0 0)) rfl rfl rfl (o_c tk false rfl (fun _ => rfl)) ?_
      refine wpo_mv (a := (.ref p0 1)) rfl rfl rfl (o_c tk false rfl (fun _ => rfl)) ?_
      refine wpo_rd (a := (eI x0.used)) rfl rfl rfl (h_ld tk hH 0 rfl (g_slab_Budget_used _) rfl) ?_
      refine wpo_mv (a := (eI v2)) rfl rfl rfl (o_mv tk rfl (Wk.refl _)) ?_
      refine wpo_lt H14 eI rfl rfl rfl (o_ar tk rfl rfl rfl) fun v18 H17 => ?_
      refine wpo_mv (a := (.ref p0 0)) rfl rfl rfl (o_c tk false rfl (fun _ => rfl)) ?_
      refine wpo_mv (a := (.ref p0 1)) rfl rfl rfl (o_c tk false rfl (fun _ => rfl)) ?_
      obtain ⟨c20, hc21, H19⟩ := lt_ex H17
      refine wpo_z rfl rfl (h_st tk hH 0 rfl ty3 (by simp) rfl rfl (.of_eq rfl) (b := (eI v18)) rfl rfl (by rw [cl_slab_Budget]; decide) (c_slab_Budget c20) (by rw [← hc21]; exact s_slab_Budget_used _ _)) fun τ hH => ?_
      refine wpo_nil ?_
      refine awp_seq ?_
      refine awp_drawS mixed [10] rfl (by decide +kernel) rfl rfl ?_
      refine wpdS_mv (a := (.ref p0 0)) rfl rfl rfl (o_mv tk rfl (Wk.refl _)) ?_
      refine wpdS_mv (a := (eI x1)) rfl rfl rfl (o_mv tk rfl (Wk.refl _)) ?_
      refine wpdS_mv (a := (.ref p0 0)) rfl rfl rfl (o_c tk false rfl (fun _ => rfl)) ?_
      refine wpdS_mv (a := (.ref p0 2)) rfl rfl rfl (o_c tk false rfl (fun _ => rfl)) ?_
      refine wpdS_bd H19 (fun _ => .ref p0 (2 + (x1 : Int).toNat * 1 + 0)) rfl rfl rfl (fun v23 hv => o_arrb tk hv td72 sz3 (by decide) rfl rfl) fun v23 hv23 H22 => ?_
      refine wpdS_bdr H22 (fun y => eI y) rfl (by decide +kernel) rfl rfl (fun v25 hv => h_ldb tk hH 0 hv rfl (sp_slab_Budget_count _) (al_slab_Budget_count _) (enc_i64 td3 sz3) (acut_enc (enc_i64 td3 sz3) rfl _) (by decide) rfl) fun v25 hv25 H24 => ?_
      refine wpdS_lt H24 eI rfl rfl rfl (o_ar tk rfl rfl rfl) fun v27 H26 => ?_
      refine wpdS_mv (a := (.ref p0 0)) rfl rfl rfl (o_c tk false rfl (fun _ => rfl)) ?_
      refine wpdS_mv (a := (.ref p0 2)) rfl rfl rfl (o_c tk false rfl (fun _ => rfl)) ?_
      refine wpdS_bd H26 (fun _ => .ref p0 (2 + (x1 : Int).toNat * 1 + 0)) rfl rfl rfl (fun v29 hv => o_arrb tk hv td72 sz3 (by decide) rfl rfl) fun v29 hv29 H28 => ?_
      obtain ⟨v31, hv32, H30⟩ := Option.bind_eq_some_iff.1 H28
      obtain ⟨c33, hc34, H35⟩ := lt_ex H30
      refine wpdS_z rfl rfl rfl (by rw [← hc34]; exact (h_stb tk hH 0 hv32 rfl (sp_slab_Budget_count _) (sp_slab_Budget_count { c20 with count := v31 }) (al_slab_Budget_count _) (enc_i64 td3 sz3) ty3 (by simp) rfl rfl (.of_eq rfl) (b := (eI v27)) rfl rfl (by decide) (fun _ => rfl))) fun τ (hH : Holds σ [(p0, (c_slab_Budget c33))] [] τ) => ?_
      refine wpdS_nil ?_
      refine awp_seq ?_
      refine awp_region rfl ?_
      refine wpo_mv (a := (eErr Err.nil)) rfl rfl rfl (o_as tk rfl (Wk.refl _)) ?_
      refine wpo_nil ?_
      refine awp_ret ?_
      obtain rfl := Option.some.inj H35
      exact ⟨_, (eErr Err.nil), rfl, (.of_eq rfl), .of_eq (encErr.cut _ _ _), hH.noT⟩
end Go.Proofs.YthjabhcbkbchjaaDoor
namespace Go.Proofs.YthjabhcbkbchjaaDoor
open Go Go.Va
set_option linter.unusedVariables false
set_option linter.unusedSimpArgs false
set_option maxRecDepth 20000
theorem butteryref08_New_ok {x0 : Int} {r : butteryref08_Budget × Int} (H : butteryref08_New x0 = some r) (σ : St)  : ACall Tryd.prog 30 [(eI x0)] σ (fun a τ => a = .tup [e_butteryref08_Budget r.1, eI r.2] ∧ τ = σ) := by
  unfold butteryref08_New at H
  refine ACall.pure (acall_start tk Tryd.func30 (by decide) rfl (Nat.le_of_ble_eq_true rfl) ?_)
  have hH := Holds.init σ
  refine awp_seq ?_
  refine awp_region rfl ?_
  refine wpo_a (av := fun id => .ref id 0) rfl rfl rfl (h_alloc tk hH ty61 [(eI z_butteryref08_Budget.Limit), AV.nils] rfl) fun id1 τ ⟨hH, n2⟩ => ?_
  refine wpo_mv (a := (eI (0 : Int))) rfl rfl rfl (o_as tk rfl (Wk.refl _)) ?_
  refine wpo_nil ?_
  refine awp_seq ?_
  refine awp_seq ?_
  obtain ⟨s3, hs5, hj6⟩ := Option.bind_eq_some_iff.1 H
  refine awp_cutn (fun fr τ => WkF fr (fm [(0, (eI x0)), (2, (.ref id1 0)), (9, (eB s3))]) ∧ Holds σ [(id1, [(eI z_butteryref08_Budget.Limit), AV.nils])] [] τ) ?_ ?_
  · rintro fr τ ⟨hfr, hH⟩
    have H12 := hj6
    refine AWP.fm [(0, (eI x0)), (2, (.ref id1 0)), (9, (eB s3))] hfr ?_
    refine awp_if H12 rfl (fun H13 => ?_) (fun H13 => ?_)
    · refine awp_seq ?_
      refine awp_region rfl ?_
      refine wpo_mv (a := (.agg [(eI (⟨(0 : Int), ([] : List Int)⟩ : butteryref08_Budget).Limit), AV.nils])) rfl rfl rfl (o_c tk false rfl (fun _ => rfl)) ?_
      refine wpo_z rfl rfl (h_st tk hH 0 rfl ty61 (by simp) rfl rfl (.of_eq rfl) (b := (.agg [(eI (⟨(0 : Int), ([] : List Int)⟩ : butteryref08_Budget).Limit), AV.nils])) rfl rfl (Nat.le_of_ble_eq_true rfl) [(eI ((⟨(0 : Int), ([] : List Int)⟩ : butteryref08_Budget) : butteryref08_Budget).Limit), AV.nils] rfl) fun τ hH => ?_
      refine wpo_mv (a := (eI (2 : Int))) rfl rfl rfl (o_as tk rfl (Wk.refl _)) ?_
      refine wpo_nil ?_
      refine awp_ret ?_
      obtain rfl := Option.some.inj H13
      exact ⟨_, (.tup [(e_butteryref08_Budget ((⟨(0 : Int), ([] : List Int)⟩ : butteryref08_Budget) : butteryref08_Budget)), (eI (2 : Int))]), (ares_2 (ares_cell hH 0 rfl rfl rfl) rfl), (wk_tup (.cons (wk_agg (.cons (.of_eq rfl) (.cons (wk_nils _) .nil))) (.cons (.of_eq rfl) .nil))), .of_eq (by simp only [cutAV, cutL, enc61.cut _ _ _, (enc_i64 td44 sz44).cut _ _ _]), (hH.noT.drop n2)⟩
    · refine awp_skip ?_
      refine awp_seq ?_
      refine awp_region rfl ?_
      refine wpo_mv (a := (eI x0)) rfl rfl rfl (o_mv tk rfl (Wk.refl _)) ?_
      refine wpo_mv (a := (.agg [(eI (⟨x0, ([] : List Int)⟩ : butteryref08_Budget).Limit), AV.nils])) rfl rfl rfl (o_c tk false rfl (fun _ => rfl)) ?_
      refine wpo_z rfl rfl (h_st tk hH 0 rfl ty61 (by simp) rfl rfl (.of_eq rfl) (b := (.agg [(eI (⟨x0, ([] : List Int)⟩ : butteryref08_Budget).Limit), AV.nils])) rfl rfl (Nat.le_of_ble_eq_true rfl) [(eI ((⟨x0, ([] : List Int)⟩ : butteryref08_Budget) : butteryref08_Budget).Limit), AV.nils] rfl) fun τ hH => ?_
      refine wpo_mv (a := (eI (0 : Int))) rfl rfl rfl (o_as tk rfl (Wk.refl _)) ?_
      refine wpo_nil ?_
      refine awp_ret ?_
      obtain rfl := Option.some.inj H13
      exact ⟨_, (.tup [(e_butteryref08_Budget ((⟨x0, ([] : List Int)⟩ : butteryref08_Budget) : butteryref08_Budget)), (eI (0 : Int))]), (ares_2 (ares_cell hH 0 rfl rfl rfl) rfl), (wk_tup (.cons (wk_agg (.cons (.of_eq rfl) (.cons (wk_nils _) .nil))) (.cons (.of_eq rfl) .nil))), .of_eq (by simp only [cutAV, cutL, enc61.cut _ _ _, (enc_i64 td44 sz44).cut _ _ _]), (hH.noT.drop n2)⟩
  · refine awp_region rfl ?_
    refine wpo_mv (a := (eI x0)) rfl rfl rfl (o_mv tk rfl (Wk.refl _)) ?_
    refine wpo_lt hs5 eB rfl rfl rfl (o_ar tk rfl rfl rfl) fun v8 H7 => ?_
    refine wpo_mv (a := (eB v8)) rfl rfl rfl (o_mv tk rfl (Wk.refl _)) ?_
    refine if_split H7 (fun hb H9 => ?_) (fun hb H9 => ?_)
    · subst hb
      refine wpo_skip rfl rfl rfl ?_
      refine wpo_skip rfl rfl rfl ?_
      refine wpo_mv (a := (eB true)) rfl rfl rfl (o_pick_t tk rfl rfl (Wk.refl _)) ?_
      refine wpo_nil ?_
      have e := Option.some.inj H9
      subst e
      exact ⟨(wkf_cons (.of_eq rfl) (wkf_cons (.of_eq rfl) (wkf_cons (.of_eq rfl) (wkf_nil _)))), hH⟩
    · subst hb
      refine wpo_mv (a := (eI x0)) rfl rfl rfl (o_mv tk rfl (Wk.refl _)) ?_
      refine wpo_lt H9 eB rfl rfl rfl (o_ar tk rfl rfl rfl) fun v11 H10 => ?_
      refine wpo_mv (a := (eB v11)) rfl rfl rfl (o_pick_f tk rfl rfl (Wk.refl _)) ?_
      refine wpo_nil ?_
      have e := Option.some.inj H10
      subst e
      exact ⟨(wkf_cons (.of_eq rfl) (wkf_cons (.of_eq rfl) (wkf_cons (.of_eq rfl) (wkf_nil _)))), hH⟩
end Go.Proofs.YthjabhcbkbchjaaDoor
namespace Go.Proofs.YthjabhcbkbchjaaDoor
open Go Go.Va
set_option linter.unusedVariables false
set_option linter.unusedSimpArgs false
set_option maxRecDepth 20000
theorem butteryref08_Size_ok {x0 : Int} {r : Int} (H : butteryref08_Size x0 = some r) (σ : St)  : ACall Tryd.prog 11 [(eI x0)] σ (fun a τ => a = eI r ∧ τ = σ) := by
  unfold butteryref08_Size at H
  refine ACall.pure (acall_start tk Tryd.func11 (by decide) rfl (Nat.le_of_ble_eq_true rfl) ?_)
  have hH := Holds.init σ
  refine awp_seq ?_
  refine awp_region rfl ?_
  refine wpo_mv (a := (eI (0 : Int))) rfl rfl rfl (o_as tk rfl (Wk.refl _)) ?_
  refine wpo_nil ?_
  refine awp_seq ?_
  refine awp_seq ?_
  obtain ⟨s1, hs3, hj4⟩ := Option.bind_eq_some_iff.1 H
  refine awp_cutn (fun fr τ => WkF fr (fm [(0, (eI x0)), (10, (eB s1))]) ∧ Holds σ [] [] τ) ?_ ?_
  · rintro fr τ ⟨hfr, hH⟩
    have H10 := hj4
    refine AWP.fm [(0, (eI x0)), (10, (eB s1))] hfr ?_
    refine awp_if H10 rfl (fun H11 => ?_) (fun H11 => ?_)
    · refine awp_seq ?_
      refine awp_region rfl ?_
      refine wpo_mv (a := (eI (0 : Int))) rfl rfl rfl (o_as tk rfl (Wk.refl _)) ?_
      refine wpo_nil ?_
      refine awp_ret ?_
      obtain rfl := Option.some.inj H11
      exact ⟨_, (eI (0 : Int)), rfl, (.of_eq rfl), .of_eq ((enc_i64 td3 sz3).cut _ _ _), hH.noT⟩
    · refine awp_skip ?_
      refine awp_seq ?_
      refine awp_region rfl ?_
      refine wpo_mv (a := (eI (32 : Int))) rfl rfl rfl (o_as tk rfl (Wk.refl _)) ?_
      refine wpo_nil ?_
      refine awp_seq ?_
      refine awp_seq ?_
      refine awp_region rfl ?_
      refine wpo_mv (a := (eI (0 : Int))) rfl rfl rfl (o_as tk rfl (Wk.refl _)) ?_
      refine wpo_nil ?_
      refine awp_block ?_
      obtain ⟨s21, hs15, hj16⟩ := Option.bind_eq_some_iff.1 H11
      refine awp_cutx 0 (fun fr τ => WkF fr (fm [(3, (eI s21))]) ∧ Holds σ [] [] τ) ?_ ?_
      · rintro fr τ ⟨hfr, hH⟩
        have H30 := hj16
        refine AWP.fm [(3, (eI s21))] hfr ?_
        refine awp_seq ?_
        refine awp_region rfl ?_
        refine wpo_mv (a := (eI s21)) rfl rfl rfl (o_mv tk rfl (Wk.refl _)) ?_
        refine wpo_mv (a := (eI s21)) rfl rfl rfl (o_as tk rfl (Wk.refl _)) ?_
        refine wpo_nil ?_
        refine awp_ret ?_
        obtain rfl := Option.some.inj H30
        exact ⟨_, (eI s21), rfl, (.of_eq rfl), .of_eq ((enc_i64 td3 sz3).cut _ _ _), hH.noT⟩
      · refine awp_loopO (body := fun s => butteryref08_Size_b0 x0 s.1 s.2) hs15 (fun (s : Int × Int) fr τ => WkF fr (fm [(0, (eI x0)), (3, (eI s.1)), (4, (eI s.2))]) ∧ Holds σ [] [] τ) ⟨(wkf_cons (.of_eq rfl) (wkf_cons (.of_eq rfl) (wkf_cons (.of_eq rfl) (wkf_nil _)))), hH⟩ ?_
        rintro ⟨c12, c13⟩ fr τ y17 ⟨hfr, hH⟩ hb19 hy20
        have H22 : butteryref08_Size_b0 x0 c12 c13 = some y17 := hb19
        unfold butteryref08_Size_b0 at H22
        refine AWP.fm [(0, (eI x0)), (3, (eI c12)), (4, (eI c13))] hfr ?_
        have hH : Holds σ [] [] τ := hH
        refine awp_seq ?_
        refine awp_seq ?_
        refine awp_region rfl ?_
        refine wpo_mv (a := (eI c13)) rfl rfl rfl (o_mv tk rfl (Wk.refl _)) ?_
        refine wpo_mv (a := (eI x0)) rfl rfl rfl (o_mv tk rfl (Wk.refl _)) ?_
        refine wpo_lt H22 eB rfl rfl rfl (o_ar tk rfl rfl rfl) fun v24 H23 => ?_
        refine wpo_nil ?_
        refine awp_if H23 rfl (fun H25 => ?_) (fun H25 => ?_)
        · refine awp_skip ?_
          refine awp_seq ?_
          refine awp_block ?_
          refine awp_region rfl ?_
          refine wpo_mv (a := (eI c12)) rfl rfl rfl (o_mv tk rfl (Wk.refl _)) ?_
          refine wpo_lt H25 eI rfl rfl rfl (o_ar tk rfl rfl rfl) fun v27 H26 => ?_
          refine wpo_mv (a := (eI v27)) rfl rfl rfl (o_as tk rfl (Wk.refl _)) ?_
          refine wpo_nil ?_
          refine awp_region rfl ?_
          refine wpo_mv (a := (eI c13)) rfl rfl rfl (o_mv tk rfl (Wk.refl _)) ?_
          refine wpo_lt H26 eI rfl rfl rfl (o_ar tk rfl rfl rfl) fun v29 H28 => ?_
          refine wpo_mv (a := (eI v29)) rfl rfl rfl (o_as tk rfl (Wk.refl _)) ?_
          refine wpo_nil ?_
          exact ⟨(v27, v29), inj_inl H28, (wkf_cons (.of_eq rfl) (wkf_cons (.of_eq rfl) (wkf_cons (.of_eq rfl) (wkf_nil _)))), hH⟩
        · refine awp_exit ?_
          have hz := hy20 _ (inj_inr H25)
          subst hz
          exact ⟨⟨_, inj_inr H25⟩, (wkf_cons (.of_eq rfl) (wkf_nil _)), hH⟩
  · refine awp_region rfl ?_
    refine wpo_mv (a := (eI x0)) rfl rfl rfl (o_mv tk rfl (Wk.refl _)) ?_
    refine wpo_lt hs3 eB rfl rfl rfl (o_ar tk rfl rfl rfl) fun v6 H5 => ?_
    refine wpo_mv (a := (eB v6)) rfl rfl rfl (o_mv tk rfl (Wk.refl _)) ?_
    refine if_split H5 (fun hb H7 => ?_) (fun hb H7 => ?_)
    · subst hb
      refine wpo_skip rfl rfl rfl ?_
      refine wpo_skip rfl rfl rfl ?_
      refine wpo_mv (a := (eB true)) rfl rfl rfl (o_pick_t tk rfl rfl (Wk.refl _)) ?_
      refine wpo_nil ?_
      have e := Option.some.inj H7
      subst e
      exact ⟨(wkf_cons (.of_eq rfl) (wkf_cons (.of_eq rfl) (wkf_nil _))), hH⟩
    · subst hb
      refine wpo_mv (a := (eI x0)) rfl rfl rfl (o_mv tk rfl (Wk.refl _)) ?_
      refine wpo_lt H7 eB rfl rfl rfl (o_ar tk rfl rfl rfl) fun v9 H8 => ?_
      refine wpo_mv (a := (eB v9)) rfl rfl rfl (o_pick_f tk rfl rfl (Wk.refl _)) ?_
      refine wpo_nil ?_
      have e := Option.some.inj H8
      subst e
      exact ⟨(wkf_cons (.of_eq rfl) (wkf_cons (.of_eq rfl) (wkf_nil _))), hH⟩
end Go.Proofs.YthjabhcbkbchjaaDoor
namespace Go.Proofs.YthjabhcbkbchjaaDoor
open Go Go.Va
set_option linter.unusedVariables false
set_option linter.unusedSimpArgs false
set_option maxRecDepth 20000
theorem butteryref08_Used_ok {x0 : butteryref08_Budget} {r : Int} (H : butteryref08_Used x0 = some r) (σ : St)  : ACall Tryd.prog 36 [(e_butteryref08_Budget x0)] σ (fun a τ => a = eI r ∧ τ = σ) := by
  unfold butteryref08_Used at H
  refine ACall.pure (acall_start tk Tryd.func36 (by decide) rfl (Nat.le_of_ble_eq_true rfl) ?_)
  have hH := Holds.init σ
  refine awp_seq ?_
  refine awp_region rfl ?_
  refine wpo_mv (a := (.fptr (c_butteryref08_Budget x0) 0)) rfl rfl rfl (o_boxf tk rfl (.of_eq rfl) (b := (e_butteryref08_Budget x0)) (enc61.flat _)) ?_
  refine wpo_mv (a := (eI (0 : Int))) rfl rfl rfl (o_as tk rfl (Wk.refl _)) ?_
  refine wpo_nil ?_
  refine awp_seq ?_
  refine awp_region rfl ?_
  refine wpo_mv (a := (eI (0 : Int))) rfl rfl rfl (o_as tk rfl (Wk.refl _)) ?_
  refine wpo_nil ?_
  refine awp_seq ?_
  refine awp_seq ?_
  refine awp_region rfl ?_
  refine wpo_mv (a := (eI (0 : Int))) rfl rfl rfl (o_as tk rfl (Wk.refl _)) ?_
  refine wpo_nil ?_
  refine awp_block ?_
  obtain ⟨s10, hs4, hj5⟩ := Option.bind_eq_some_iff.1 H
  refine awp_cutx 0 (fun fr τ => WkF fr (fm [(3, (eI s10))]) ∧ Holds σ [] [] τ) ?_ ?_
  · rintro fr τ ⟨hfr, hH⟩
    have H25 := hj5
    refine AWP.fm [(3, (eI s10))] hfr ?_
    refine awp_seq ?_
    refine awp_region rfl ?_
    refine wpo_mv (a := (eI s10)) rfl rfl rfl (o_mv tk rfl (Wk.refl _)) ?_
    refine wpo_mv (a := (eI s10)) rfl rfl rfl (o_as tk rfl (Wk.refl _)) ?_
    refine wpo_nil ?_
    refine awp_ret ?_
    obtain rfl := Option.some.inj H25
    exact ⟨_, (eI s10), rfl, (.of_eq rfl), .of_eq ((enc_i64 td3 sz3).cut _ _ _), hH.noT⟩
  · refine awp_loopO (body := fun s => butteryref08_Used_b0 x0 s.1 s.2) hs4 (fun (s : Int × Int) fr τ => WkF fr (fm [(1, (.fptr (c_butteryref08_Budget x0) 0)), (3, (eI s.1)), (4, (eI s.2))]) ∧ Holds σ [] [] τ) ⟨(wkf_cons (.of_eq rfl) (wkf_cons (.of_eq rfl) (wkf_cons (.of_eq rfl) (wkf_nil _)))), hH⟩ ?_
    rintro ⟨c1, c2⟩ fr τ y6 ⟨hfr, hH⟩ hb8 hy9
    have H11 : butteryref08_Used_b0 x0 c1 c2 = some y6 := hb8
    unfold butteryref08_Used_b0 at H11
    refine AWP.fm [(1, (.fptr (c_butteryref08_Budget x0) 0)), (3, (eI c1)), (4, (eI c2))] hfr ?_
    have hH : Holds σ [] [] τ := hH
    refine awp_seq ?_
    refine awp_seq ?_
    refine awp_region rfl ?_
    refine wpo_mv (a := (eI c2)) rfl rfl rfl (o_mv tk rfl (Wk.refl _)) ?_
    refine wpo_mv (a := (.fptr (c_butteryref08_Budget x0) 1)) rfl rfl rfl (o_c tk false rfl (fun _ => rfl)) ?_
    refine wpo_mv (a := ((eL 1 eI) x0.L)) rfl rfl rfl (o_ld tk rfl rfl) ?_
    refine wpo_lt H11 eI rfl rfl rfl (o_len tk td59 rfl) fun v13 H12 => ?_
    refine wpo_lt H12 eB rfl rfl rfl (o_ar tk rfl rfl rfl) fun v15 H14 => ?_
    refine wpo_nil ?_
    refine awp_if H14 rfl (fun H16 => ?_) (fun H16 => ?_)
    · refine awp_skip ?_
      refine awp_seq ?_
      refine awp_block ?_
      refine awp_region rfl ?_
      refine wpo_mv (a := (eI c1)) rfl rfl rfl (o_mv tk rfl (Wk.refl _)) ?_
      refine wpo_mv (a := (.fptr (c_butteryref08_Budget x0) 1)) rfl rfl rfl (o_c tk false rfl (fun _ => rfl)) ?_
      refine wpo_mv (a := ((eL 1 eI) x0.L)) rfl rfl rfl (o_ld tk rfl rfl) ?_
      refine wpo_mv (a := (eI c2)) rfl rfl rfl (o_mv tk rfl (Wk.refl _)) ?_
      refine wpo_bd H16 (fun y => .fptr (eI y).cells 0) rfl rfl rfl (fun v18 hv => o_ixa tk hv td59 (enc_i64 td3 sz3) rfl rfl) fun v18 hv18 H17 => ?_
      refine wpo_mv (a := (eI v18)) rfl rfl rfl (o_ld_e tk (enc_i64 td3 sz3) rfl rfl) ?_
      refine wpo_bd H17 eI rfl rfl rfl (fun v20 hv => OpP.of_call rfl rfl (.cons (.of_eq rfl) .nil) (butteryref08_Size_ok hv)) fun v20 hv20 H19 => ?_
      refine wpo_lt H19 eI rfl rfl rfl (o_ar tk rfl rfl rfl) fun v22 H21 => ?_
      refine wpo_mv (a := (eI v22)) rfl rfl rfl (o_as tk rfl (Wk.refl _)) ?_
      refine wpo_nil ?_
      refine awp_region rfl ?_
      refine wpo_mv (a := (eI c2)) rfl rfl rfl (o_mv tk rfl (Wk.refl _)) ?_
      refine wpo_lt H21 eI rfl rfl rfl (o_ar tk rfl rfl rfl) fun v24 H23 => ?_
      refine wpo_mv (a := (eI v24)) rfl rfl rfl (o_as tk rfl (Wk.refl _)) ?_
      refine wpo_nil ?_
      exact ⟨(v22, v24), inj_inl H23, (wkf_cons (.of_eq rfl) (wkf_cons (.of_eq rfl) (wkf_cons (.of_eq rfl) (wkf_nil _)))), hH⟩
    · refine awp_exit ?_
      have hz := hy9 _ (inj_inr H16)
      subst hz
      exact ⟨⟨_, inj_inr H16⟩, (wkf_cons (.of_eq rfl) (wkf_nil _)), hH⟩
end Go.Proofs.YthjabhcbkbchjaaDoor
namespace Go.Proofs.YthjabhcbkbchjaaDoor
open Go Go.Va
set_option linter.unusedVariables false
set_option linter.unusedSimpArgs false
set_option maxRecDepth 20000
theorem butteryref08_Take_ok {x0 : butteryref08_Budget} {x1 : Int} {r : butteryref08_Budget × Int} (H : butteryref08_Take x0 x1 = some r) (σ : St)  : ACall Tryd.prog 31 [(e_butteryref08_Budget x0), (eI x1)] σ (fun a τ => a = .tup [e_butteryref08_Budget r.1, eI r.2] ∧ τ = σ) := by
  unfold butteryref08_Take at H
  refine ACall.pure (acall_start tk Tryd.func31 (by decide) rfl (Nat.le_of_ble_eq_true rfl) ?_)
  have hH := Holds.init σ
  refine awp_seq ?_
  refine awp_region rfl ?_
  refine wpo_mv (a := (.fptr (c_butteryref08_Budget x0) 0)) rfl rfl rfl (o_boxf tk rfl (.of_eq rfl) (b := (e_butteryref08_Budget x0)) (enc61.flat _)) ?_
  refine wpo_a (av := fun id => .ref id 0) rfl rfl rfl (h_alloc tk hH ty61 [(eI z_butteryref08_Budget.Limit), AV.nils] rfl) fun id1 τ ⟨hH, n2⟩ => ?_
  refine wpo_mv (a := (eI (0 : Int))) rfl rfl rfl (o_as tk rfl (Wk.refl _)) ?_
  refine wpo_nil ?_
  refine awp_seq ?_
  refine awp_seq ?_
  refine awp_region rfl ?_
  refine wpo_mv (a := (eI x1)) rfl rfl rfl (o_mv tk rfl (Wk.refl _)) ?_
  refine wpo_bd H eI rfl rfl rfl (fun v4 hv => OpP.of_call rfl rfl (.cons (.of_eq rfl) .nil) (butteryref08_Size_ok hv)) fun v4 hv4 H3 => ?_
  refine wpo_lt H3 eB rfl rfl rfl (o_ar tk rfl rfl rfl) fun v6 H5 => ?_
  refine wpo_nil ?_
  refine awp_if H5 rfl (fun H7 => ?_) (fun H7 => ?_)
  · refine awp_seq ?_
    refine awp_region rfl ?_
    refine wpo_mv (a := (e_butteryref08_Budget x0)) rfl rfl rfl (o_ld tk rfl rfl) ?_
    refine wpo_z rfl rfl (h_st tk hH 0 rfl ty61 (by simp) rfl rfl (.of_eq rfl) (b := (e_butteryref08_Budget x0)) (enc61.flat _) rfl (Nat.le_of_ble_eq_true rfl) (c_butteryref08_Budget (x0 : butteryref08_Budget)) rfl) fun τ hH => ?_
    refine wpo_mv (a := (eI (2 : Int))) rfl rfl rfl (o_as tk rfl (Wk.refl _)) ?_
    refine wpo_nil ?_
    refine awp_ret ?_
    obtain rfl := Option.some.inj H7
    exact ⟨_, (.tup [(e_butteryref08_Budget (x0 : butteryref08_Budget)), (eI (2 : Int))]), (ares_2 (ares_cell hH 0 rfl rfl rfl) rfl), (wk_tup (.cons (.of_eq rfl) (.cons (.of_eq rfl) .nil))), .of_eq (by simp only [cutAV, cutL, enc61.cut _ _ _, (enc_i64 td44 sz44).cut _ _ _]), (hH.noT.drop n2)⟩
  · refine awp_skip ?_
    refine awp_seq ?_
    refine awp_seq ?_
    refine awp_drawS mixed [] rfl (by decide +kernel) rfl rfl ?_
    refine wpdS_mv (a := (eI x1)) rfl rfl rfl (o_mv tk rfl (Wk.refl _)) ?_
    refine wpdS_bd H7 eI rfl rfl rfl (fun v10 hv => OpP.of_call rfl rfl (.cons (.of_eq rfl) .nil) (butteryref08_Size_ok hv)) fun v10 hv10 H9 => ?_
    refine wpdS_mv (a := (.fptr (c_butteryref08_Budget x0) 0)) rfl rfl rfl (o_c tk false rfl (fun _ => rfl)) ?_
    refine wpdS_mv (a := (eI x0.Limit)) rfl rfl rfl (o_ld tk rfl rfl) ?_
    refine wpdS_mv (a := (e_butteryref08_Budget x0)) rfl rfl rfl (o_ld tk rfl rfl) ?_
    refine wpdS_bd H9 eI rfl rfl rfl (fun v12 hv => OpP.of_call rfl rfl (.cons (.of_eq rfl) .nil) (butteryref08_Used_ok hv)) fun v12 hv12 H11 => ?_
    refine wpdS_lt H11 eI rfl rfl rfl (o_ar tk rfl rfl rfl) fun v14 H13 => ?_
    refine wpdS_lt H13 eB rfl rfl rfl (o_ar tk rfl rfl rfl) fun v16 H15 => ?_
    refine wpdS_nil ?_
    refine awp_if H15 rfl (fun H17 => ?_) (fun H17 => ?_)
    · refine awp_seq ?_
      refine awp_region rfl ?_
      refine wpo_mv (a := (e_butteryref08_Budget x0)) rfl rfl rfl (o_ld tk rfl rfl) ?_
      refine wpo_z rfl rfl (h_st tk hH 0 rfl ty61 (by simp) rfl rfl (.of_eq rfl) (b := (e_butteryref08_Budget x0)) (enc61.flat _) rfl (Nat.le_of_ble_eq_true rfl) (c_butteryref08_Budget (x0 : butteryref08_Budget)) rfl) fun τ hH => ?_
      refine wpo_mv (a := (eI (4 : Int))) rfl rfl rfl (o_as tk rfl (Wk.refl _)) ?_
      refine wpo_nil ?_
      refine awp_ret ?_
      obtain rfl := Option.some.inj H17
      exact ⟨_, (.tup [(e_butteryref08_Budget (x0 : butteryref08_Budget)), (eI (4 : Int))]), (ares_2 (ares_cell hH 0 rfl rfl rfl) rfl), (wk_tup (.cons (.of_eq rfl) (.cons (.of_eq rfl) .nil))), .of_eq (by simp only [cutAV, cutL, enc61.cut _ _ _, (enc_i64 td44 sz44).cut _ _ _]), (hH.noT.drop n2)⟩
    · refine awp_skip ?_
      refine awp_seq ?_
      refine awp_region rfl ?_
      refine wpo_mv (a := (.fptr (c_butteryref08_Budget x0) 0)) rfl rfl rfl (o_c tk false rfl (fun _ => rfl)) ?_
      refine wpo_mv (a := (eI x0.Limit)) rfl rfl rfl (o_ld tk rfl rfl) ?_
      refine wpo_mv (a := (.agg [(eI (⟨x0.Limit, ([] : List Int)⟩ : butteryref08_Budget).Limit), AV.nils])) rfl rfl rfl (o_c tk false rfl (fun _ => rfl)) ?_
      refine wpo_a (av := fun id => .ref id 0) rfl rfl rfl (h_alloc tk hH ty61 [(eI z_butteryref08_Budget.Limit), AV.nils] rfl) fun id19 τ ⟨hH, n20⟩ => ?_
      refine wpo_z rfl rfl (h_st tk hH 0 rfl ty61 (by simp) rfl rfl (.of_eq rfl) (b := (.agg [(eI (⟨x0.Limit, ([] : List Int)⟩ : butteryref08_Budget).Limit), AV.nils])) rfl rfl (Nat.le_of_ble_eq_true rfl) [(eI ((⟨x0.Limit, ([] : List Int)⟩ : butteryref08_Budget) : butteryref08_Budget).Limit), AV.nils] rfl) fun τ hH => ?_
      refine wpo_nil ?_
      refine awp_seq ?_
      refine awp_region rfl ?_
      refine wpo_mv (a := (.ref id19 1)) rfl rfl rfl (o_c tk false rfl (fun _ => rfl)) ?_
      refine wpo_rd (a := AV.nils) rfl rfl rfl (h_ld tk hH 0 rfl rfl rfl) ?_
      refine wpo_mv (a := (.fptr (c_butteryref08_Budget x0) 1)) rfl rfl rfl (o_c tk false rfl (fun _ => rfl)) ?_
      refine wpo_mv (a := ((eL 1 eI) x0.L)) rfl rfl rfl (o_ld tk rfl rfl) ?_
      obtain ⟨v23, hv24, H22⟩ := Option.bind_eq_some_iff.1 H17
      refine wpo_a (av := fun t => eT t 1 eI v23) rfl rfl rfl (h_app0 tk hH hv24 td59 ty3 rfl (by decide) (.inl ⟨rfl, rfl⟩) (src_l td59 rfl)) fun tk25 τ hH => ?_
      refine wpo_mv (a := (.ref id19 1)) rfl rfl rfl (o_c tk false rfl (fun _ => rfl)) ?_
      refine wpo_z rfl rfl (h_st tk hH 0 rfl ty59 (by simp) rfl rfl (.of_eq rfl) (b := (eT tk25 1 eI v23)) rfl rfl (Nat.le_of_ble_eq_true rfl) [(eI ({ ((⟨x0.Limit, ([] : List Int)⟩ : butteryref08_Budget) : butteryref08_Budget) with L := v23 } : butteryref08_Budget).Limit), (eT tk25 1 eI ({ ((⟨x0.Limit, ([] : List Int)⟩ : butteryref08_Budget) : butteryref08_Budget) with L := v23 } : butteryref08_Budget).L)] rfl) fun τ hH => ?_
      refine wpo_nil ?_
      refine awp_seq ?_
      refine awp_region rfl ?_
      refine wpo_mv (a := (.ref id19 1)) rfl rfl rfl (o_c tk false rfl (fun _ => rfl)) ?_
      refine wpo_rd (a := (eT tk25 1 eI ({ ((⟨x0.Limit, ([] : List Int)⟩ : butteryref08_Budget) : butteryref08_Budget) with L := v23 } : butteryref08_Budget).L)) rfl rfl rfl (h_ld tk hH 0 rfl rfl rfl) ?_
      refine wpo_mv (a := (eI x1)) rfl rfl rfl (o_mv tk rfl (Wk.refl _)) ?_
      refine wpo_lt H22 (eF 1 eI) rfl rfl rfl (o_c tk false rfl (fun _ => rfl)) fun v28 H27 => ?_
      obtain ⟨v30, hv31, H29⟩ := Option.bind_eq_some_iff.1 H27
      refine wpo_a (av := fun t => eT t 1 eI v30) rfl rfl rfl (h_app tk hH 0 hv31 rfl td59 ty3 rfl (by decide) rfl (src_l td59 rfl)) fun tk32 τ hH => ?_
      refine wpo_mv (a := (.ref id19 1)) rfl rfl rfl (o_c tk false rfl (fun _ => rfl)) ?_
      refine wpo_z rfl rfl (h_st tk hH 0 rfl ty59 (by simp) rfl rfl (.of_eq rfl) (b := (eT tk32 1 eI v30)) rfl rfl (Nat.le_of_ble_eq_true rfl) [(eI ({ ({ ((⟨x0.Limit, ([] : List Int)⟩ : butteryref08_Budget) : butteryref08_Budget) with L := v23 } : butteryref08_Budget) with L := v30 } : butteryref08_Budget).Limit), (eT tk32 1 eI ({ ({ ((⟨x0.Limit, ([] : List Int)⟩ : butteryref08_Budget) : butteryref08_Budget) with L := v23 } : butteryref08_Budget) with L := v30 } : butteryref08_Budget).L)] rfl) fun τ hH => ?_
      refine wpo_nil ?_
      refine awp_seq ?_
      refine awp_region rfl ?_
      refine wpo_rd (a := (.agg [(eI ({ ({ ((⟨x0.Limit, ([] : List Int)⟩ : butteryref08_Budget) : butteryref08_Budget) with L := v23 } : butteryref08_Budget) with L := v30 } : butteryref08_Budget).Limit), (eT tk32 1 eI ({ ({ ((⟨x0.Limit, ([] : List Int)⟩ : butteryref08_Budget) : butteryref08_Budget) with L := v23 } : butteryref08_Budget) with L := v30 } : butteryref08_Budget).L)])) rfl rfl rfl (h_ld tk hH 0 rfl rfl rfl) ?_
      refine wpo_z rfl rfl (h_st tk hH 1 rfl ty61 (by simp) rfl rfl (.of_eq rfl) (b := (.agg [(eI ({ ({ ((⟨x0.Limit, ([] : List Int)⟩ : butteryref08_Budget) : butteryref08_Budget) with L := v23 } : butteryref08_Budget) with L := v30 } : butteryref08_Budget).Limit), (eT tk32 1 eI ({ ({ ((⟨x0.Limit, ([] : List Int)⟩ : butteryref08_Budget) : butteryref08_Budget) with L := v23 } : butteryref08_Budget) with L := v30 } : butteryref08_Budget).L)])) rfl rfl (Nat.le_of_ble_eq_true rfl) [(eI (({ ({ ((⟨x0.Limit, ([] : List Int)⟩ : butteryref08_Budget) : butteryref08_Budget) with L := v23 } : butteryref08_Budget) with L := v30 } : butteryref08_Budget) : butteryref08_Budget).Limit), (eT tk32 1 eI (({ ({ ((⟨x0.Limit, ([] : List Int)⟩ : butteryref08_Budget) : butteryref08_Budget) with L := v23 } : butteryref08_Budget) with L := v30 } : butteryref08_Budget) : butteryref08_Budget).L)] rfl) fun τ hH => ?_
      refine wpo_mv (a := (eI (0 : Int))) rfl rfl rfl (o_as tk rfl (Wk.refl _)) ?_
      refine wpo_nil ?_
      refine awp_ret ?_
      obtain rfl := Option.some.inj H29
      exact ⟨_, (.tup [(e_butteryref08_Budget (({ ({ ((⟨x0.Limit, ([] : List Int)⟩ : butteryref08_Budget) : butteryref08_Budget) with L := v23 } : butteryref08_Budget) with L := v30 } : butteryref08_Budget) : butteryref08_Budget)), (eI (0 : Int))]), (ares_2 (ares_cell hH 1 rfl rfl rfl) rfl), (wk_tup (.cons (wk_agg (.cons (.of_eq rfl) (.cons wk_no .nil))) (.cons (.of_eq rfl) .nil))), .of_eq (by simp only [cutAV, cutL, enc61.cut _ _ _, (enc_i64 td44 sz44).cut _ _ _]), ((hH.noT.drop n20).drop n2)⟩
end Go.Proofs.YthjabhcbkbchjaaDoor
namespace Go.Proofs.YthjabhcbkbchjaaDoor
open Go Go.Va
set_option linter.unusedVariables false
set_option linter.unusedSimpArgs false
set_option maxRecDepth 20000
theorem butteryref08_Give_ok {x0 : butteryref08_Budget} {x1 : Int} {r : butteryref08_Budget × Int} (H : butteryref08_Give x0 x1 = some r) (σ : St)  : ACall Tryd.prog 32 [(e_butteryref08_Budget x0), (eI x1)] σ (fun a τ => a = .tup [e_butteryref08_Budget r.1, eI r.2] ∧ τ = σ) := by
  unfold butteryref08_Give at H
  refine ACall.pure (acall_start tk Tryd.func32 (by decide) rfl (Nat.le_of_ble_eq_true rfl) ?_)
  have hH := Holds.init σ
  refine awp_seq ?_
  refine awp_region rfl ?_
  refine wpo_mv (a := (.fptr (c_butteryref08_Budget x0) 0)) rfl rfl rfl (o_boxf tk rfl (.of_eq rfl) (b := (e_butteryref08_Budget x0)) (enc61.flat _)) ?_
  refine wpo_a (av := fun id => .ref id 0) rfl rfl rfl (h_alloc tk hH ty61 [(eI z_butteryref08_Budget.Limit), AV.nils] rfl) fun id1 τ ⟨hH, n2⟩ => ?_
  refine wpo_mv (a := (eI (0 : Int))) rfl rfl rfl (o_as tk rfl (Wk.refl _)) ?_
  refine wpo_nil ?_
  refine awp_seq ?_
  refine awp_seq ?_
  refine awp_region rfl ?_
  refine wpo_mv (a := (eI x1)) rfl rfl rfl (o_mv tk rfl (Wk.refl _)) ?_
  refine wpo_bd H eI rfl rfl rfl (fun v4 hv => OpP.of_call rfl rfl (.cons (.of_eq rfl) .nil) (butteryref08_Size_ok hv)) fun v4 hv4 H3 => ?_
  refine wpo_lt H3 eB rfl rfl rfl (o_ar tk rfl rfl rfl) fun v6 H5 => ?_
  refine wpo_nil ?_
  refine awp_if H5 rfl (fun H7 => ?_) (fun H7 => ?_)
  · refine awp_seq ?_
    refine awp_region rfl ?_
    refine wpo_mv (a := (e_butteryref08_Budget x0)) rfl rfl rfl (o_ld tk rfl rfl) ?_
    refine wpo_z rfl rfl (h_st tk hH 0 rfl ty61 (by simp) rfl rfl (.of_eq rfl) (b := (e_butteryref08_Budget x0)) (enc61.flat _) rfl (Nat.le_of_ble_eq_true rfl) (c_butteryref08_Budget (x0 : butteryref08_Budget)) rfl) fun τ hH => ?_
    refine wpo_mv (a := (eI (2 : Int))) rfl rfl rfl (o_as tk rfl (Wk.refl _)) ?_
    refine wpo_nil ?_
    refine awp_ret ?_
    obtain rfl := Option.some.inj H7
    exact ⟨_, (.tup [(e_butteryref08_Budget (x0 : butteryref08_Budget)), (eI (2 : Int))]), (ares_2 (ares_cell hH 0 rfl rfl rfl) rfl), (wk_tup (.cons (.of_eq rfl) (.cons (.of_eq rfl) .nil))), .of_eq (by simp only [cutAV, cutL, enc61.cut _ _ _, (enc_i64 td44 sz44).cut _ _ _]), (hH.noT.drop n2)⟩
  · refine awp_skip ?_
    refine awp_seq ?_
    refine awp_seq ?_
    refine awp_region rfl ?_
    refine wpo_mv (a := (eI (0 : Int))) rfl rfl rfl (o_as tk rfl (Wk.refl _)) ?_
    refine wpo_nil ?_
    refine awp_block ?_
    obtain ⟨o10, hs11, hj12⟩ := Option.bind_eq_some_iff.1 H7
    refine awp_cutx 0 (fun fr τ => ∃ s17 : Unit, o10 = .inl s17 ∧ WkF fr (fm [(2, (.fptr (c_butteryref08_Budget x0) 0)), (4, (.ref id1 0))]) ∧ Holds σ [(id1, [(eI z_butteryref08_Budget.Limit), AV.nils])] [] τ) ?_ ?_
    · rintro fr τ ⟨s17, rfl, hfr, hH⟩
      have H52 := hj12
      simp only [Sum.elim_inl] at H52
      refine AWP.fm [(2, (.fptr (c_butteryref08_Budget x0) 0)), (4, (.ref id1 0))] hfr ?_
      refine awp_seq ?_
      refine awp_region rfl ?_
      refine wpo_mv (a := (e_butteryref08_Budget x0)) rfl rfl rfl (o_ld tk rfl rfl) ?_
      refine wpo_z rfl rfl (h_st tk hH 0 rfl ty61 (by simp) rfl rfl (.of_eq rfl) (b := (e_butteryref08_Budget x0)) (enc61.flat _) rfl (Nat.le_of_ble_eq_true rfl) (c_butteryref08_Budget (x0 : butteryref08_Budget)) rfl) fun τ hH => ?_
      refine wpo_mv (a := (eI (9 : Int))) rfl rfl rfl (o_as tk rfl (Wk.refl _)) ?_
      refine wpo_nil ?_
      refine awp_ret ?_
      obtain rfl := Option.some.inj H52
      exact ⟨_, (.tup [(e_butteryref08_Budget (x0 : butteryref08_Budget)), (eI (9 : Int))]), (ares_2 (ares_cell hH 0 rfl rfl rfl) rfl), (wk_tup (.cons (.of_eq rfl) (.cons (.of_eq rfl) .nil))), .of_eq (by simp only [cutAV, cutL, enc61.cut _ _ _, (enc_i64 td44 sz44).cut _ _ _]), (hH.noT.drop n2)⟩
    · refine awp_loopO (body := fun s => butteryref08_Give_b0 x0 x1 s) hs11 (fun (s : Int) fr τ => WkF fr (fm [(1, (eI x1)), (2, (.fptr (c_butteryref08_Budget x0) 0)), (4, (.ref id1 0)), (6, (eI s))]) ∧ Holds σ [(id1, [(eI z_butteryref08_Budget.Limit), AV.nils])] [] τ) ⟨(wkf_cons (.of_eq rfl) (wkf_cons (.of_eq rfl) (wkf_cons (.of_eq rfl) (wkf_cons (.of_eq rfl) (wkf_nil _))))), hH⟩ ?_
      rintro c9 fr τ y13 ⟨hfr, hH⟩ hb15 hy16
      have H18 : butteryref08_Give_b0 x0 x1 c9 = some y13 := hb15
      unfold butteryref08_Give_b0 at H18
      refine AWP.fm [(1, (eI x1)), (2, (.fptr (c_butteryref08_Budget x0) 0)), (4, (.ref id1 0)), (6, (eI c9))] hfr ?_
      have hH : Holds σ [(id1, [(eI z_butteryref08_Budget.Limit), AV.nils])] [] τ := hH
      refine awp_seq ?_
      refine awp_seq ?_
      refine awp_region rfl ?_
      refine wpo_mv (a := (eI c9)) rfl rfl rfl (o_mv tk rfl (Wk.refl _)) ?_
      refine wpo_mv (a := (.fptr (c_butteryref08_Budget x0) 1)) rfl rfl rfl (o_c tk false rfl (fun _ => rfl)) ?_
      refine wpo_mv (a := ((eL 1 eI) x0.L)) rfl rfl rfl (o_ld tk rfl rfl) ?_
      refine wpo_lt H18 eI rfl rfl rfl (o_len tk td59 rfl) fun v20 H19 => ?_
      refine wpo_lt H19 eB rfl rfl rfl (o_ar tk rfl rfl rfl) fun v22 H21 => ?_
      refine wpo_nil ?_
      refine awp_if H21 rfl (fun H23 => ?_) (fun H23 => ?_)
      · refine awp_skip ?_
        refine awp_seq ?_
        refine awp_block ?_
        refine awp_seq ?_
        refine awp_region rfl ?_
        refine wpo_mv (a := (.fptr (c_butteryref08_Budget x0) 1)) rfl rfl rfl (o_c tk false rfl (fun _ => rfl)) ?_
        refine wpo_mv (a := ((eL 1 eI) x0.L)) rfl rfl rfl (o_ld tk rfl rfl) ?_
        refine wpo_mv (a := (eI c9)) rfl rfl rfl (o_mv tk rfl (Wk.refl _)) ?_
        refine wpo_bd H23 (fun y => .fptr (eI y).cells 0) rfl rfl rfl (fun v25 hv => o_ixa tk hv td59 (enc_i64 td3 sz3) rfl rfl) fun v25 hv25 H24 => ?_
        refine wpo_mv (a := (eI v25)) rfl rfl rfl (o_ld_e tk (enc_i64 td3 sz3) rfl rfl) ?_
        refine wpo_mv (a := (eI x1)) rfl rfl rfl (o_mv tk rfl (Wk.refl _)) ?_
        refine wpo_lt H24 eB rfl rfl rfl (o_ar tk rfl rfl rfl) fun v27 H26 => ?_
        refine wpo_nil ?_
        refine awp_if H26 rfl (fun H28 => ?_) (fun H28 => ?_)
        · refine awp_seq ?_
          refine awp_region rfl ?_
          refine wpo_mv (a := (.fptr (c_butteryref08_Budget x0) 0)) rfl rfl rfl (o_c tk false rfl (fun _ => rfl)) ?_
          refine wpo_mv (a := (eI x0.Limit)) rfl rfl rfl (o_ld tk rfl rfl) ?_
          refine wpo_mv (a := (.agg [(eI (⟨x0.Limit, ([] : List Int)⟩ : butteryref08_Budget).Limit), AV.nils])) rfl rfl rfl (o_c tk false rfl (fun _ => rfl)) ?_
          refine wpo_a (av := fun id => .ref id 0) rfl rfl rfl (h_alloc tk hH ty61 [(eI z_butteryref08_Budget.Limit), AV.nils] rfl) fun id29 τ ⟨hH, n30⟩ => ?_
          refine wpo_z rfl rfl (h_st tk hH 0 rfl ty61 (by simp) rfl rfl (.of_eq rfl) (b := (.agg [(eI (⟨x0.Limit, ([] : List Int)⟩ : butteryref08_Budget).Limit), AV.nils])) rfl rfl (Nat.le_of_ble_eq_true rfl) [(eI ((⟨x0.Limit, ([] : List Int)⟩ : butteryref08_Budget) : butteryref08_Budget).Limit), AV.nils] rfl) fun τ hH => ?_
          refine wpo_nil ?_
          refine awp_seq ?_
          refine awp_drawS mixed [6, 8] rfl (by decide +kernel) rfl rfl ?_
          refine wpdS_mv (a := (.ref id29 1)) rfl rfl rfl (o_c tk false rfl (fun _ => rfl)) ?_
          refine wpdS_rd (a := AV.nils) rfl (by decide +kernel) rfl rfl (h_ld tk hH 0 rfl rfl rfl) ?_
          refine wpdS_mv (a := (.fptr (c_butteryref08_Budget x0) 1)) rfl rfl rfl (o_c tk false rfl (fun _ => rfl)) ?_
          refine wpdS_mv (a := ((eL 1 eI) x0.L)) rfl rfl rfl (o_ld tk rfl rfl) ?_
          refine wpdS_mv (a := (eI c9)) rfl rfl rfl (o_mv tk rfl (Wk.refl _)) ?_
          refine wpdS_bd H28 (eL 1 eI) rfl rfl rfl (fun v33 hv => o_cutTo tk hv td59 (enc_i64 td3 sz3) rfl rfl) fun v33 hv33 H32 => ?_
          obtain ⟨v35, hv36, H34⟩ := Option.bind_eq_some_iff.1 H32
          refine wpdS_a (av := fun t => eT t 1 eI v35) rfl rfl rfl (h_app0 tk hH hv36 td59 ty3 rfl (by decide) (.inl ⟨rfl, rfl⟩) (src_l td59 rfl)) fun tk37 τ hH => ?_
          refine wpdS_mv (a := (.ref id29 1)) rfl rfl rfl (o_c tk false rfl (fun _ => rfl)) ?_
          refine wpdS_z rfl rfl rfl (h_st tk hH 0 rfl ty59 (by simp) rfl rfl (.of_eq rfl) (b := (eT tk37 1 eI v35)) rfl rfl (Nat.le_of_ble_eq_true rfl) [(eI ({ ((⟨x0.Limit, ([] : List Int)⟩ : butteryref08_Budget) : butteryref08_Budget) with L := v35 } : butteryref08_Budget).Limit), (eT tk37 1 eI ({ ((⟨x0.Limit, ([] : List Int)⟩ : butteryref08_Budget) : butteryref08_Budget) with L := v35 } : butteryref08_Budget).L)] rfl) fun τ hH => ?_
          refine wpdS_nil ?_
          refine awp_seq ?_
          refine awp_drawS mixed [7, 9] rfl (by decide +kernel) rfl rfl ?_
          refine wpdS_mv (a := (.ref id29 1)) rfl rfl rfl (o_c tk false rfl (fun _ => rfl)) ?_
          refine wpdS_rd (a := (eT tk37 1 eI ({ ((⟨x0.Limit, ([] : List Int)⟩ : butteryref08_Budget) : butteryref08_Budget) with L := v35 } : butteryref08_Budget).L)) rfl (by decide +kernel) rfl rfl (h_ld tk hH 0 rfl rfl rfl) ?_
          refine wpdS_mv (a := (.fptr (c_butteryref08_Budget x0) 1)) rfl rfl rfl (o_c tk false rfl (fun _ => rfl)) ?_
          refine wpdS_mv (a := ((eL 1 eI) x0.L)) rfl rfl rfl (o_ld tk rfl rfl) ?_
          refine wpdS_mv (a := (eI c9)) rfl rfl rfl (o_mv tk rfl (Wk.refl _)) ?_
          refine wpdS_lt H34 eI rfl rfl rfl (o_ar tk rfl rfl rfl) fun v40 H39 => ?_
          refine wpdS_bd H39 (eL 1 eI) rfl rfl rfl (fun v42 hv => o_cutFrom tk hv td59 (enc_i64 td3 sz3) rfl rfl) fun v42 hv42 H41 => ?_
          obtain ⟨v44, hv45, H43⟩ := Option.bind_eq_some_iff.1 H41
          refine wpdS_a (av := fun t => eT t 1 eI v44) rfl rfl rfl (h_app tk hH 0 hv45 rfl td59 ty3 rfl (by decide) rfl (src_l td59 rfl)) fun tk46 τ hH => ?_
          refine wpdS_mv (a := (.ref id29 1)) rfl rfl rfl (o_c tk false rfl (fun _ => rfl)) ?_
          refine wpdS_z rfl rfl rfl (h_st tk hH 0 rfl ty59 (by simp) rfl rfl (.of_eq rfl) (b := (eT tk46 1 eI v44)) rfl rfl (Nat.le_of_ble_eq_true rfl) [(eI ({ ({ ((⟨x0.Limit, ([] : List Int)⟩ : butteryref08_Budget) : butteryref08_Budget) with L := v35 } : butteryref08_Budget) with L := v44 } : butteryref08_Budget).Limit), (eT tk46 1 eI ({ ({ ((⟨x0.Limit, ([] : List Int)⟩ : butteryref08_Budget) : butteryref08_Budget) with L := v35 } : butteryref08_Budget) with L := v44 } : butteryref08_Budget).L)] rfl) fun τ hH => ?_
          refine wpdS_nil ?_
          refine awp_seq ?_
          refine awp_region rfl ?_
          refine wpo_rd (a := (.agg [(eI ({ ({ ((⟨x0.Limit, ([] : List Int)⟩ : butteryref08_Budget) : butteryref08_Budget) with L := v35 } : butteryref08_Budget) with L := v44 } : butteryref08_Budget).Limit), (eT tk46 1 eI ({ ({ ((⟨x0.Limit, ([] : List Int)⟩ : butteryref08_Budget) : butteryref08_Budget) with L := v35 } : butteryref08_Budget) with L := v44 } : butteryref08_Budget).L)])) rfl rfl rfl (h_ld tk hH 0 rfl rfl rfl) ?_
          refine wpo_z rfl rfl (h_st tk hH 1 rfl ty61 (by simp) rfl rfl (.of_eq rfl) (b := (.agg [(eI ({ ({ ((⟨x0.Limit, ([] : List Int)⟩ : butteryref08_Budget) : butteryref08_Budget) with L := v35 } : butteryref08_Budget) with L := v44 } : butteryref08_Budget).Limit), (eT tk46 1 eI ({ ({ ((⟨x0.Limit, ([] : List Int)⟩ : butteryref08_Budget) : butteryref08_Budget) with L := v35 } : butteryref08_Budget) with L := v44 } : butteryref08_Budget).L)])) rfl rfl (Nat.le_of_ble_eq_true rfl) [(eI (({ ({ ((⟨x0.Limit, ([] : List Int)⟩ : butteryref08_Budget) : butteryref08_Budget) with L := v35 } : butteryref08_Budget) with L := v44 } : butteryref08_Budget) : butteryref08_Budget).Limit), (eT tk46 1 eI (({ ({ ((⟨x0.Limit, ([] : List Int)⟩ : butteryref08_Budget) : butteryref08_Budget) with L := v35 } : butteryref08_Budget) with L := v44 } : butteryref08_Budget) : butteryref08_Budget).L)] rfl) fun τ hH => ?_
          refine wpo_mv (a := (eI (0 : Int))) rfl rfl rfl (o_as tk rfl (Wk.refl _)) ?_
          refine wpo_nil ?_
          refine awp_ret ?_
          have hz := hy16 _ (inj_inr H43)
          refine ⟨⟨_, inj_inr H43⟩, ?_⟩
          rw [← hz] at hj12
          have H49 := (show some _ = some _ from hj12)
          obtain rfl := Option.some.inj H49
          exact ⟨_, (.tup [(e_butteryref08_Budget (({ ({ ((⟨x0.Limit, ([] : List Int)⟩ : butteryref08_Budget) : butteryref08_Budget) with L := v35 } : butteryref08_Budget) with L := v44 } : butteryref08_Budget) : butteryref08_Budget)), (eI (0 : Int))]), (ares_2 (ares_cell hH 1 rfl rfl rfl) rfl), (wk_tup (.cons (wk_agg (.cons (.of_eq rfl) (.cons wk_no .nil))) (.cons (.of_eq rfl) .nil))), .of_eq (by simp only [cutAV, cutL, enc61.cut _ _ _, (enc_i64 td44 sz44).cut _ _ _]), ((hH.noT.drop n30).drop n2)⟩
        · refine awp_skip ?_
          refine awp_region rfl ?_
          refine wpo_mv (a := (eI c9)) rfl rfl rfl (o_mv tk rfl (Wk.refl _)) ?_
          refine wpo_lt H28 eI rfl rfl rfl (o_ar tk rfl rfl rfl) fun v51 H50 => ?_
          refine wpo_mv (a := (eI v51)) rfl rfl rfl (o_as tk rfl (Wk.refl _)) ?_
          refine wpo_nil ?_
          exact ⟨v51, inj_inl H50, (wkf_cons (.of_eq rfl) (wkf_cons (.of_eq rfl) (wkf_cons (.of_eq rfl) (wkf_cons (.of_eq rfl) (wkf_nil _))))), hH⟩
      · refine awp_exit ?_
        have hz := hy16 _ (inj_inr H23)
        exact ⟨⟨_, inj_inr H23⟩, (), hz.symm, (wkf_cons (.of_eq rfl) (wkf_cons (.of_eq rfl) (wkf_nil _))), hH⟩
end Go.Proofs.YthjabhcbkbchjaaDoor
namespace Go.Proofs.YthjabhcbkbchjaaDoor
open Go Go.Va
set_option linter.unusedVariables false
set_option linter.unusedSimpArgs false
set_option maxRecDepth 20000
theorem slab_Many_slab_Budget_Take_ok {x0 : Int} {x1 : Int} {x2 : slab_Budget} {r : Int × slab_Budget} (H : slab_Many_slab_Budget_Take x0 x1 x2 = some r) (σ : St) {p2 : Nat} (h2 : σ.objs[p2]? = some (c_slab_Budget x2)) : ACall Tryd.prog 35 [(eI x0), (eI x1), (.fn (.func 16) [.ref p2 0] [])] σ (fun a τ => a = eI r.1 ∧ τ = σ.puts [(p2, (c_slab_Budget r.2))]) := by
  unfold slab_Many_slab_Budget_Take at H
  refine ACall.out [(p2, (c_slab_Budget r.2))] (by simp only [List.mem_cons, List.not_mem_nil, or_false]; rintro _ (rfl) ρ κ <;> exact c_slab_Budget_cut ρ κ _) (acall_start tk Tryd.func35 (by decide) rfl (Nat.le_of_ble_eq_true rfl) ?_)
  have hH := Holds.init σ
  have hH := hH.bring h2 (fun _ h => by cases h)
  refine awp_seq ?_
  refine awp_region rfl ?_
  refine wpo_mv (a := (eI (0 : Int))) rfl rfl rfl (o_as tk rfl (Wk.refl _)) ?_
  refine wpo_nil ?_
  refine awp_seq ?_
  refine awp_seq ?_
  refine awp_region rfl ?_
  refine wpo_mv (a := (eI x0)) rfl rfl rfl (o_mv tk rfl (Wk.refl _)) ?_
  refine wpo_lt H eI rfl rfl rfl (o_max tk rfl rfl) fun v2 H1 => ?_
  refine wpo_mv (a := (eI (0 : Int))) rfl rfl rfl (o_mv tk rfl (Wk.refl _)) ?_
  refine wpo_nil ?_
  refine awp_block ?_
  obtain ⟨o5, hs6, hj7⟩ := Option.bind_eq_some_iff.1 H1
  refine awp_cutx 0 (fun fr τ => ∃ s12 : slab_Budget, o5 = .inl s12 ∧ WkF fr (fm [(0, (eI x0))]) ∧ Holds σ [(p2, (c_slab_Budget s12))] [] τ) ?_ ?_
  · rintro fr τ ⟨s12, rfl, hfr, hH⟩
    have H25 := hj7
    simp only [Sum.elim_inl] at H25
    refine AWP.fm [(0, (eI x0))] hfr ?_
    refine awp_seq ?_
    refine awp_region rfl ?_
    refine wpo_mv (a := (eI x0)) rfl rfl rfl (o_mv tk rfl (Wk.refl _)) ?_
    refine wpo_lt H25 eI rfl rfl rfl (o_max tk rfl rfl) fun v27 H26 => ?_
    refine wpo_mv (a := (eI v27)) rfl rfl rfl (o_as tk rfl (Wk.refl _)) ?_
    refine wpo_nil ?_
    refine awp_ret ?_
    obtain rfl := Option.some.inj H26
    exact ⟨_, (eI v27), rfl, (.of_eq rfl), .of_eq ((enc_i64 td3 sz3).cut _ _ _), hH.noT⟩
  · refine awp_loopO (body := fun s => slab_Many_slab_Budget_Take_b0 x0 x1 v2 s.1 s.2) hs6 (fun (s : Int × slab_Budget) fr τ => WkF fr (fm [(0, (eI x0)), (1, (eI x1)), (2, (.fn (.func 16) [(.ref p2 0)] [])), (9, (eI v2)), (10, (eI s.1))]) ∧ Holds σ [(p2, (c_slab_Budget s.2))] [] τ) ⟨(wkf_cons (.of_eq rfl) (wkf_cons (.of_eq rfl) (wkf_cons (.of_eq rfl) (wkf_cons (.of_eq rfl) (wkf_cons (.of_eq rfl) (wkf_nil _)))))), hH⟩ ?_
    rintro ⟨c3, c4⟩ fr τ y8 ⟨hfr, hH⟩ hb10 hy11
    have H13 : slab_Many_slab_Budget_Take_b0 x0 x1 v2 c3 c4 = some y8 := hb10
    unfold slab_Many_slab_Budget_Take_b0 at H13
    refine AWP.fm [(0, (eI x0)), (1, (eI x1)), (2, (.fn (.func 16) [(.ref p2 0)] [])), (9, (eI v2)), (10, (eI c3))] hfr ?_
    have hH : Holds σ [(p2, (c_slab_Budget c4))] [] τ := hH
    refine awp_seq ?_
    refine awp_region rfl ?_
    refine wpo_lt H13 eB rfl rfl rfl (o_ar tk rfl rfl rfl) fun v15 H14 => ?_
    refine wpo_nil ?_
    refine awp_seq ?_
    refine awp_if H14 rfl (fun H16 => ?_) (fun H16 => ?_)
    · refine awp_skip ?_
      refine awp_seq ?_
      refine awp_block ?_
      refine awp_seq ?_
      refine awp_region rfl ?_
      refine wpo_mv (a := (eI c3)) rfl rfl rfl (o_mv tk rfl (Wk.refl _)) ?_
      refine wpo_mv (a := (eI c3)) rfl rfl rfl (o_as tk rfl (Wk.refl _)) ?_
      refine wpo_nil ?_
      refine awp_seq ?_
      refine awp_region rfl ?_
      refine wpo_mv (a := (.fn (.func 16) [(.ref p2 0)] [])) rfl rfl rfl (o_mv tk rfl (Wk.refl _)) ?_
      refine wpo_mv (a := (eI x1)) rfl rfl rfl (o_mv tk rfl (Wk.refl _)) ?_
      refine wpo_cb H16 (fun x _ => eErr x.1) rfl rfl rfl (fun v18 hv => h_call1 hH [(0, (p2, (c_slab_Budget v18.2)))] ⟨⟨_, rfl⟩, trivial⟩ rfl rfl (.cons (.of_eq rfl) (.cons (.of_eq rfl) .nil)) (slab_Budget_Take_ok hv _ (hH.at_ 0 rfl))) fun v18 _ τ hv18 H17 hH => ?_
      refine wpo_lt H17 eB rfl rfl rfl (o_err_neq tk rfl rfl rfl) fun v20 H19 => ?_
      refine wpo_nil ?_
      refine awp_if H19 rfl (fun H21 => ?_) (fun H21 => ?_)
      · refine awp_seq ?_
        refine awp_region rfl ?_
        refine wpo_mv (a := (eI c3)) rfl rfl rfl (o_mv tk rfl (Wk.refl _)) ?_
        refine wpo_mv (a := (eI c3)) rfl rfl rfl (o_as tk rfl (Wk.refl _)) ?_
        refine wpo_nil ?_
        refine awp_ret ?_
        have hz := hy11 _ (inj_inr H21)
        refine ⟨⟨_, inj_inr H21⟩, ?_⟩
        rw [← hz] at hj7
        have H22 := (show some _ = some _ from hj7)
        obtain rfl := Option.some.inj H22
        exact ⟨_, (eI c3), rfl, (.of_eq rfl), .of_eq ((enc_i64 td3 sz3).cut _ _ _), hH.noT⟩
      · refine awp_skip ?_
        refine awp_region rfl ?_
        refine wpo_lt H21 eI rfl rfl rfl (o_ar tk rfl rfl rfl) fun v24 H23 => ?_
        refine wpo_mv (a := (eI v24)) rfl rfl rfl (o_mv tk rfl (Wk.refl _)) ?_
        refine wpo_nil ?_
        exact ⟨(v24, v18.2), inj_inl H23, (wkf_cons (.of_eq rfl) (wkf_cons (.of_eq rfl) (wkf_cons (.of_eq rfl) (wkf_cons (.of_eq rfl) (wkf_cons (.of_eq rfl) (wkf_nil _)))))), hH⟩
    · refine awp_exit ?_
      have hz := hy11 _ (inj_inr H16)
      exact ⟨⟨_, inj_inr H16⟩, c4, hz.symm, (wkf_cons (.of_eq rfl) (wkf_nil _)), hH⟩
end Go.Proofs.YthjabhcbkbchjaaDoor
namespace Go.Proofs.YthjabhcbkbchjaaDoor
open Go Go.Va
set_option linter.unusedVariables false
set_option linter.unusedSimpArgs false
set_option maxRecDepth 20000
theorem slab_Budget_Fill_ok {x0 : slab_Budget} {x1 : Int} {x2 : Int} {r : Int × slab_Budget} (H : slab_Budget_Fill x0 x1 x2 = some r) (σ : St) {p0 : Nat} (h0 : σ.objs[p0]? = some (c_slab_Budget x0)) : ACall Tryd.prog 33 [(.ref p0 0), (eI x1), (eI x2)] σ (fun a τ => a = eI r.1 ∧ τ = σ.puts [(p0, (c_slab_Budget r.2))]) := by
  unfold slab_Budget_Fill at H
  refine ACall.out [(p0, (c_slab_Budget r.2))] (by simp only [List.mem_cons, List.not_mem_nil, or_false]; rintro _ (rfl) ρ κ <;> exact c_slab_Budget_cut ρ κ _) (acall_start tk Tryd.func33 (by decide) rfl (Nat.le_of_ble_eq_true rfl) ?_)
  have hH := Holds.init σ
  have hH := hH.bring h0 (fun _ h => by cases h)
  refine awp_seq ?_
  refine awp_region rfl ?_
  refine wpo_mv (a := (eI (0 : Int))) rfl rfl rfl (o_as tk rfl (Wk.refl _)) ?_
  refine wpo_nil ?_
  refine awp_seq ?_
  refine awp_region rfl ?_
  refine wpo_mv (a := (eI x2)) rfl rfl rfl (o_mv tk rfl (Wk.refl _)) ?_
  refine wpo_mv (a := (eI x1)) rfl rfl rfl (o_mv tk rfl (Wk.refl _)) ?_
  refine wpo_mv (a := (.ref p0 0)) rfl rfl rfl (o_mv tk rfl (Wk.refl _)) ?_
  refine wpo_mv (a := (.fn (.func 16) [(.ref p0 0)] [])) rfl rfl rfl (o_c tk false rfl (fun _ => rfl)) ?_
  refine wpo_cb H (fun x _ => eI x.1) rfl rfl rfl (fun v2 hv => h_call1 hH [(0, (p0, (c_slab_Budget v2.2)))] ⟨⟨_, rfl⟩, trivial⟩ rfl rfl (.cons (.of_eq rfl) (.cons (.of_eq rfl) (.cons (.of_eq rfl) .nil))) (slab_Many_slab_Budget_Take_ok hv _ (hH.at_ 0 rfl))) fun v2 _ τ hv2 H1 hH => ?_
  refine wpo_mv (a := (eI v2.1)) rfl rfl rfl (o_as tk rfl (Wk.refl _)) ?_
  refine wpo_nil ?_
  refine awp_ret ?_
  obtain rfl := Option.some.inj H1
  exact ⟨_, (eI v2.1), rfl, (.of_eq rfl), .of_eq ((enc_i64 td3 sz3).cut _ _ _), hH.noT⟩
end Go.Proofs.YthjabhcbkbchjaaDoor
namespace Go.Proofs.YthjabhcbkbchjaaDoor
open Go Go.Va
set_option linter.unusedVariables false
set_option linter.unusedSimpArgs false
set_option maxRecDepth 20000
theorem slab_Many_slab_Budget_Give_ok {x0 : Int} {x1 : Int} {x2 : slab_Budget} {r : Int × slab_Budget} (H : slab_Many_slab_Budget_Give x0 x1 x2 = some r) (σ : St) {p2 : Nat} (h2 : σ.objs[p2]? = some (c_slab_Budget x2)) : ACall Tryd.prog 35 [(eI x0), (eI x1), (.fn (.func 17) [.ref p2 0] [])] σ (fun a τ => a = eI r.1 ∧ τ = σ.puts [(p2, (c_slab_Budget r.2))]) := by
  unfold slab_Many_slab_Budget_Give at H
  refine ACall.out [(p2, (c_slab_Budget r.2))] (by simp only [List.mem_cons, List.not_mem_nil, or_false]; rintro _ (rfl) ρ κ <;> exact c_slab_Budget_cut ρ κ _) (acall_start tk Tryd.func35 (by decide) rfl (Nat.le_of_ble_eq_true rfl) ?_)
  have hH := Holds.init σ
  have hH := hH.bring h2 (fun _ h => by cases h)
  refine awp_seq ?_
  refine awp_region rfl ?_
  refine wpo_mv (a := (eI (0 : Int))) rfl rfl rfl (o_as tk rfl (Wk.refl _)) ?_
  refine wpo_nil ?_
  refine awp_seq ?_
  refine awp_seq ?_
  refine awp_region rfl ?_
  refine wpo_mv (a := (eI x0)) rfl rfl rfl (o_mv tk rfl (Wk.refl _)) ?_
  refine wpo_lt H eI rfl rfl rfl (o_max tk rfl rfl) fun v2 H1 => ?_
  refine wpo_mv (a := (eI (0 : Int))) rfl rfl rfl (o_mv tk rfl (Wk.refl _)) ?_
  refine wpo_nil ?_
  refine awp_block ?_
  obtain ⟨o5, hs6, hj7⟩ := Option.bind_eq_some_iff.1 H1
  refine awp_cutx 0 (fun fr τ => ∃ s12 : slab_Budget, o5 = .inl s12 ∧ WkF fr (fm [(0, (eI x0))]) ∧ Holds σ [(p2, (c_slab_Budget s12))] [] τ) ?_ ?_
  · rintro fr τ ⟨s12, rfl, hfr, hH⟩
    have H25 := hj7
    simp only [Sum.elim_inl] at H25
    refine AWP.fm [(0, (eI x0))] hfr ?_
    refine awp_seq ?_
    refine awp_region rfl ?_
    refine wpo_mv (a := (eI x0)) rfl rfl rfl (o_mv tk rfl (Wk.refl _)) ?_
    refine wpo_lt H25 eI rfl rfl rfl (o_max tk rfl rfl) fun v27 H26 => ?_
    refine wpo_mv (a := (eI v27)) rfl rfl rfl (o_as tk rfl (Wk.refl _)) ?_
    refine wpo_nil ?_
    refine awp_ret ?_
    obtain rfl := Option.some.inj H26
    exact ⟨_, (eI v27), rfl, (.of_eq rfl), .of_eq ((enc_i64 td3 sz3).cut _ _ _), hH.noT⟩
  · refine awp_loopO (body := fun s => slab_Many_slab_Budget_Give_b0 x0 x1 v2 s.1 s.2) hs6 (fun (s : Int × slab_Budget) fr τ => WkF fr (fm [(0, (eI x0)), (1, (eI x1)), (2, (.fn (.func 17) [(.ref p2 0)] [])), (9, (eI v2)), (10, (eI s.1))]) ∧ Holds σ [(p2, (c_slab_Budget s.2))] [] τ) ⟨(wkf_cons (.of_eq rfl) (wkf_cons (.of_eq rfl) (wkf_cons (.of_eq rfl) (wkf_cons (.of_eq rfl) (wkf_cons (.of_eq rfl) (wkf_nil _)))))), hH⟩ ?_
    rintro ⟨c3, c4⟩ fr τ y8 ⟨hfr, hH⟩ hb10 hy11
    have H13 : slab_Many_slab_Budget_Give_b0 x0 x1 v2 c3 c4 = some y8 := hb10
    unfold slab_Many_slab_Budget_Give_b0 at H13
    refine AWP.fm [(0, (eI x0)), (1, (eI x1)), (2, (.fn (.func 17) [(.ref p2 0)] [])), (9, (eI v2)), (10, (eI c3))] hfr ?_
    have hH : Holds σ [(p2, (c_slab_Budget c4))] [] τ := hH
    refine awp_seq ?_
    refine awp_region rfl ?_
    refine wpo_lt H13 eB rfl rfl rfl (o_ar tk rfl rfl rfl) fun v15 H14 => ?_
    refine wpo_nil ?_
    refine awp_seq ?_
    refine awp_if H14 rfl (fun H16 => ?_) (fun H16 => ?_)
    · refine awp_skip ?_
      refine awp_seq ?_
      refine awp_block ?_
      refine awp_seq ?_
      refine awp_region rfl ?_
      refine wpo_mv (a := (eI c3)) rfl rfl rfl (o_mv tk rfl (Wk.refl _)) ?_
      refine wpo_mv (a := (eI c3)) rfl rfl rfl (o_as tk rfl (Wk.refl _)) ?_
      refine wpo_nil ?_
      refine awp_seq ?_
      refine awp_region rfl ?_
      refine wpo_mv (a := (.fn (.func 17) [(.ref p2 0)] [])) rfl rfl rfl (o_mv tk rfl (Wk.refl _)) ?_
      refine wpo_mv (a := (eI x1)) rfl rfl rfl (o_mv tk rfl (Wk.refl _)) ?_
      refine wpo_cb H16 (fun x _ => eErr x.1) rfl rfl rfl (fun v18 hv => h_call1 hH [(0, (p2, (c_slab_Budget v18.2)))] ⟨⟨_, rfl⟩, trivial⟩ rfl rfl (.cons (.of_eq rfl) (.cons (.of_eq rfl) .nil)) (slab_Budget_Give_ok hv _ (hH.at_ 0 rfl))) fun v18 _ τ hv18 H17 hH => ?_
      refine wpo_lt H17 eB rfl rfl rfl (o_err_neq tk rfl rfl rfl) fun v20 H19 => ?_
      refine wpo_nil ?_
      refine awp_if H19 rfl (fun H21 => ?_) (fun H21 => ?_)
      · refine awp_seq ?_
        refine awp_region rfl ?_
        refine wpo_mv (a := (eI c3)) rfl rfl rfl (o_mv tk rfl (Wk.refl _)) ?_
        refine wpo_mv (a := (eI c3)) rfl rfl rfl (o_as tk rfl (Wk.refl _)) ?_
        refine wpo_nil ?_
        refine awp_ret ?_
        have hz := hy11 _ (inj_inr H21)
        refine ⟨⟨_, inj_inr H21⟩, ?_⟩
        rw [← hz] at hj7
        have H22 := (show some _ = some _ from hj7)
        obtain rfl := Option.some.inj H22
        exact ⟨_, (eI c3), rfl, (.of_eq rfl), .of_eq ((enc_i64 td3 sz3).cut _ _ _), hH.noT⟩
      · refine awp_skip ?_
        refine awp_region rfl ?_
        refine wpo_lt H21 eI rfl rfl rfl (o_ar tk rfl rfl rfl) fun v24 H23 => ?_
        refine wpo_mv (a := (eI v24)) rfl rfl rfl (o_mv tk rfl (Wk.refl _)) ?_
        refine wpo_nil ?_
        exact ⟨(v24, v18.2), inj_inl H23, (wkf_cons (.of_eq rfl) (wkf_cons (.of_eq rfl) (wkf_cons (.of_eq rfl) (wkf_cons (.of_eq rfl) (wkf_cons (.of_eq rfl) (wkf_nil _)))))), hH⟩
    · refine awp_exit ?_
      have hz := hy11 _ (inj_inr H16)
      exact ⟨⟨_, inj_inr H16⟩, c4, hz.symm, (wkf_cons (.of_eq rfl) (wkf_nil _)), hH⟩
end Go.Proofs.YthjabhcbkbchjaaDoor
namespace Go.Proofs.YthjabhcbkbchjaaDoor
open Go Go.Va
set_option linter.unusedVariables false
set_option linter.unusedSimpArgs false
set_option maxRecDepth 20000
theorem slab_Budget_Drain_ok {x0 : slab_Budget} {x1 : Int} {x2 : Int} {r : Int × slab_Budget} (H : slab_Budget_Drain x0 x1 x2 = some r) (σ : St) {p0 : Nat} (h0 : σ.objs[p0]? = some (c_slab_Budget x0)) : ACall Tryd.prog 34 [(.ref p0 0), (eI x1), (eI x2)] σ (fun a τ => a = eI r.1 ∧ τ = σ.puts [(p0, (c_slab_Budget r.2))]) := by
  unfold slab_Budget_Drain at H
  refine ACall.out [(p0, (c_slab_Budget r.2))] (by simp only [List.mem_cons, List.not_mem_nil, or_false]; rintro _ (rfl) ρ κ <;> exact c_slab_Budget_cut ρ κ _) (acall_start tk Tryd.func34 (by decide) rfl (Nat.le_of_ble_eq_true rfl) ?_)
  have hH := Holds.init σ
  have hH := hH.bring h0 (fun _ h => by cases h)
  refine awp_seq ?_
  refine awp_region rfl ?_
  refine wpo_mv (a := (eI (0 : Int))) rfl rfl rfl (o_as tk rfl (Wk.refl _)) ?_
  refine wpo_nil ?_
  refine awp_seq ?_
  refine awp_region rfl ?_
  refine wpo_mv (a := (eI x2)) rfl rfl rfl (o_mv tk rfl (Wk.refl _)) ?_
  refine wpo_mv (a := (eI x1)) rfl rfl rfl (o_mv tk rfl (Wk.refl _)) ?_
  refine wpo_mv (a := (.ref p0 0)) rfl rfl rfl (o_mv tk rfl (Wk.refl _)) ?_
  refine wpo_mv (a := (.fn (.func 17) [(.ref p0 0)] [])) rfl rfl rfl (o_c tk false rfl (fun _ => rfl)) ?_
  refine wpo_cb H (fun x _ => eI x.1) rfl rfl rfl (fun v2 hv => h_call1 hH [(0, (p0, (c_slab_Budget v2.2)))] ⟨⟨_, rfl⟩, trivial⟩ rfl rfl (.cons (.of_eq rfl) (.cons (.of_eq rfl) (.cons (.of_eq rfl) .nil))) (slab_Many_slab_Budget_Give_ok hv _ (hH.at_ 0 rfl))) fun v2 _ τ hv2 H1 hH => ?_
  refine wpo_mv (a := (eI v2.1)) rfl rfl rfl (o_as tk rfl (Wk.refl _)) ?_
  refine wpo_nil ?_
  refine awp_ret ?_
  obtain rfl := Option.some.inj H1
  exact ⟨_, (eI v2.1), rfl, (.of_eq rfl), .of_eq ((enc_i64 td3 sz3).cut _ _ _), hH.noT⟩
end Go.Proofs.YthjabhcbkbchjaaDoor
namespace Go.Proofs.YthjabhcbkbchjaaDoor
open Go Go.Va
set_option linter.unusedVariables false
set_option linter.unusedSimpArgs false
set_option maxRecDepth 20000
theorem slab_Budget_Limit_ok {x0 : slab_Budget} {r : Int} (H : slab_Budget_Limit x0 = some r) (σ : St) {p0 : Nat} (h0 : σ.objs[p0]? = some (c_slab_Budget x0)) : ACall Tryd.prog 38 [(.ref p0 0)] σ (fun a τ => a = eI r ∧ τ = σ) := by
  unfold slab_Budget_Limit at H
  refine ACall.pure (acall_start tk Tryd.func38 (by decide) rfl (Nat.le_of_ble_eq_true rfl) ?_)
  have hH := Holds.init σ
  have hH := hH.bring h0 (fun _ h => by cases h)
  refine awp_seq ?_
  refine awp_region rfl ?_
  refine wpo_mv (a := (eI (0 : Int))) rfl rfl rfl (o_as tk rfl (Wk.refl _)) ?_
  refine wpo_nil ?_
  refine awp_seq ?_
  refine awp_region rfl ?_
  refine wpo_mv (a := (.ref p0 0)) rfl rfl rfl (o_mv tk rfl (Wk.refl _)) ?_
  refine wpo_mv (a := (.ref p0 0)) rfl rfl rfl (o_c tk false rfl (fun _ => rfl)) ?_
  refine wpo_mv (a := (.ref p0 0)) rfl rfl rfl (o_c tk false rfl (fun _ => rfl)) ?_
  refine wpo_rd (a := (eI x0.limit)) rfl rfl rfl (h_ld tk hH 0 rfl (g_slab_Budget_limit _) rfl) ?_
  refine wpo_mv (a := (eI x0.limit)) rfl rfl rfl (o_as tk rfl (Wk.refl _)) ?_
  refine wpo_nil ?_
  refine awp_ret ?_
  obtain rfl := Option.some.inj H
  exact ⟨_, (eI x0.limit), rfl, (.of_eq rfl), .of_eq ((enc_i64 td3 sz3).cut _ _ _), (hH.noT.unbring h0)⟩
end Go.Proofs.YthjabhcbkbchjaaDoor
namespace Go.Proofs.YthjabhcbkbchjaaDoor
open Go Go.Va
set_option linter.unusedVariables false
set_option linter.unusedSimpArgs false
set_option maxRecDepth 20000
theorem butteryref08_Count_ok {x0 : butteryref08_Budget} {x1 : Int} {r : Int} (H : butteryref08_Count x0 x1 = some r) (σ : St)  : ACall Tryd.prog 39 [(e_butteryref08_Budget x0), (eI x1)] σ (fun a τ => a = eI r ∧ τ = σ) := by
  unfold butteryref08_Count at H
  refine ACall.pure (acall_start tk Tryd.func39 (by decide) rfl (Nat.le_of_ble_eq_true rfl) ?_)
  have hH := Holds.init σ
  refine awp_seq ?_
  refine awp_region rfl ?_
  refine wpo_mv (a := (.fptr (c_butteryref08_Budget x0) 0)) rfl rfl rfl (o_boxf tk rfl (.of_eq rfl) (b := (e_butteryref08_Budget x0)) (enc61.flat _)) ?_
  refine wpo_mv (a := (eI (0 : Int))) rfl rfl rfl (o_as tk rfl (Wk.refl _)) ?_
  refine wpo_nil ?_
  refine awp_seq ?_
  refine awp_region rfl ?_
  refine wpo_mv (a := (eI (0 : Int))) rfl rfl rfl (o_as tk rfl (Wk.refl _)) ?_
  refine wpo_nil ?_
  refine awp_seq ?_
  refine awp_seq ?_
  refine awp_region rfl ?_
  refine wpo_mv (a := (eI (0 : Int))) rfl rfl rfl (o_as tk rfl (Wk.refl _)) ?_
  refine wpo_nil ?_
  refine awp_block ?_
  obtain ⟨s10, hs4, hj5⟩ := Option.bind_eq_some_iff.1 H
  refine awp_cutx 0 (fun fr τ => WkF fr (fm [(5, (eI s10))]) ∧ Holds σ [] [] τ) ?_ ?_
  · rintro fr τ ⟨hfr, hH⟩
    have H28 := hj5
    refine AWP.fm [(5, (eI s10))] hfr ?_
    refine awp_seq ?_
    refine awp_region rfl ?_
    refine wpo_mv (a := (eI s10)) rfl rfl rfl (o_mv tk rfl (Wk.refl _)) ?_
    refine wpo_mv (a := (eI s10)) rfl rfl rfl (o_as tk rfl (Wk.refl _)) ?_
    refine wpo_nil ?_
    refine awp_ret ?_
    obtain rfl := Option.some.inj H28
    exact ⟨_, (eI s10), rfl, (.of_eq rfl), .of_eq ((enc_i64 td3 sz3).cut _ _ _), hH.noT⟩
  · refine awp_loopO (body := fun s => butteryref08_Count_b0 x0 x1 s.1 s.2) hs4 (fun (s : Int × Int) fr τ => WkF fr (fm [(1, (eI x1)), (2, (.fptr (c_butteryref08_Budget x0) 0)), (5, (eI s.1)), (6, (eI s.2))]) ∧ Holds σ [] [] τ) ⟨(wkf_cons (.of_eq rfl) (wkf_cons (.of_eq rfl) (wkf_cons (.of_eq rfl) (wkf_cons (.of_eq rfl) (wkf_nil _))))), hH⟩ ?_
    rintro ⟨c1, c2⟩ fr τ y6 ⟨hfr, hH⟩ hb8 hy9
    have H11 : butteryref08_Count_b0 x0 x1 c1 c2 = some y6 := hb8
    unfold butteryref08_Count_b0 at H11
    refine AWP.fm [(1, (eI x1)), (2, (.fptr (c_butteryref08_Budget x0) 0)), (5, (eI c1)), (6, (eI c2))] hfr ?_
    have hH : Holds σ [] [] τ := hH
    refine awp_seq ?_
    refine awp_seq ?_
    refine awp_region rfl ?_
    refine wpo_mv (a := (eI c2)) rfl rfl rfl (o_mv tk rfl (Wk.refl _)) ?_
    refine wpo_mv (a := (.fptr (c_butteryref08_Budget x0) 1)) rfl rfl rfl (o_c tk false rfl (fun _ => rfl)) ?_
    refine wpo_mv (a := ((eL 1 eI) x0.L)) rfl rfl rfl (o_ld tk rfl rfl) ?_
    refine wpo_lt H11 eI rfl rfl rfl (o_len tk td59 rfl) fun v13 H12 => ?_
    refine wpo_lt H12 eB rfl rfl rfl (o_ar tk rfl rfl rfl) fun v15 H14 => ?_
    refine wpo_nil ?_
    refine awp_if H14 rfl (fun H16 => ?_) (fun H16 => ?_)
    · refine awp_skip ?_
      refine awp_seq ?_
      refine awp_block ?_
      refine awp_seq ?_
      refine awp_region rfl ?_
      refine wpo_mv (a := (.fptr (c_butteryref08_Budget x0) 1)) rfl rfl rfl (o_c tk false rfl (fun _ => rfl)) ?_
      refine wpo_mv (a := ((eL 1 eI) x0.L)) rfl rfl rfl (o_ld tk rfl rfl) ?_
      refine wpo_mv (a := (eI c2)) rfl rfl rfl (o_mv tk rfl (Wk.refl _)) ?_
      refine wpo_bd H16 (fun y => .fptr (eI y).cells 0) rfl rfl rfl (fun v18 hv => o_ixa tk hv td59 (enc_i64 td3 sz3) rfl rfl) fun v18 hv18 H17 => ?_
      refine wpo_mv (a := (eI v18)) rfl rfl rfl (o_ld_e tk (enc_i64 td3 sz3) rfl rfl) ?_
      refine wpo_mv (a := (eI x1)) rfl rfl rfl (o_mv tk rfl (Wk.refl _)) ?_
      refine wpo_lt H17 eB rfl rfl rfl (o_ar tk rfl rfl rfl) fun v20 H19 => ?_
      refine wpo_nil ?_
      refine awp_if H19 rfl (fun H21 => ?_) (fun H21 => ?_)
      · refine awp_region rfl ?_
        refine wpo_mv (a := (eI c1)) rfl rfl rfl (o_mv tk rfl (Wk.refl _)) ?_
        refine wpo_lt H21 eI rfl rfl rfl (o_ar tk rfl rfl rfl) fun v23 H22 => ?_
        refine wpo_mv (a := (eI v23)) rfl rfl rfl (o_as tk rfl (Wk.refl _)) ?_
        refine wpo_nil ?_
        refine awp_region rfl ?_
        refine wpo_mv (a := (eI c2)) rfl rfl rfl (o_mv tk rfl (Wk.refl _)) ?_
        refine wpo_lt H22 eI rfl rfl rfl (o_ar tk rfl rfl rfl) fun v25 H24 => ?_
        refine wpo_mv (a := (eI v25)) rfl rfl rfl (o_as tk rfl (Wk.refl _)) ?_
        refine wpo_nil ?_
        exact ⟨(v23, v25), inj_inl H24, (wkf_cons (.of_eq rfl) (wkf_cons (.of_eq rfl) (wkf_cons (.of_eq rfl) (wkf_cons (.of_eq rfl) (wkf_nil _))))), hH⟩
      · refine awp_skip ?_
        refine awp_region rfl ?_
        refine wpo_mv (a := (eI c2)) rfl rfl rfl (o_mv tk rfl (Wk.refl _)) ?_
        refine wpo_lt H21 eI rfl rfl rfl (o_ar tk rfl rfl rfl) fun v27 H26 => ?_
        refine wpo_mv (a := (eI v27)) rfl rfl rfl (o_as tk rfl (Wk.refl _)) ?_
        refine wpo_nil ?_
        exact ⟨(c1, v27), inj_inl H26, (wkf_cons (.of_eq rfl) (wkf_cons (.of_eq rfl) (wkf_cons (.of_eq rfl) (wkf_cons (.of_eq rfl) (wkf_nil _))))), hH⟩
    · refine awp_exit ?_
      have hz := hy9 _ (inj_inr H16)
      subst hz
      exact ⟨⟨_, inj_inr H16⟩, (wkf_cons (.of_eq rfl) (wkf_nil _)), hH⟩
end Go.Proofs.YthjabhcbkbchjaaDoor
namespace Go.Proofs.YthjabhcbkbchjaaDoor
open Go Go.Va
set_option linter.unusedVariables false
set_option linter.unusedSimpArgs false
set_option maxRecDepth 20000
theorem butteryref08_Class_ok {x0 : Int} {r : Int} (H : butteryref08_Class x0 = some r) (σ : St)  : ACall Tryd.prog 13 [(eI x0)] σ (fun a τ => a = eI r ∧ τ = σ) := by
  unfold butteryref08_Class at H
  refine ACall.pure (acall_start tk Tryd.func13 (by decide) rfl (Nat.le_of_ble_eq_true rfl) ?_)
  have hH := Holds.init σ
  refine awp_seq ?_
  refine awp_region rfl ?_
  refine wpo_mv (a := (eI (0 : Int))) rfl rfl rfl (o_as tk rfl (Wk.refl _)) ?_
  refine wpo_nil ?_
  refine awp_seq ?_
  refine awp_seq ?_
  refine awp_region rfl ?_
  refine wpo_mv (a := (eI (0 : Int))) rfl rfl rfl (o_as tk rfl (Wk.refl _)) ?_
  refine wpo_nil ?_
  refine awp_block ?_
  obtain ⟨o2, hs3, hj4⟩ := Option.bind_eq_some_iff.1 H
  refine awp_cutx 0 (fun fr τ => ∃ s9 : Unit, o2 = .inl s9 ∧ WkF fr (fm []) ∧ Holds σ [] [] τ) ?_ ?_
  · rintro fr τ ⟨s9, rfl, hfr, hH⟩
    have H30 := hj4
    simp only [Sum.elim_inl] at H30
    refine AWP.fm [] hfr ?_
    refine awp_seq ?_
    refine awp_region rfl ?_
    refine wpo_mv (a := (eI (-1 : Int))) rfl rfl rfl (o_as tk rfl (Wk.refl _)) ?_
    refine wpo_nil ?_
    refine awp_ret ?_
    obtain rfl := Option.some.inj H30
    exact ⟨_, (eI (-1 : Int)), rfl, (.of_eq rfl), .of_eq ((enc_i64 td3 sz3).cut _ _ _), hH.noT⟩
  · refine awp_loopO (body := fun s => butteryref08_Class_b0 x0 s) hs3 (fun (s : Int) fr τ => WkF fr (fm [(0, (eI x0)), (3, (eI s))]) ∧ Holds σ [] [] τ) ⟨(wkf_cons (.of_eq rfl) (wkf_cons (.of_eq rfl) (wkf_nil _))), hH⟩ ?_
    rintro c1 fr τ y5 ⟨hfr, hH⟩ hb7 hy8
    have H10 : butteryref08_Class_b0 x0 c1 = some y5 := hb7
    unfold butteryref08_Class_b0 at H10
    refine AWP.fm [(0, (eI x0)), (3, (eI c1))] hfr ?_
    have hH : Holds σ [] [] τ := hH
    refine awp_seq ?_
    refine awp_seq ?_
    obtain ⟨s11, hs13, hj14⟩ := Option.bind_eq_some_iff.1 H10
    refine awp_cutn (fun fr τ => WkF fr (fm [(0, (eI x0)), (3, (eI c1)), (9, (eB s11))]) ∧ Holds σ [] [] τ) ?_ ?_
    · rintro fr τ ⟨hfr, hH⟩
      have H20 := hj14
      refine AWP.fm [(0, (eI x0)), (3, (eI c1)), (9, (eB s11))] hfr ?_
      refine awp_if H20 rfl (fun H21 => ?_) (fun H21 => ?_)
      · refine awp_skip ?_
        refine awp_seq ?_
        refine awp_block ?_
        refine awp_seq ?_
        refine awp_region rfl ?_
        refine wpo_mv (a := (eI x0)) rfl rfl rfl (o_mv tk rfl (Wk.refl _)) ?_
        refine wpo_mv (a := (eI c1)) rfl rfl rfl (o_mv tk rfl (Wk.refl _)) ?_
        refine wpo_bd H21 eI rfl rfl rfl (fun v23 hv => OpP.of_call rfl rfl (.cons (.of_eq rfl) .nil) (butteryref08_Size_ok hv)) fun v23 hv23 H22 => ?_
        refine wpo_lt H22 eB rfl rfl rfl (o_ar tk rfl rfl rfl) fun v25 H24 => ?_
        refine wpo_nil ?_
        refine awp_if H24 rfl (fun H26 => ?_) (fun H26 => ?_)
        · refine awp_seq ?_
          refine awp_region rfl ?_
          refine wpo_mv (a := (eI c1)) rfl rfl rfl (o_mv tk rfl (Wk.refl _)) ?_
          refine wpo_mv (a := (eI c1)) rfl rfl rfl (o_as tk rfl (Wk.refl _)) ?_
          refine wpo_nil ?_
          refine awp_ret ?_
          have hz := hy8 _ (inj_inr H26)
          refine ⟨⟨_, inj_inr H26⟩, ?_⟩
          rw [← hz] at hj4
          have H27 := (show some _ = some _ from hj4)
          obtain rfl := Option.some.inj H27
          exact ⟨_, (eI c1), rfl, (.of_eq rfl), .of_eq ((enc_i64 td3 sz3).cut _ _ _), hH.noT⟩
        · refine awp_skip ?_
          refine awp_region rfl ?_
          refine wpo_mv (a := (eI c1)) rfl rfl rfl (o_mv tk rfl (Wk.refl _)) ?_
          refine wpo_lt H26 eI rfl rfl rfl (o_ar tk rfl rfl rfl) fun v29 H28 => ?_
          refine wpo_mv (a := (eI v29)) rfl rfl rfl (o_as tk rfl (Wk.refl _)) ?_
          refine wpo_nil ?_
          exact ⟨v29, inj_inl H28, (wkf_cons (.of_eq rfl) (wkf_cons (.of_eq rfl) (wkf_nil _))), hH⟩
      · refine awp_exit ?_
        have hz := hy8 _ (inj_inr H21)
        exact ⟨⟨_, inj_inr H21⟩, (), hz.symm, (wkf_nil _), hH⟩
    · refine awp_region rfl ?_
      refine wpo_mv (a := (eI c1)) rfl rfl rfl (o_mv tk rfl (Wk.refl _)) ?_
      refine wpo_lt hs13 eB rfl rfl rfl (o_ar tk rfl rfl rfl) fun v16 H15 => ?_
      refine wpo_mv (a := (eB v16)) rfl rfl rfl (o_mv tk rfl (Wk.refl _)) ?_
      refine if_split H15 (fun hb H17 => ?_) (fun hb H17 => ?_)
      · subst hb
        refine wpo_mv (a := (eI x0)) rfl rfl rfl (o_mv tk rfl (Wk.refl _)) ?_
        refine wpo_lt H17 eB rfl rfl rfl (o_ar tk rfl rfl rfl) fun v19 H18 => ?_
        refine wpo_mv (a := (eB v19)) rfl rfl rfl (o_pick_t tk rfl rfl (Wk.refl _)) ?_
        refine wpo_nil ?_
        have e := Option.some.inj H18
        subst e
        exact ⟨(wkf_cons (.of_eq rfl) (wkf_cons (.of_eq rfl) (wkf_cons (.of_eq rfl) (wkf_nil _)))), hH⟩
      · subst hb
        refine wpo_skip rfl rfl rfl ?_
        refine wpo_skip rfl rfl rfl ?_
        refine wpo_mv (a := (eB false)) rfl rfl rfl (o_pick_f tk rfl rfl (Wk.refl _)) ?_
        refine wpo_nil ?_
        have e := Option.some.inj H17
        subst e
        exact ⟨(wkf_cons (.of_eq rfl) (wkf_cons (.of_eq rfl) (wkf_cons (.of_eq rfl) (wkf_nil _)))), hH⟩
end Go.Proofs.YthjabhcbkbchjaaDoor
namespace Go.Proofs.YthjabhcbkbchjaaDoor
open Go Go.Va
set_option linter.unusedVariables false
set_option linter.unusedSimpArgs false
set_option maxRecDepth 20000
theorem butteryref08_Fits_ok {x0 : butteryref08_Budget} {x1 : Int} {r : Bool} (H : butteryref08_Fits x0 x1 = some r) (σ : St)  : ACall Tryd.prog 41 [(e_butteryref08_Budget x0), (eI x1)] σ (fun a τ => a = eB r ∧ τ = σ) := by
  unfold butteryref08_Fits at H
  refine ACall.pure (acall_start tk Tryd.func41 (by decide) rfl (Nat.le_of_ble_eq_true rfl) ?_)
  have hH := Holds.init σ
  refine awp_seq ?_
  refine awp_region rfl ?_
  refine wpo_mv (a := (.fptr (c_butteryref08_Budget x0) 0)) rfl rfl rfl (o_boxf tk rfl (.of_eq rfl) (b := (e_butteryref08_Budget x0)) (enc61.flat _)) ?_
  refine wpo_mv (a := (eB false)) rfl rfl rfl (o_as tk rfl (Wk.refl _)) ?_
  refine wpo_nil ?_
  refine awp_seq ?_
  refine awp_drawS mixed [] rfl (by decide +kernel) rfl rfl ?_
  refine wpdS_mv (a := (eI x1)) rfl rfl rfl (o_mv tk rfl (Wk.refl _)) ?_
  refine wpdS_bd H eI rfl rfl rfl (fun v2 hv => OpP.of_call rfl rfl (.cons (.of_eq rfl) .nil) (butteryref08_Class_ok hv)) fun v2 hv2 H1 => ?_
  refine wpdS_lt H1 eB rfl rfl rfl (o_ar tk rfl rfl rfl) fun v4 H3 => ?_
  refine wpdS_mv (a := (eB v4)) rfl rfl rfl (o_mv tk rfl (Wk.refl _)) ?_
  refine if_split H3 (fun hb H5 => ?_) (fun hb H5 => ?_)
  · subst hb
    refine wpdS_mv (a := (eI x1)) rfl rfl rfl (o_mv tk rfl (Wk.refl _)) ?_
    refine wpdS_bd H5 eI rfl rfl rfl (fun v7 hv => OpP.of_call rfl rfl (.cons (.of_eq rfl) .nil) (butteryref08_Class_ok hv)) fun v7 hv7 H6 => ?_
    refine wpdS_bd H6 eI rfl rfl rfl (fun v9 hv => OpP.of_call rfl rfl (.cons (.of_eq rfl) .nil) (butteryref08_Size_ok hv)) fun v9 hv9 H8 => ?_
    refine wpdS_mv (a := (.fptr (c_butteryref08_Budget x0) 0)) rfl rfl rfl (o_c tk false rfl (fun _ => rfl)) ?_
    refine wpdS_mv (a := (eI x0.Limit)) rfl rfl rfl (o_ld tk rfl rfl) ?_
    refine wpdS_lt H8 eB rfl rfl rfl (o_ar tk rfl rfl rfl) fun v11 H10 => ?_
    refine wpdS_mv (a := (eB v11)) rfl rfl rfl (o_pick_t tk rfl rfl (Wk.refl _)) ?_
    refine wpdS_mv (a := (eB v11)) rfl rfl rfl (o_as tk rfl (Wk.refl _)) ?_
    refine wpdS_nil ?_
    refine awp_ret ?_
    obtain rfl := Option.some.inj H10
    exact ⟨_, (eB v11), rfl, (.of_eq rfl), .of_eq ((enc_b td4 sz4).cut _ _ _), hH.noT⟩
  · subst hb
    refine wpdS_skip rfl rfl rfl ?_
    refine wpdS_skip rfl rfl rfl ?_
    refine wpdS_skip rfl rfl rfl ?_
    refine wpdS_skip rfl rfl rfl ?_
    refine wpdS_skip rfl rfl rfl ?_
    refine wpdS_skip rfl rfl rfl ?_
    refine wpdS_mv (a := (eB false)) rfl rfl rfl (o_pick_f tk rfl rfl (Wk.refl _)) ?_
    refine wpdS_mv (a := (eB false)) rfl rfl rfl (o_as tk rfl (Wk.refl _)) ?_
    refine wpdS_nil ?_
    refine awp_ret ?_
    obtain rfl := Option.some.inj H5
    exact ⟨_, (eB false), rfl, (.of_eq rfl), .of_eq ((enc_b td4 sz4).cut _ _ _), hH.noT⟩
end Go.Proofs.YthjabhcbkbchjaaDoor
