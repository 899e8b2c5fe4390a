/- NEVER MORE THAN THERE IS: whatever is taken and given back, what is taken is never below 0, nor above the limit, and it is what all classes take together. (part 4 of 5) -/
import Derived.Test.YtjaaepnejihbkaaDoorKSlabBounds3
import Derived.ChangeSame
import Derived.ChangeVars
import Derived.JoinedOf
import Derived.LaidHandle
import Derived.LaidLaws
import Derived.RowKit
import Derived.RowKitTokens
import Derived.Stop.Joined
import Derived.Test.YtjaaepnejihbkaaDoorRows
namespace Go.Proofs.YtjaaepnejihbkaaDoor
open Go Go.Va
set_option linter.unusedVariables false
set_option linter.unusedSimpArgs false
set_option maxRecDepth 20000
theorem butterylaw08_works_ok  {r : Bool} (H : butterylaw08_works = some r) (σ : St)  (hg : σ.gl = gls) : ACall Tryd.prog 14 [] σ (fun a τ => a = eB r ∧ τ = σ) := by
  unfold butterylaw08_works at H
  refine ACall.pure (acall_start tk Tryd.func14 (by decide) rfl (Nat.le_of_ble_eq_true rfl) ?_)
  have hH := Holds.init σ
  refine awp_seq ?_
  refine awp_region rfl ?_
  refine wpo_mv (a := (eB false)) rfl rfl rfl (o_as tk rfl (Wk.refl _)) ?_
  refine wpo_nil ?_
  refine awp_seq ?_
  refine awp_region rfl ?_
  obtain ⟨v2, hvv2, H1⟩ := Option.bind_eq_some_iff.1 H
  rcases hz6 : v2.1 with _ | c3
  · rw [hz6, Option.elim_none] at H1
    refine wpo_a (av := fun _ => .tup [.nilp, (eErr v2.2)]) rfl rfl rfl (h_callno0 hH hz6 rfl rfl (.cons (.of_eq rfl) .nil) (slab_New_ok hvv2 _)) fun _ τ hH => ?_
    refine wpo_mv (a := (.tup [.nilp, (eErr v2.2)])) rfl rfl rfl (o_mv tk rfl (Wk.refl _)) ?_
    refine wpo_mv (a := .nilp) rfl rfl rfl (o_ext tk rfl rfl) ?_
    refine wpo_mv (a := (eErr v2.2)) rfl rfl rfl (o_ext tk rfl rfl) ?_
    refine wpo_mv (a := .nilp) rfl rfl rfl (o_as tk rfl (Wk.refl _)) ?_
    refine wpo_mv (a := (eErr v2.2)) rfl rfl rfl (o_as tk rfl (Wk.refl _)) ?_
    refine wpo_nil ?_
    refine awp_seq ?_
    refine awp_region rfl ?_
    obtain ⟨v8, hvv8, H7⟩ := Option.bind_eq_some_iff.1 H1
    rcases hz12 : v8.1 with _ | c9
    · rw [hz12, Option.elim_none] at H7
      refine wpo_a (av := fun _ => .tup [.nilp, (eErr v8.2)]) rfl rfl rfl (h_callno0 hH hz12 rfl rfl (.cons (.of_eq rfl) .nil) (slab_New_ok hvv8 _)) fun _ τ hH => ?_
      refine wpo_mv (a := (.tup [.nilp, (eErr v8.2)])) rfl rfl rfl (o_mv tk rfl (Wk.refl _)) ?_
      refine wpo_mv (a := .nilp) rfl rfl rfl (o_ext tk rfl rfl) ?_
      refine wpo_mv (a := (eErr v8.2)) rfl rfl rfl (o_ext tk rfl rfl) ?_
      refine wpo_mv (a := .nilp) rfl rfl rfl (o_as tk rfl (Wk.refl _)) ?_
      refine wpo_mv (a := (eErr v8.2)) rfl rfl rfl (o_as tk rfl (Wk.refl _)) ?_
      refine wpo_nil ?_
      refine awp_seq ?_
      refine awp_seq ?_
      refine awp_region rfl ?_
      refine wpo_mv (a := .nilp) rfl rfl rfl (o_mv tk rfl (Wk.refl _)) ?_
      refine wpo_mv (a := (eB true)) rfl rfl rfl (o_c tk false rfl (fun _ => rfl)) ?_
      refine wpo_mv (a := (eB true)) rfl rfl rfl (o_mv tk rfl (Wk.refl _)) ?_
      refine wpo_skip rfl rfl rfl ?_
      refine wpo_skip rfl rfl rfl ?_
      refine wpo_mv (a := (eB true)) rfl rfl rfl (o_pick_t tk rfl rfl (Wk.refl _)) ?_
      refine wpo_nil ?_
      refine awp_true rfl ?_
      refine awp_seq ?_
      refine awp_region rfl ?_
      refine wpo_mv (a := (eB false)) rfl rfl rfl (o_as tk rfl (Wk.refl _)) ?_
      refine wpo_nil ?_
      refine awp_ret ?_
      obtain rfl := Option.some.inj H7
      exact ⟨_, (eB false), rfl, (.of_eq rfl), .of_eq ((enc_b td4 sz4).cut _ _ _), hH.noT⟩
    · rw [hz12, Option.elim_some] at H7
      refine wpo_a (av := fun id => .tup [.ref id 0, (eErr v8.2)]) rfl rfl rfl (h_callno1 hH hz12 rfl rfl (.cons (.of_eq rfl) .nil) (slab_New_ok hvv8 _)) fun id10 τ ⟨hH, n11⟩ => ?_
      refine wpo_mv (a := (.tup [(.ref id10 0), (eErr v8.2)])) rfl rfl rfl (o_mv tk rfl (Wk.refl _)) ?_
      refine wpo_mv (a := (.ref id10 0)) rfl rfl rfl (o_ext tk rfl rfl) ?_
      refine wpo_mv (a := (eErr v8.2)) rfl rfl rfl (o_ext tk rfl rfl) ?_
      refine wpo_mv (a := (.ref id10 0)) rfl rfl rfl (o_as tk rfl (Wk.refl _)) ?_
      refine wpo_mv (a := (eErr v8.2)) rfl rfl rfl (o_as tk rfl (Wk.refl _)) ?_
      refine wpo_nil ?_
      refine awp_seq ?_
      refine awp_seq ?_
      refine awp_region rfl ?_
      refine wpo_mv (a := .nilp) rfl rfl rfl (o_mv tk rfl (Wk.refl _)) ?_
      refine wpo_mv (a := (eB true)) rfl rfl rfl (o_c tk false rfl (fun _ => rfl)) ?_
      refine wpo_mv (a := (eB true)) rfl rfl rfl (o_mv tk rfl (Wk.refl _)) ?_
      refine wpo_skip rfl rfl rfl ?_
      refine wpo_skip rfl rfl rfl ?_
      refine wpo_mv (a := (eB true)) rfl rfl rfl (o_pick_t tk rfl rfl (Wk.refl _)) ?_
      refine wpo_nil ?_
      refine awp_true rfl ?_
      refine awp_seq ?_
      refine awp_region rfl ?_
      refine wpo_mv (a := (eB false)) rfl rfl rfl (o_as tk rfl (Wk.refl _)) ?_
      refine wpo_nil ?_
      refine awp_ret ?_
      obtain rfl := Option.some.inj H7
      exact ⟨_, (eB false), rfl, (.of_eq rfl), .of_eq ((enc_b td4 sz4).cut _ _ _), (hH.noT.drop n11)⟩
  · rw [hz6, Option.elim_some] at H1
    refine wpo_a (av := fun id => .tup [.ref id 0, (eErr v2.2)]) rfl rfl rfl (h_callno1 hH hz6 rfl rfl (.cons (.of_eq rfl) .nil) (slab_New_ok hvv2 _)) fun id4 τ ⟨hH, n5⟩ => ?_
    refine wpo_mv (a := (.tup [(.ref id4 0), (eErr v2.2)])) rfl rfl rfl (o_mv tk rfl (Wk.refl _)) ?_
    refine wpo_mv (a := (.ref id4 0)) rfl rfl rfl (o_ext tk rfl rfl) ?_
    refine wpo_mv (a := (eErr v2.2)) rfl rfl rfl (o_ext tk rfl rfl) ?_
    refine wpo_mv (a := (.ref id4 0)) rfl rfl rfl (o_as tk rfl (Wk.refl _)) ?_
    refine wpo_mv (a := (eErr v2.2)) rfl rfl rfl (o_as tk rfl (Wk.refl _)) ?_
    refine wpo_nil ?_
    refine awp_seq ?_
    refine awp_region rfl ?_
    obtain ⟨v14, hvv14, H13⟩ := Option.bind_eq_some_iff.1 H1
    rcases hz18 : v14.1 with _ | c15
    · rw [hz18, Option.elim_none] at H13
      refine wpo_a (av := fun _ => .tup [.nilp, (eErr v14.2)]) rfl rfl rfl (h_callno0 hH hz18 rfl rfl (.cons (.of_eq rfl) .nil) (slab_New_ok hvv14 _)) fun _ τ hH => ?_
      refine wpo_mv (a := (.tup [.nilp, (eErr v14.2)])) rfl rfl rfl (o_mv tk rfl (Wk.refl _)) ?_
      refine wpo_mv (a := .nilp) rfl rfl rfl (o_ext tk rfl rfl) ?_
      refine wpo_mv (a := (eErr v14.2)) rfl rfl rfl (o_ext tk rfl rfl) ?_
      refine wpo_mv (a := .nilp) rfl rfl rfl (o_as tk rfl (Wk.refl _)) ?_
      refine wpo_mv (a := (eErr v14.2)) rfl rfl rfl (o_as tk rfl (Wk.refl _)) ?_
      refine wpo_nil ?_
      refine awp_seq ?_
      refine awp_seq ?_
      refine awp_region rfl ?_
      refine wpo_mv (a := (.ref id4 0)) rfl rfl rfl (o_mv tk rfl (Wk.refl _)) ?_
      refine wpo_mv (a := (eB false)) rfl rfl rfl (o_c tk false rfl (fun _ => rfl)) ?_
      refine wpo_mv (a := (eB false)) rfl rfl rfl (o_mv tk rfl (Wk.refl _)) ?_
      refine wpo_mv (a := (eErr v2.2)) rfl rfl rfl (o_mv tk rfl (Wk.refl _)) ?_
      refine wpo_lt H13 eB rfl rfl rfl (o_err_neq tk rfl rfl rfl) fun v20 H19 => ?_
      refine wpo_mv (a := (eB v20)) rfl rfl rfl (o_pick_f tk rfl rfl (Wk.refl _)) ?_
      refine wpo_nil ?_
      refine awp_if H19 rfl (fun H21 => ?_) (fun H21 => ?_)
      · refine awp_seq ?_
        refine awp_region rfl ?_
        refine wpo_mv (a := (eB false)) rfl rfl rfl (o_as tk rfl (Wk.refl _)) ?_
        refine wpo_nil ?_
        refine awp_ret ?_
        obtain rfl := Option.some.inj H21
        exact ⟨_, (eB false), rfl, (.of_eq rfl), .of_eq ((enc_b td4 sz4).cut _ _ _), (hH.noT.drop n5)⟩
      · refine awp_skip ?_
        refine awp_seq ?_
        refine awp_region rfl ?_
        refine wpo_mv (a := (.ref id4 0)) rfl rfl rfl (o_mv tk rfl (Wk.refl _)) ?_
        refine wpo_cb H21 (fun x _ => eErr x.1) rfl rfl rfl (fun v23 hv => h_call1 hH [(0, (id4, (c_slab_Budget v23.2)))] ⟨⟨_, rfl⟩, trivial⟩ rfl rfl (.cons (.of_eq rfl) (.cons (.of_eq rfl) .nil)) (slab_Budget_Take_ok hv _ (hH.at_ 0 rfl))) fun v23 _ τ hv23 H22 hH => ?_
        refine wpo_mv (a := (eErr v23.1)) rfl rfl rfl (o_as tk rfl (Wk.refl _)) ?_
        refine wpo_nil ?_
        refine awp_seq ?_
        refine awp_region rfl ?_
        refine wpo_mv (a := (.ref id4 0)) rfl rfl rfl (o_mv tk rfl (Wk.refl _)) ?_
        refine wpo_cb H22 (fun x _ => eErr x.1) rfl rfl rfl (fun v25 hv => h_call1 hH [(0, (id4, (c_slab_Budget v25.2)))] ⟨⟨_, rfl⟩, trivial⟩ rfl rfl (.cons (.of_eq rfl) (.cons (.of_eq rfl) .nil)) (slab_Budget_Take_ok hv _ (hH.at_ 0 rfl))) fun v25 _ τ hv25 H24 hH => ?_
        refine wpo_mv (a := (eErr v25.1)) rfl rfl rfl (o_as tk rfl (Wk.refl _)) ?_
        refine wpo_nil ?_
        refine awp_seq ?_
        refine awp_region rfl ?_
        refine wpo_mv (a := (eErr v14.2)) rfl rfl rfl (o_mv tk rfl (Wk.refl _)) ?_
        refine wpo_bdr H24 eI rfl rfl rfl (fun v27 hv => h_callr rfl rfl (.cons (.of_eq rfl) .nil) (trouble_Of_ok hv _ (hH.gl.trans hg))) fun v27 hv27 H26 => ?_
        refine wpo_lt H26 eB rfl rfl rfl (o_ar tk rfl rfl rfl) fun v29 H28 => ?_
        refine wpo_mv (a := (eB v29)) rfl rfl rfl (o_mv tk rfl (Wk.refl _)) ?_
        refine if_split H28 (fun hb H30 => ?_) (fun hb H30 => ?_)
        · subst hb
          refine wpo_mv (a := (eErr v23.1)) rfl rfl rfl (o_mv tk rfl (Wk.refl _)) ?_
          refine wpo_lt H30 eB rfl rfl rfl (o_err_eql tk rfl rfl rfl) fun v32 H31 => ?_
          refine wpo_mv (a := (eB v32)) rfl rfl rfl (o_pick_t tk rfl rfl (Wk.refl _)) ?_
          refine wpo_mv (a := (eB v32)) rfl rfl rfl (o_mv tk rfl (Wk.refl _)) ?_
          refine if_split H31 (fun hb H33 => ?_) (fun hb H33 => ?_)
          · subst hb
            refine wpo_mv (a := (eErr v25.1)) rfl rfl rfl (o_mv tk rfl (Wk.refl _)) ?_
            refine wpo_bdr H33 eI rfl rfl rfl (fun v35 hv => h_callr rfl rfl (.cons (.of_eq rfl) .nil) (trouble_Of_ok hv _ (hH.gl.trans hg))) fun v35 hv35 H34 => ?_
            refine wpo_lt H34 eB rfl rfl rfl (o_ar tk rfl rfl rfl) fun v37 H36 => ?_
            refine wpo_mv (a := (eB v37)) rfl rfl rfl (o_pick_t tk rfl rfl (Wk.refl _)) ?_
            refine wpo_mv (a := (eB v37)) rfl rfl rfl (o_mv tk rfl (Wk.refl _)) ?_
            refine if_split H36 (fun hb H38 => ?_) (fun hb H38 => ?_)
            · subst hb
              refine wpo_mv (a := (.ref id4 0)) rfl rfl rfl (o_mv tk rfl (Wk.refl _)) ?_
              refine wpo_bdr H38 eI rfl rfl rfl (fun v40 hv => h_callr rfl rfl (.cons (.of_eq rfl) .nil) (slab_Budget_Used_ok hv _ (hH.at_ 0 rfl))) fun v40 hv40 H39 => ?_
              refine wpo_lt H39 eB rfl rfl rfl (o_ar tk rfl rfl rfl) fun v42 H41 => ?_
              refine wpo_mv (a := (eB v42)) rfl rfl rfl (o_pick_t tk rfl rfl (Wk.refl _)) ?_
              refine wpo_mv (a := (eB v42)) rfl rfl rfl (o_mv tk rfl (Wk.refl _)) ?_
              refine if_split H41 (fun hb H43 => ?_) (fun hb H43 => ?_)
              · subst hb
                refine wpo_mv (a := (.ref id4 0)) rfl rfl rfl (o_mv tk rfl (Wk.refl _)) ?_
                refine wpo_bdr H43 eI rfl rfl rfl (fun v45 hv => h_callr rfl rfl (.cons (.of_eq rfl) .nil) (slab_Budget_Left_ok hv _ (hH.at_ 0 rfl))) fun v45 hv45 H44 => ?_
                refine wpo_lt H44 eB rfl rfl rfl (o_ar tk rfl rfl rfl) fun v47 H46 => ?_
                refine wpo_mv (a := (eB v47)) rfl rfl rfl (o_pick_t tk rfl rfl (Wk.refl _)) ?_
                refine wpo_mv (a := (eB v47)) rfl rfl rfl (o_mv tk rfl (Wk.refl _)) ?_
                refine if_split H46 (fun hb H48 => ?_) (fun hb H48 => ?_)
                · subst hb
                  refine wpo_bd H48 eI rfl rfl rfl (fun v50 hv => OpP.of_call rfl rfl (.cons (.of_eq rfl) .nil) (slab_Class_ok hv)) fun v50 hv50 H49 => ?_
                  refine wpo_lt H49 eB rfl rfl rfl (o_ar tk rfl rfl rfl) fun v52 H51 => ?_
                  refine wpo_mv (a := (eB v52)) rfl rfl rfl (o_pick_t tk rfl rfl (Wk.refl _)) ?_
                  refine wpo_mv (a := (eB v52)) rfl rfl rfl (o_mv tk rfl (Wk.refl _)) ?_
                  refine if_split H51 (fun hb H53 => ?_) (fun hb H53 => ?_)
                  · subst hb
                    refine wpo_bd H53 eI rfl rfl rfl (fun v55 hv => OpP.of_call rfl rfl (.cons (.of_eq rfl) .nil) (slab_Size_ok hv)) fun v55 hv55 H54 => ?_
                    refine wpo_lt H54 eB rfl rfl rfl (o_ar tk rfl rfl rfl) fun v57 H56 => ?_
                    refine wpo_mv (a := (eB v57)) rfl rfl rfl (o_pick_t tk rfl rfl (Wk.refl _)) ?_
                    refine wpo_mv (a := (eB v57)) rfl rfl rfl (o_mv tk rfl (Wk.refl _)) ?_
                    refine if_split H56 (fun hb H58 => ?_) (fun hb H58 => ?_)
                    · subst hb
                      refine wpo_bd H58 eI rfl rfl rfl (fun v60 hv => OpP.of_call rfl rfl (.cons (.of_eq rfl) .nil) (slab_Class_ok hv)) fun v60 hv60 H59 => ?_
                      refine wpo_lt H59 eB rfl rfl rfl (o_ar tk rfl rfl rfl) fun v62 H61 => ?_
                      refine wpo_mv (a := (eB v62)) rfl rfl rfl (o_pick_t tk rfl rfl (Wk.refl _)) ?_
                      refine wpo_mv (a := (eB v62)) rfl rfl rfl (o_mv tk rfl (Wk.refl _)) ?_
                      refine if_split H61 (fun hb H63 => ?_) (fun hb H63 => ?_)
                      · subst hb
                        refine wpo_mv (a := (.ref id4 0)) rfl rfl rfl (o_mv tk rfl (Wk.refl _)) ?_
                        refine wpo_bdr H63 eB rfl rfl rfl (fun v65 hv => h_callr rfl rfl (.cons (.of_eq rfl) (.cons (.of_eq rfl) .nil)) (slab_Budget_Fits_ok hv _ (hH.at_ 0 rfl))) fun v65 hv65 H64 => ?_
                        refine wpo_mv (a := (eB v65)) rfl rfl rfl (o_pick_t tk rfl rfl (Wk.refl _)) ?_
                        refine wpo_mv (a := (eB v65)) rfl rfl rfl (o_mv tk rfl (Wk.refl _)) ?_
                        refine if_split H64 (fun hb H66 => ?_) (fun hb H66 => ?_)
                        · subst hb
                          refine wpo_mv (a := (.ref id4 0)) rfl rfl rfl (o_mv tk rfl (Wk.refl _)) ?_
                          refine wpo_bdr H66 eB rfl rfl rfl (fun v68 hv => h_callr rfl rfl (.cons (.of_eq rfl) (.cons (.of_eq rfl) .nil)) (slab_Budget_Fits_ok hv _ (hH.at_ 0 rfl))) fun v68 hv68 H67 => ?_
                          refine wpo_lt H67 eB rfl rfl rfl (o_un tk rfl rfl) fun v70 H69 => ?_
                          refine wpo_mv (a := (eB v70)) rfl rfl rfl (o_pick_t tk rfl rfl (Wk.refl _)) ?_
                          refine wpo_mv (a := (eB v70)) rfl rfl rfl (o_mv tk rfl (Wk.refl _)) ?_
                          refine if_split H69 (fun hb H71 => ?_) (fun hb H71 => ?_)
                          · subst hb
                            refine wpo_mv (a := (.ref id4 0)) rfl rfl rfl (o_mv tk rfl (Wk.refl _)) ?_
                            refine wpo_bdr H71 eI rfl rfl rfl (fun v73 hv => h_callr rfl rfl (.cons (.of_eq rfl) (.cons (.of_eq rfl) .nil)) (slab_Budget_Count_ok hv _ (hH.at_ 0 rfl))) fun v73 hv73 H72 => ?_
                            refine wpo_lt H72 eB rfl rfl rfl (o_ar tk rfl rfl rfl) fun v75 H74 => ?_
                            refine wpo_mv (a := (eB v75)) rfl rfl rfl (o_pick_t tk rfl rfl (Wk.refl _)) ?_
                            refine wpo_mv (a := (eB v75)) rfl rfl rfl (o_as tk rfl (Wk.refl _)) ?_
                            refine wpo_nil ?_
                            refine awp_ret ?_
                            obtain rfl := Option.some.inj H74
                            exact ⟨_, (eB v75), rfl, (.of_eq rfl), .of_eq ((enc_b td4 sz4).cut _ _ _), (hH.noT.drop n5)⟩
                          · subst hb
                            refine wpo_skip rfl rfl rfl ?_
                            refine wpo_skip rfl rfl rfl ?_
                            refine wpo_skip rfl rfl rfl ?_
                            refine wpo_mv (a := (eB false)) rfl rfl rfl (o_pick_f tk rfl rfl (Wk.refl _)) ?_
                            refine wpo_mv (a := (eB false)) rfl rfl rfl (o_as tk rfl (Wk.refl _)) ?_
                            refine wpo_nil ?_
                            refine awp_ret ?_
                            obtain rfl := Option.some.inj H71
                            exact ⟨_, (eB false), rfl, (.of_eq rfl), .of_eq ((enc_b td4 sz4).cut _ _ _), (hH.noT.drop n5)⟩
                        · subst hb
                          refine wpo_skip rfl rfl rfl ?_
                          refine wpo_skip rfl rfl rfl ?_
                          refine wpo_skip rfl rfl rfl ?_
                          refine wpo_mv (a := (eB false)) rfl rfl rfl (o_pick_f tk rfl rfl (Wk.refl _)) ?_
                          refine wpo_mv (a := (eB false)) rfl rfl rfl (o_mv tk rfl (Wk.refl _)) ?_
                          refine wpo_skip rfl rfl rfl ?_
                          refine wpo_skip rfl rfl rfl ?_
                          refine wpo_skip rfl rfl rfl ?_
                          refine wpo_mv (a := (eB false)) rfl rfl rfl (o_pick_f tk rfl rfl (Wk.refl _)) ?_
                          refine wpo_mv (a := (eB false)) rfl rfl rfl (o_as tk rfl (Wk.refl _)) ?_
                          refine wpo_nil ?_
                          refine awp_ret ?_
                          obtain rfl := Option.some.inj H66
                          exact ⟨_, (eB false), rfl, (.of_eq rfl), .of_eq ((enc_b td4 sz4).cut _ _ _), (hH.noT.drop n5)⟩
                      · subst hb
                        refine wpo_skip rfl rfl rfl ?_
                        refine wpo_skip rfl rfl rfl ?_
                        refine wpo_mv (a := (eB false)) rfl rfl rfl (o_pick_f tk rfl rfl (Wk.refl _)) ?_
                        refine wpo_mv (a := (eB false)) rfl rfl rfl (o_mv tk rfl (Wk.refl _)) ?_
                        refine wpo_skip rfl rfl rfl ?_
                        refine wpo_skip rfl rfl rfl ?_
                        refine wpo_skip rfl rfl rfl ?_
                        refine wpo_mv (a := (eB false)) rfl rfl rfl (o_pick_f tk rfl rfl (Wk.refl _)) ?_
                        refine wpo_mv (a := (eB false)) rfl rfl rfl (o_mv tk rfl (Wk.refl _)) ?_
                        refine wpo_skip rfl rfl rfl ?_
                        refine wpo_skip rfl rfl rfl ?_
                        refine wpo_skip rfl rfl rfl ?_
                        refine wpo_mv (a := (eB false)) rfl rfl rfl (o_pick_f tk rfl rfl (Wk.refl _)) ?_
                        refine wpo_mv (a := (eB false)) rfl rfl rfl (o_as tk rfl (Wk.refl _)) ?_
                        refine wpo_nil ?_
                        refine awp_ret ?_
                        obtain rfl := Option.some.inj H63
                        exact ⟨_, (eB false), rfl, (.of_eq rfl), .of_eq ((enc_b td4 sz4).cut _ _ _), (hH.noT.drop n5)⟩
                    · subst hb
                      refine wpo_skip rfl rfl rfl ?_
                      refine wpo_skip rfl rfl rfl ?_
                      refine wpo_mv (a := (eB false)) rfl rfl rfl (o_pick_f tk rfl rfl (Wk.refl _)) ?_
                      refine wpo_mv (a := (eB false)) rfl rfl rfl (o_mv tk rfl (Wk.refl _)) ?_
                      refine wpo_skip rfl rfl rfl ?_
                      refine wpo_skip rfl rfl rfl ?_
                      refine wpo_mv (a := (eB false)) rfl rfl rfl (o_pick_f tk rfl rfl (Wk.refl _)) ?_
                      refine wpo_mv (a := (eB false)) rfl rfl rfl (o_mv tk rfl (Wk.refl _)) ?_
                      refine wpo_skip rfl rfl rfl ?_
                      refine wpo_skip rfl rfl rfl ?_
                      refine wpo_skip rfl rfl rfl ?_
                      refine wpo_mv (a := (eB false)) rfl rfl rfl (o_pick_f tk rfl rfl (Wk.refl _)) ?_
                      refine wpo_mv (a := (eB false)) rfl rfl rfl (o_mv tk rfl (Wk.refl _)) ?_
                      refine wpo_skip rfl rfl rfl ?_
                      refine wpo_skip rfl rfl rfl ?_
                      refine wpo_skip rfl rfl rfl ?_
                      refine wpo_mv (a := (eB false)) rfl rfl rfl (o_pick_f tk rfl rfl (Wk.refl _)) ?_
                      refine wpo_mv (a := (eB false)) rfl rfl rfl (o_as tk rfl (Wk.refl _)) ?_
                      refine wpo_nil ?_
                      refine awp_ret ?_
                      obtain rfl := Option.some.inj H58
                      exact ⟨_, (eB false), rfl, (.of_eq rfl), .of_eq ((enc_b td4 sz4).cut _ _ _), (hH.noT.drop n5)⟩
                  · subst hb
                    refine wpo_skip rfl rfl rfl ?_
                    refine wpo_skip rfl rfl rfl ?_
                    refine wpo_mv (a := (eB false)) rfl rfl rfl (o_pick_f tk rfl rfl (Wk.refl _)) ?_
                    refine wpo_mv (a := (eB false)) rfl rfl rfl (o_mv tk rfl (Wk.refl _)) ?_
                    refine wpo_skip rfl rfl rfl ?_
                    refine wpo_skip rfl rfl rfl ?_
                    refine wpo_mv (a := (eB false)) rfl rfl rfl (o_pick_f tk rfl rfl (Wk.refl _)) ?_
                    refine wpo_mv (a := (eB false)) rfl rfl rfl (o_mv tk rfl (Wk.refl _)) ?_
                    refine wpo_skip rfl rfl rfl ?_
                    refine wpo_skip rfl rfl rfl ?_
                    refine wpo_mv (a := (eB false)) rfl rfl rfl (o_pick_f tk rfl rfl (Wk.refl _)) ?_
                    refine wpo_mv (a := (eB false)) rfl rfl rfl (o_mv tk rfl (Wk.refl _)) ?_
                    refine wpo_skip rfl rfl rfl ?_
                    refine wpo_skip rfl rfl rfl ?_
                    refine wpo_skip rfl rfl rfl ?_
                    refine wpo_mv (a := (eB false)) rfl rfl rfl (o_pick_f tk rfl rfl (Wk.refl _)) ?_
                    refine wpo_mv (a := (eB false)) rfl rfl rfl (o_mv tk rfl (Wk.refl _)) ?_
                    refine wpo_skip rfl rfl rfl ?_
                    refine wpo_skip rfl rfl rfl ?_
                    refine wpo_skip rfl rfl rfl ?_
                    refine wpo_mv (a := (eB false)) rfl rfl rfl (o_pick_f tk rfl rfl (Wk.refl _)) ?_
                    refine wpo_mv (a := (eB false)) rfl rfl rfl (o_as tk rfl (Wk.refl _)) ?_
                    refine wpo_nil ?_
                    refine awp_ret ?_
                    obtain rfl := Option.some.inj H53
                    exact ⟨_, (eB false), rfl, (.of_eq rfl), .of_eq ((enc_b td4 sz4).cut _ _ _), (hH.noT.drop n5)⟩
                · subst hb
                  refine wpo_skip rfl rfl rfl ?_
                  refine wpo_skip rfl rfl rfl ?_
                  refine wpo_mv (a := (eB false)) rfl rfl rfl (o_pick_f tk rfl rfl (Wk.refl _)) ?_
                  refine wpo_mv (a := (eB false)) rfl rfl rfl (o_mv tk rfl (Wk.refl _)) ?_
                  refine wpo_skip rfl rfl rfl ?_
                  refine wpo_skip rfl rfl rfl ?_
                  refine wpo_mv (a := (eB false)) rfl rfl rfl (o_pick_f tk rfl rfl (Wk.refl _)) ?_
                  refine wpo_mv (a := (eB false)) rfl rfl rfl (o_mv tk rfl (Wk.refl _)) ?_
                  refine wpo_skip rfl rfl rfl ?_
                  refine wpo_skip rfl rfl rfl ?_
                  refine wpo_mv (a := (eB false)) rfl rfl rfl (o_pick_f tk rfl rfl (Wk.refl _)) ?_
                  refine wpo_mv (a := (eB false)) rfl rfl rfl (o_mv tk rfl (Wk.refl _)) ?_
                  refine wpo_skip rfl rfl rfl ?_
                  refine wpo_skip rfl rfl rfl ?_
                  refine wpo_mv (a := (eB false)) rfl rfl rfl (o_pick_f tk rfl rfl (Wk.refl _)) ?_
                  refine wpo_mv (a := (eB false)) rfl rfl rfl (o_mv tk rfl (Wk.refl _)) ?_
                  refine wpo_skip rfl rfl rfl ?_
                  refine wpo_skip rfl rfl rfl ?_
                  refine wpo_skip rfl rfl rfl ?_
                  refine wpo_mv (a := (eB false)) rfl rfl rfl (o_pick_f tk rfl rfl (Wk.refl _)) ?_
                  refine wpo_mv (a := (eB false)) rfl rfl rfl (o_mv tk rfl (Wk.refl _)) ?_
                  refine wpo_skip rfl rfl rfl ?_
                  refine wpo_skip rfl rfl rfl ?_
                  refine wpo_skip rfl rfl rfl ?_
                  refine wpo_mv (a := (eB false)) rfl rfl rfl (o_pick_f tk rfl rfl (Wk.refl _)) ?_
                  refine wpo_mv (a := (eB false)) rfl rfl rfl (o_as tk rfl (Wk.refl _)) ?_
                  refine wpo_nil ?_
                  refine awp_ret ?_
                  obtain rfl := Option.some.inj H48
                  exact ⟨_, (eB false), rfl, (.of_eq rfl), .of_eq ((enc_b td4 sz4).cut _ _ _), (hH.noT.drop n5)⟩
              · subst hb
                refine wpo_skip rfl rfl rfl ?_
                refine wpo_skip rfl rfl rfl ?_
                refine wpo_skip rfl rfl rfl ?_
                refine wpo_mv (a := (eB false)) rfl rfl rfl (o_pick_f tk rfl rfl (Wk.refl _)) ?_
                refine wpo_mv (a := (eB false)) rfl rfl rfl (o_mv tk rfl (Wk.refl _)) ?_
                refine wpo_skip rfl rfl rfl ?_
                refine wpo_skip rfl rfl rfl ?_
                refine wpo_mv (a := (eB false)) rfl rfl rfl (o_pick_f tk rfl rfl (Wk.refl _)) ?_
                refine wpo_mv (a := (eB false)) rfl rfl rfl (o_mv tk rfl (Wk.refl _)) ?_
                refine wpo_skip rfl rfl rfl ?_
                refine wpo_skip rfl rfl rfl ?_
                refine wpo_mv (a := (eB false)) rfl rfl rfl (o_pick_f tk rfl rfl (Wk.refl _)) ?_
                refine wpo_mv (a := (eB false)) rfl rfl rfl (o_mv tk rfl (Wk.refl _)) ?_
                refine wpo_skip rfl rfl rfl ?_
                refine wpo_skip rfl rfl rfl ?_
                refine wpo_mv (a := (eB false)) rfl rfl rfl (o_pick_f tk rfl rfl (Wk.refl _)) ?_
                refine wpo_mv (a := (eB false)) rfl rfl rfl (o_mv tk rfl (Wk.refl _)) ?_
                refine wpo_skip rfl rfl rfl ?_
                refine wpo_skip rfl rfl rfl ?_
                refine wpo_mv (a := (eB false)) rfl rfl rfl (o_pick_f tk rfl rfl (Wk.refl _)) ?_
                refine wpo_mv (a := (eB false)) rfl rfl rfl (o_mv tk rfl (Wk.refl _)) ?_
                refine wpo_skip rfl rfl rfl ?_
                refine wpo_skip rfl rfl rfl ?_
                refine wpo_skip rfl rfl rfl ?_
                refine wpo_mv (a := (eB false)) rfl rfl rfl (o_pick_f tk rfl rfl (Wk.refl _)) ?_
                refine wpo_mv (a := (eB false)) rfl rfl rfl (o_mv tk rfl (Wk.refl _)) ?_
                refine wpo_skip rfl rfl rfl ?_
                refine wpo_skip rfl rfl rfl ?_
                refine wpo_skip rfl rfl rfl ?_
                refine wpo_mv (a := (eB false)) rfl rfl rfl (o_pick_f tk rfl rfl (Wk.refl _)) ?_
                refine wpo_mv (a := (eB false)) rfl rfl rfl (o_as tk rfl (Wk.refl _)) ?_
                refine wpo_nil ?_
                refine awp_ret ?_
                obtain rfl := Option.some.inj H43
                exact ⟨_, (eB false), rfl, (.of_eq rfl), .of_eq ((enc_b td4 sz4).cut _ _ _), (hH.noT.drop n5)⟩
            · subst hb
              refine wpo_skip rfl rfl rfl ?_
              refine wpo_skip rfl rfl rfl ?_
              refine wpo_skip rfl rfl rfl ?_
              refine wpo_mv (a := (eB false)) rfl rfl rfl (o_pick_f tk rfl rfl (Wk.refl _)) ?_
              refine wpo_mv (a := (eB false)) rfl rfl rfl (o_mv tk rfl (Wk.refl _)) ?_
              refine wpo_skip rfl rfl rfl ?_
              refine wpo_skip rfl rfl rfl ?_
              refine wpo_skip rfl rfl rfl ?_
              refine wpo_mv (a := (eB false)) rfl rfl rfl (o_pick_f tk rfl rfl (Wk.refl _)) ?_
              refine wpo_mv (a := (eB false)) rfl rfl rfl (o_mv tk rfl (Wk.refl _)) ?_
              refine wpo_skip rfl rfl rfl ?_
              refine wpo_skip rfl rfl rfl ?_
              refine wpo_mv (a := (eB false)) rfl rfl rfl (o_pick_f tk rfl rfl (Wk.refl _)) ?_
              refine wpo_mv (a := (eB false)) rfl rfl rfl (o_mv tk rfl (Wk.refl _)) ?_
              refine wpo_skip rfl rfl rfl ?_
              refine wpo_skip rfl rfl rfl ?_
              refine wpo_mv (a := (eB false)) rfl rfl rfl (o_pick_f tk rfl rfl (Wk.refl _)) ?_
              refine wpo_mv (a := (eB false)) rfl rfl rfl (o_mv tk rfl (Wk.refl _)) ?_
              refine wpo_skip rfl rfl rfl ?_
              refine wpo_skip rfl rfl rfl ?_
              refine wpo_mv (a := (eB false)) rfl rfl rfl (o_pick_f tk rfl rfl (Wk.refl _)) ?_
              refine wpo_mv (a := (eB false)) rfl rfl rfl (o_mv tk rfl (Wk.refl _)) ?_
              refine wpo_skip rfl rfl rfl ?_
              refine wpo_skip rfl rfl rfl ?_
              refine wpo_mv (a := (eB false)) rfl rfl rfl (o_pick_f tk rfl rfl (Wk.refl _)) ?_
              refine wpo_mv (a := (eB false)) rfl rfl rfl (o_mv tk rfl (Wk.refl _)) ?_
              refine wpo_skip rfl rfl rfl ?_
              refine wpo_skip rfl rfl rfl ?_
              refine wpo_skip rfl rfl rfl ?_
              refine wpo_mv (a := (eB false)) rfl rfl rfl (o_pick_f tk rfl rfl (Wk.refl _)) ?_
              refine wpo_mv (a := (eB false)) rfl rfl rfl (o_mv tk rfl (Wk.refl _)) ?_
              refine wpo_skip rfl rfl rfl ?_
              refine wpo_skip rfl rfl rfl ?_
              refine wpo_skip rfl rfl rfl ?_
              refine wpo_mv (a := (eB false)) rfl rfl rfl (o_pick_f tk rfl rfl (Wk.refl _)) ?_
              refine wpo_mv (a := (eB false)) rfl rfl rfl (o_as tk rfl (Wk.refl _)) ?_
              refine wpo_nil ?_
              refine awp_ret ?_
              obtain rfl := Option.some.inj H38
              exact ⟨_, (eB false), rfl, (.of_eq rfl), .of_eq ((enc_b td4 sz4).cut _ _ _), (hH.noT.drop n5)⟩
          · subst hb
            refine wpo_skip rfl rfl rfl ?_
            refine wpo_skip rfl rfl rfl ?_
            refine wpo_skip rfl rfl rfl ?_
            refine wpo_mv (a := (eB false)) rfl rfl rfl (o_pick_f tk rfl rfl (Wk.refl _)) ?_
            refine wpo_mv (a := (eB false)) rfl rfl rfl (o_mv tk rfl (Wk.refl _)) ?_
            refine wpo_skip rfl rfl rfl ?_
            refine wpo_skip rfl rfl rfl ?_
            refine wpo_skip rfl rfl rfl ?_
            refine wpo_mv (a := (eB false)) rfl rfl rfl (o_pick_f tk rfl rfl (Wk.refl _)) ?_
            refine wpo_mv (a := (eB false)) rfl rfl rfl (o_mv tk rfl (Wk.refl _)) ?_
            refine wpo_skip rfl rfl rfl ?_
            refine wpo_skip rfl rfl rfl ?_
            refine wpo_skip rfl rfl rfl ?_
            refine wpo_mv (a := (eB false)) rfl rfl rfl (o_pick_f tk rfl rfl (Wk.refl _)) ?_
            refine wpo_mv (a := (eB false)) rfl rfl rfl (o_mv tk rfl (Wk.refl _)) ?_
            refine wpo_skip rfl rfl rfl ?_
            refine wpo_skip rfl rfl rfl ?_
            refine wpo_mv (a := (eB false)) rfl rfl rfl (o_pick_f tk rfl rfl (Wk.refl _)) ?_
            refine wpo_mv (a := (eB false)) rfl rfl rfl (o_mv tk rfl (Wk.refl _)) ?_
            refine wpo_skip rfl rfl rfl ?_
            refine wpo_skip rfl rfl rfl ?_
            refine wpo_mv (a := (eB false)) rfl rfl rfl (o_pick_f tk rfl rfl (Wk.refl _)) ?_
            refine wpo_mv (a := (eB false)) rfl rfl rfl (o_mv tk rfl (Wk.refl _)) ?_
            refine wpo_skip rfl rfl rfl ?_
            refine wpo_skip rfl rfl rfl ?_
            refine wpo_mv (a := (eB false)) rfl rfl rfl (o_pick_f tk rfl rfl (Wk.refl _)) ?_
            refine wpo_mv (a := (eB false)) rfl rfl rfl (o_mv tk rfl (Wk.refl _)) ?_
            refine wpo_skip rfl rfl rfl ?_
            refine wpo_skip rfl rfl rfl ?_
            refine wpo_mv (a := (eB false)) rfl rfl rfl (o_pick_f tk rfl rfl (Wk.refl _)) ?_
            refine wpo_mv (a := (eB false)) rfl rfl rfl (o_mv tk rfl (Wk.refl _)) ?_
            refine wpo_skip rfl rfl rfl ?_
            refine wpo_skip rfl rfl rfl ?_
            refine wpo_skip rfl rfl rfl ?_
            refine wpo_mv (a := (eB false)) rfl rfl rfl (o_pick_f tk rfl rfl (Wk.refl _)) ?_
            refine wpo_mv (a := (eB false)) rfl rfl rfl (o_mv tk rfl (Wk.refl _)) ?_
            refine wpo_skip rfl rfl rfl ?_
            refine wpo_skip rfl rfl rfl ?_
            refine wpo_skip rfl rfl rfl ?_
            refine wpo_mv (a := (eB false)) rfl rfl rfl (o_pick_f tk rfl rfl (Wk.refl _)) ?_
            refine wpo_mv (a := (eB false)) rfl rfl rfl (o_as tk rfl (Wk.refl _)) ?_
            refine wpo_nil ?_
            refine awp_ret ?_
            obtain rfl := Option.some.inj H33
            exact ⟨_, (eB false), rfl, (.of_eq rfl), .of_eq ((enc_b td4 sz4).cut _ _ _), (hH.noT.drop n5)⟩
        · subst hb
          refine wpo_skip rfl rfl rfl ?_
          refine wpo_skip rfl rfl rfl ?_
          refine wpo_mv (a := (eB false)) rfl rfl rfl (o_pick_f tk rfl rfl (Wk.refl _)) ?_
          refine wpo_mv (a := (eB false)) rfl rfl rfl (o_mv tk rfl (Wk.refl _)) ?_
          refine wpo_skip rfl rfl rfl ?_
          refine wpo_skip rfl rfl rfl ?_
          refine wpo_skip rfl rfl rfl ?_
          refine wpo_mv (a := (eB false)) rfl rfl rfl (o_pick_f tk rfl rfl (Wk.refl _)) ?_
          refine wpo_mv (a := (eB false)) rfl rfl rfl (o_mv tk rfl (Wk.refl _)) ?_
          refine wpo_skip rfl rfl rfl ?_
          refine wpo_skip rfl rfl rfl ?_
          refine wpo_skip rfl rfl rfl ?_
          refine wpo_mv (a := (eB false)) rfl rfl rfl (o_pick_f tk rfl rfl (Wk.refl _)) ?_
          refine wpo_mv (a := (eB false)) rfl rfl rfl (o_mv tk rfl (Wk.refl _)) ?_
          refine wpo_skip rfl rfl rfl ?_
          refine wpo_skip rfl rfl rfl ?_
          refine wpo_skip rfl rfl rfl ?_
          refine wpo_mv (a := (eB false)) rfl rfl rfl (o_pick_f tk rfl rfl (Wk.refl _)) ?_
          refine wpo_mv (a := (eB false)) rfl rfl rfl (o_mv tk rfl (Wk.refl _)) ?_
          refine wpo_skip rfl rfl rfl ?_
          refine wpo_skip rfl rfl rfl ?_
          refine wpo_mv (a := (eB false)) rfl rfl rfl (o_pick_f tk rfl rfl (Wk.refl _)) ?_
          refine wpo_mv (a := (eB false)) rfl rfl rfl (o_mv tk rfl (Wk.refl _)) ?_
          refine wpo_skip rfl rfl rfl ?_
          refine wpo_skip rfl rfl rfl ?_
          refine wpo_mv (a := (eB false)) rfl rfl rfl (o_pick_f tk rfl rfl (Wk.refl _)) ?_
          refine wpo_mv (a := (eB false)) rfl rfl rfl (o_mv tk rfl (Wk.refl _)) ?_
          refine wpo_skip rfl rfl rfl ?_
          refine wpo_skip rfl rfl rfl ?_
          refine wpo_mv (a := (eB false)) rfl rfl rfl (o_pick_f tk rfl rfl (Wk.refl _)) ?_
          refine wpo_mv (a := (eB false)) rfl rfl rfl (o_mv tk rfl (Wk.refl _)) ?_
          refine wpo_skip rfl rfl rfl ?_
          refine wpo_skip rfl rfl rfl ?_
          refine wpo_mv (a := (eB false)) rfl rfl rfl (o_pick_f tk rfl rfl (Wk.refl _)) ?_
          refine wpo_mv (a := (eB false)) rfl rfl rfl (o_mv tk rfl (Wk.refl _)) ?_
          refine wpo_skip rfl rfl rfl ?_
          refine wpo_skip rfl rfl rfl ?_
          refine wpo_skip rfl rfl rfl ?_
          refine wpo_mv (a := (eB false)) rfl rfl rfl (o_pick_f tk rfl rfl (Wk.refl _)) ?_
          refine wpo_mv (a := (eB false)) rfl rfl rfl (o_mv tk rfl (Wk.refl _)) ?_
          refine wpo_skip rfl rfl rfl ?_
          refine wpo_skip rfl rfl rfl ?_
          refine wpo_skip rfl rfl rfl ?_
          refine wpo_mv (a := (eB false)) rfl rfl rfl (o_pick_f tk rfl rfl (Wk.refl _)) ?_
          refine wpo_mv (a := (eB false)) rfl rfl rfl (o_as tk rfl (Wk.refl _)) ?_
          refine wpo_nil ?_
          refine awp_ret ?_
          obtain rfl := Option.some.inj H30
          exact ⟨_, (eB false), rfl, (.of_eq rfl), .of_eq ((enc_b td4 sz4).cut _ _ _), (hH.noT.drop n5)⟩
    · rw [hz18, Option.elim_some] at H13
      refine wpo_a (av := fun id => .tup [.ref id 0, (eErr v14.2)]) rfl rfl rfl (h_callno1 hH hz18 rfl rfl (.cons (.of_eq rfl) .nil) (slab_New_ok hvv14 _)) fun id16 τ ⟨hH, n17⟩ => ?_
      refine wpo_mv (a := (.tup [(.ref id16 0), (eErr v14.2)])) rfl rfl rfl (o_mv tk rfl (Wk.refl _)) ?_
      refine wpo_mv (a := (.ref id16 0)) rfl rfl rfl (o_ext tk rfl rfl) ?_
      refine wpo_mv (a := (eErr v14.2)) rfl rfl rfl (o_ext tk rfl rfl) ?_
      refine wpo_mv (a := (.ref id16 0)) rfl rfl rfl (o_as tk rfl (Wk.refl _)) ?_
      refine wpo_mv (a := (eErr v14.2)) rfl rfl rfl (o_as tk rfl (Wk.refl _)) ?_
      refine wpo_nil ?_
      refine awp_seq ?_
      refine awp_seq ?_
      refine awp_region rfl ?_
      refine wpo_mv (a := (.ref id4 0)) rfl rfl rfl (o_mv tk rfl (Wk.refl _)) ?_
      refine wpo_mv (a := (eB false)) rfl rfl rfl (o_c tk false rfl (fun _ => rfl)) ?_
      refine wpo_mv (a := (eB false)) rfl rfl rfl (o_mv tk rfl (Wk.refl _)) ?_
      refine wpo_mv (a := (eErr v2.2)) rfl rfl rfl (o_mv tk rfl (Wk.refl _)) ?_
      refine wpo_lt H13 eB rfl rfl rfl (o_err_neq tk rfl rfl rfl) fun v77 H76 => ?_
      refine wpo_mv (a := (eB v77)) rfl rfl rfl (o_pick_f tk rfl rfl (Wk.refl _)) ?_
      refine wpo_nil ?_
      refine awp_if H76 rfl (fun H78 => ?_) (fun H78 => ?_)
      · refine awp_seq ?_
        refine awp_region rfl ?_
        refine wpo_mv (a := (eB false)) rfl rfl rfl (o_as tk rfl (Wk.refl _)) ?_
        refine wpo_nil ?_
        refine awp_ret ?_
        obtain rfl := Option.some.inj H78
        exact ⟨_, (eB false), rfl, (.of_eq rfl), .of_eq ((enc_b td4 sz4).cut _ _ _), ((hH.noT.drop n17).drop n5)⟩
      · refine awp_skip ?_
        refine awp_seq ?_
        refine awp_region rfl ?_
        refine wpo_mv (a := (.ref id4 0)) rfl rfl rfl (o_mv tk rfl (Wk.refl _)) ?_
        refine wpo_cb H78 (fun x _ => eErr x.1) rfl rfl rfl (fun v80 hv => h_call1 hH [(1, (id4, (c_slab_Budget v80.2)))] ⟨⟨_, rfl⟩, trivial⟩ rfl rfl (.cons (.of_eq rfl) (.cons (.of_eq rfl) .nil)) (slab_Budget_Take_ok hv _ (hH.at_ 1 rfl))) fun v80 _ τ hv80 H79 hH => ?_
        refine wpo_mv (a := (eErr v80.1)) rfl rfl rfl (o_as tk rfl (Wk.refl _)) ?_
        refine wpo_nil ?_
        refine awp_seq ?_
        refine awp_region rfl ?_
        refine wpo_mv (a := (.ref id4 0)) rfl rfl rfl (o_mv tk rfl (Wk.refl _)) ?_
        refine wpo_cb H79 (fun x _ => eErr x.1) rfl rfl rfl (fun v82 hv => h_call1 hH [(1, (id4, (c_slab_Budget v82.2)))] ⟨⟨_, rfl⟩, trivial⟩ rfl rfl (.cons (.of_eq rfl) (.cons (.of_eq rfl) .nil)) (slab_Budget_Take_ok hv _ (hH.at_ 1 rfl))) fun v82 _ τ hv82 H81 hH => ?_
        refine wpo_mv (a := (eErr v82.1)) rfl rfl rfl (o_as tk rfl (Wk.refl _)) ?_
        refine wpo_nil ?_
        refine awp_seq ?_
        refine awp_region rfl ?_
        refine wpo_mv (a := (eErr v14.2)) rfl rfl rfl (o_mv tk rfl (Wk.refl _)) ?_
        refine wpo_bdr H81 eI rfl rfl rfl (fun v84 hv => h_callr rfl rfl (.cons (.of_eq rfl) .nil) (trouble_Of_ok hv _ (hH.gl.trans hg))) fun v84 hv84 H83 => ?_
        refine wpo_lt H83 eB rfl rfl rfl (o_ar tk rfl rfl rfl) fun v86 H85 => ?_
        refine wpo_mv (a := (eB v86)) rfl rfl rfl (o_mv tk rfl (Wk.refl _)) ?_
        refine if_split H85 (fun hb H87 => ?_) (fun hb H87 => ?_)
        · subst hb
          refine wpo_mv (a := (eErr v80.1)) rfl rfl rfl (o_mv tk rfl (Wk.refl _)) ?_
          refine wpo_lt H87 eB rfl rfl rfl (o_err_eql tk rfl rfl rfl) fun v89 H88 => ?_
          refine wpo_mv (a := (eB v89)) rfl rfl rfl (o_pick_t tk rfl rfl (Wk.refl _)) ?_
          refine wpo_mv (a := (eB v89)) rfl rfl rfl (o_mv tk rfl (Wk.refl _)) ?_
          refine if_split H88 (fun hb H90 => ?_) (fun hb H90 => ?_)
          · subst hb
            refine wpo_mv (a := (eErr v82.1)) rfl rfl rfl (o_mv tk rfl (Wk.refl _)) ?_
            refine wpo_bdr H90 eI rfl rfl rfl (fun v92 hv => h_callr rfl rfl (.cons (.of_eq rfl) .nil) (trouble_Of_ok hv _ (hH.gl.trans hg))) fun v92 hv92 H91 => ?_
            refine wpo_lt H91 eB rfl rfl rfl (o_ar tk rfl rfl rfl) fun v94 H93 => ?_
            refine wpo_mv (a := (eB v94)) rfl rfl rfl (o_pick_t tk rfl rfl (Wk.refl _)) ?_
            refine wpo_mv (a := (eB v94)) rfl rfl rfl (o_mv tk rfl (Wk.refl _)) ?_
            refine if_split H93 (fun hb H95 => ?_) (fun hb H95 => ?_)
            · subst hb
              refine wpo_mv (a := (.ref id4 0)) rfl rfl rfl (o_mv tk rfl (Wk.refl _)) ?_
              refine wpo_bdr H95 eI rfl rfl rfl (fun v97 hv => h_callr rfl rfl (.cons (.of_eq rfl) .nil) (slab_Budget_Used_ok hv _ (hH.at_ 1 rfl))) fun v97 hv97 H96 => ?_
              refine wpo_lt H96 eB rfl rfl rfl (o_ar tk rfl rfl rfl) fun v99 H98 => ?_
              refine wpo_mv (a := (eB v99)) rfl rfl rfl (o_pick_t tk rfl rfl (Wk.refl _)) ?_
              refine wpo_mv (a := (eB v99)) rfl rfl rfl (o_mv tk rfl (Wk.refl _)) ?_
              refine if_split H98 (fun hb H100 => ?_) (fun hb H100 => ?_)
              · subst hb
                refine wpo_mv (a := (.ref id4 0)) rfl rfl rfl (o_mv tk rfl (Wk.refl _)) ?_
                refine wpo_bdr H100 eI rfl rfl rfl (fun v102 hv => h_callr rfl rfl (.cons (.of_eq rfl) .nil) (slab_Budget_Left_ok hv _ (hH.at_ 1 rfl))) fun v102 hv102 H101 => ?_
                refine wpo_lt H101 eB rfl rfl rfl (o_ar tk rfl rfl rfl) fun v104 H103 => ?_
                refine wpo_mv (a := (eB v104)) rfl rfl rfl (o_pick_t tk rfl rfl (Wk.refl _)) ?_
                refine wpo_mv (a := (eB v104)) rfl rfl rfl (o_mv tk rfl (Wk.refl _)) ?_
                refine if_split H103 (fun hb H105 => ?_) (fun hb H105 => ?_)
                · subst hb
                  refine wpo_bd H105 eI rfl rfl rfl (fun v107 hv => OpP.of_call rfl rfl (.cons (.of_eq rfl) .nil) (slab_Class_ok hv)) fun v107 hv107 H106 => ?_
                  refine wpo_lt H106 eB rfl rfl rfl (o_ar tk rfl rfl rfl) fun v109 H108 => ?_
                  refine wpo_mv (a := (eB v109)) rfl rfl rfl (o_pick_t tk rfl rfl (Wk.refl _)) ?_
                  refine wpo_mv (a := (eB v109)) rfl rfl rfl (o_mv tk rfl (Wk.refl _)) ?_
                  refine if_split H108 (fun hb H110 => ?_) (fun hb H110 => ?_)
                  · subst hb
                    refine wpo_bd H110 eI rfl rfl rfl (fun v112 hv => OpP.of_call rfl rfl (.cons (.of_eq rfl) .nil) (slab_Size_ok hv)) fun v112 hv112 H111 => ?_
                    refine wpo_lt H111 eB rfl rfl rfl (o_ar tk rfl rfl rfl) fun v114 H113 => ?_
                    refine wpo_mv (a := (eB v114)) rfl rfl rfl (o_pick_t tk rfl rfl (Wk.refl _)) ?_
                    refine wpo_mv (a := (eB v114)) rfl rfl rfl (o_mv tk rfl (Wk.refl _)) ?_
                    refine if_split H113 (fun hb H115 => ?_) (fun hb H115 => ?_)
                    · subst hb
                      refine wpo_bd H115 eI rfl rfl rfl (fun v117 hv => OpP.of_call rfl rfl (.cons (.of_eq rfl) .nil) (slab_Class_ok hv)) fun v117 hv117 H116 => ?_
                      refine wpo_lt H116 eB rfl rfl rfl (o_ar tk rfl rfl rfl) fun v119 H118 => ?_
                      refine wpo_mv (a := (eB v119)) rfl rfl rfl (o_pick_t tk rfl rfl (Wk.refl _)) ?_
                      refine wpo_mv (a := (eB v119)) rfl rfl rfl (o_mv tk rfl (Wk.refl _)) ?_
                      refine if_split H118 (fun hb H120 => ?_) (fun hb H120 => ?_)
                      · subst hb
                        refine wpo_mv (a := (.ref id4 0)) rfl rfl rfl (o_mv tk rfl (Wk.refl _)) ?_
                        refine wpo_bdr H120 eB rfl rfl rfl (fun v122 hv => h_callr rfl rfl (.cons (.of_eq rfl) (.cons (.of_eq rfl) .nil)) (slab_Budget_Fits_ok hv _ (hH.at_ 1 rfl))) fun v122 hv122 H121 => ?_
                        refine wpo_mv (a := (eB v122)) rfl rfl rfl (o_pick_t tk rfl rfl (Wk.refl _)) ?_
                        refine wpo_mv (a := (eB v122)) rfl rfl rfl (o_mv tk rfl (Wk.refl _)) ?_
                        refine if_split H121 (fun hb H123 => ?_) (fun hb H123 => ?_)
                        · subst hb
                          refine wpo_mv (a := (.ref id4 0)) rfl rfl rfl (o_mv tk rfl (Wk.refl _)) ?_
                          refine wpo_bdr H123 eB rfl rfl rfl (fun v125 hv => h_callr rfl rfl (.cons (.of_eq rfl) (.cons (.of_eq rfl) .nil)) (slab_Budget_Fits_ok hv _ (hH.at_ 1 rfl))) fun v125 hv125 H124 => ?_
                          refine wpo_lt H124 eB rfl rfl rfl (o_un tk rfl rfl) fun v127 H126 => ?_
                          refine wpo_mv (a := (eB v127)) rfl rfl rfl (o_pick_t tk rfl rfl (Wk.refl _)) ?_
                          refine wpo_mv (a := (eB v127)) rfl rfl rfl (o_mv tk rfl (Wk.refl _)) ?_
                          refine if_split H126 (fun hb H128 => ?_) (fun hb H128 => ?_)
                          · subst hb
                            refine wpo_mv (a := (.ref id4 0)) rfl rfl rfl (o_mv tk rfl (Wk.refl _)) ?_
                            refine wpo_bdr H128 eI rfl rfl rfl (fun v130 hv => h_callr rfl rfl (.cons (.of_eq rfl) (.cons (.of_eq rfl) .nil)) (slab_Budget_Count_ok hv _ (hH.at_ 1 rfl))) fun v130 hv130 H129 => ?_
                            refine wpo_lt H129 eB rfl rfl rfl (o_ar tk rfl rfl rfl) fun v132 H131 => ?_
                            refine wpo_mv (a := (eB v132)) rfl rfl rfl (o_pick_t tk rfl rfl (Wk.refl _)) ?_
                            refine wpo_mv (a := (eB v132)) rfl rfl rfl (o_as tk rfl (Wk.refl _)) ?_
                            refine wpo_nil ?_
                            refine awp_ret ?_
                            obtain rfl := Option.some.inj H131
                            exact ⟨_, (eB v132), rfl, (.of_eq rfl), .of_eq ((enc_b td4 sz4).cut _ _ _), ((hH.noT.drop n17).drop n5)⟩
                          · subst hb
                            refine wpo_skip rfl rfl rfl ?_
                            refine wpo_skip rfl rfl rfl ?_
                            refine wpo_skip rfl rfl rfl ?_
                            refine wpo_mv (a := (eB false)) rfl rfl rfl (o_pick_f tk rfl rfl (Wk.refl _)) ?_
                            refine wpo_mv (a := (eB false)) rfl rfl rfl (o_as tk rfl (Wk.refl _)) ?_
                            refine wpo_nil ?_
                            refine awp_ret ?_
                            obtain rfl := Option.some.inj H128
                            exact ⟨_, (eB false), rfl, (.of_eq rfl), .of_eq ((enc_b td4 sz4).cut _ _ _), ((hH.noT.drop n17).drop n5)⟩
                        · subst hb
                          refine wpo_skip rfl rfl rfl ?_
                          refine wpo_skip rfl rfl rfl ?_
                          refine wpo_skip rfl rfl rfl ?_
                          refine wpo_mv (a := (eB false)) rfl rfl rfl (o_pick_f tk rfl rfl (Wk.refl _)) ?_
                          refine wpo_mv (a := (eB false)) rfl rfl rfl (o_mv tk rfl (Wk.refl _)) ?_
                          refine wpo_skip rfl rfl rfl ?_
                          refine wpo_skip rfl rfl rfl ?_
                          refine wpo_skip rfl rfl rfl ?_
                          refine wpo_mv (a := (eB false)) rfl rfl rfl (o_pick_f tk rfl rfl (Wk.refl _)) ?_
                          refine wpo_mv (a := (eB false)) rfl rfl rfl (o_as tk rfl (Wk.refl _)) ?_
                          refine wpo_nil ?_
                          refine awp_ret ?_
                          obtain rfl := Option.some.inj H123
                          exact ⟨_, (eB false), rfl, (.of_eq rfl), .of_eq ((enc_b td4 sz4).cut _ _ _), ((hH.noT.drop n17).drop n5)⟩
                      · subst hb
                        refine wpo_skip rfl rfl rfl ?_
                        refine wpo_skip rfl rfl rfl ?_
                        refine wpo_mv (a := (eB false)) rfl rfl rfl (o_pick_f tk rfl rfl (Wk.refl _)) ?_
                        refine wpo_mv (a := (eB false)) rfl rfl rfl (o_mv tk rfl (Wk.refl _)) ?_
                        refine wpo_skip rfl rfl rfl ?_
                        refine wpo_skip rfl rfl rfl ?_
                        refine wpo_skip rfl rfl rfl ?_
                        refine wpo_mv (a := (eB false)) rfl rfl rfl (o_pick_f tk rfl rfl (Wk.refl _)) ?_
                        refine wpo_mv (a := (eB false)) rfl rfl rfl (o_mv tk rfl (Wk.refl _)) ?_
                        refine wpo_skip rfl rfl rfl ?_
                        refine wpo_skip rfl rfl rfl ?_
                        refine wpo_skip rfl rfl rfl ?_
                        refine wpo_mv (a := (eB false)) rfl rfl rfl (o_pick_f tk rfl rfl (Wk.refl _)) ?_
                        refine wpo_mv (a := (eB false)) rfl rfl rfl (o_as tk rfl (Wk.refl _)) ?_
                        refine wpo_nil ?_
                        refine awp_ret ?_
                        obtain rfl := Option.some.inj H120
                        exact ⟨_, (eB false), rfl, (.of_eq rfl), .of_eq ((enc_b td4 sz4).cut _ _ _), ((hH.noT.drop n17).drop n5)⟩
                    · subst hb
                      refine wpo_skip rfl rfl rfl ?_
                      refine wpo_skip rfl rfl rfl ?_
                      refine wpo_mv (a := (eB false)) rfl rfl rfl (o_pick_f tk rfl rfl (Wk.refl _)) ?_
                      refine wpo_mv (a := (eB false)) rfl rfl rfl (o_mv tk rfl (Wk.refl _)) ?_
                      refine wpo_skip rfl rfl rfl ?_
                      refine wpo_skip rfl rfl rfl ?_
                      refine wpo_mv (a := (eB false)) rfl rfl rfl (o_pick_f tk rfl rfl (Wk.refl _)) ?_
                      refine wpo_mv (a := (eB false)) rfl rfl rfl (o_mv tk rfl (Wk.refl _)) ?_
                      refine wpo_skip rfl rfl rfl ?_
                      refine wpo_skip rfl rfl rfl ?_
                      refine wpo_skip rfl rfl rfl ?_
                      refine wpo_mv (a := (eB false)) rfl rfl rfl (o_pick_f tk rfl rfl (Wk.refl _)) ?_
                      refine wpo_mv (a := (eB false)) rfl rfl rfl (o_mv tk rfl (Wk.refl _)) ?_
                      refine wpo_skip rfl rfl rfl ?_
                      refine wpo_skip rfl rfl rfl ?_
                      refine wpo_skip rfl rfl rfl ?_
                      refine wpo_mv (a := (eB false)) rfl rfl rfl (o_pick_f tk rfl rfl (Wk.refl _)) ?_
                      refine wpo_mv (a := (eB false)) rfl rfl rfl (o_as tk rfl (Wk.refl _)) ?_
                      refine wpo_nil ?_
                      refine awp_ret ?_
                      obtain rfl := Option.some.inj H115
                      exact ⟨_, (eB false), rfl, (.of_eq rfl), .of_eq ((enc_b td4 sz4).cut _ _ _), ((hH.noT.drop n17).drop n5)⟩
                  · subst hb
                    refine wpo_skip rfl rfl rfl ?_
                    refine wpo_skip rfl rfl rfl ?_
                    refine wpo_mv (a := (eB false)) rfl rfl rfl (o_pick_f tk rfl rfl (Wk.refl _)) ?_
                    refine wpo_mv (a := (eB false)) rfl rfl rfl (o_mv tk rfl (Wk.refl _)) ?_
                    refine wpo_skip rfl rfl rfl ?_
                    refine wpo_skip rfl rfl rfl ?_
                    refine wpo_mv (a := (eB false)) rfl rfl rfl (o_pick_f tk rfl rfl (Wk.refl _)) ?_
                    refine wpo_mv (a := (eB false)) rfl rfl rfl (o_mv tk rfl (Wk.refl _)) ?_
                    refine wpo_skip rfl rfl rfl ?_
                    refine wpo_skip rfl rfl rfl ?_
                    refine wpo_mv (a := (eB false)) rfl rfl rfl (o_pick_f tk rfl rfl (Wk.refl _)) ?_
                    refine wpo_mv (a := (eB false)) rfl rfl rfl (o_mv tk rfl (Wk.refl _)) ?_
                    refine wpo_skip rfl rfl rfl ?_
                    refine wpo_skip rfl rfl rfl ?_
                    refine wpo_skip rfl rfl rfl ?_
                    refine wpo_mv (a := (eB false)) rfl rfl rfl (o_pick_f tk rfl rfl (Wk.refl _)) ?_
                    refine wpo_mv (a := (eB false)) rfl rfl rfl (o_mv tk rfl (Wk.refl _)) ?_
                    refine wpo_skip rfl rfl rfl ?_
                    refine wpo_skip rfl rfl rfl ?_
                    refine wpo_skip rfl rfl rfl ?_
                    refine wpo_mv (a := (eB false)) rfl rfl rfl (o_pick_f tk rfl rfl (Wk.refl _)) ?_
                    refine wpo_mv (a := (eB false)) rfl rfl rfl (o_as tk rfl (Wk.refl _)) ?_
                    refine wpo_nil ?_
                    refine awp_ret ?_
                    obtain rfl := Option.some.inj H110
                    exact ⟨_, (eB false), rfl, (.of_eq rfl), .of_eq ((enc_b td4 sz4).cut _ _ _), ((hH.noT.drop n17).drop n5)⟩
                · subst hb
                  refine wpo_skip rfl rfl rfl ?_
                  refine wpo_skip rfl rfl rfl ?_
                  refine wpo_mv (a := (eB false)) rfl rfl rfl (o_pick_f tk rfl rfl (Wk.refl _)) ?_
                  refine wpo_mv (a := (eB false)) rfl rfl rfl (o_mv tk rfl (Wk.refl _)) ?_
                  refine wpo_skip rfl rfl rfl ?_
                  refine wpo_skip rfl rfl rfl ?_
                  refine wpo_mv (a := (eB false)) rfl rfl rfl (o_pick_f tk rfl rfl (Wk.refl _)) ?_
                  refine wpo_mv (a := (eB false)) rfl rfl rfl (o_mv tk rfl (Wk.refl _)) ?_
                  refine wpo_skip rfl rfl rfl ?_
                  refine wpo_skip rfl rfl rfl ?_
                  refine wpo_mv (a := (eB false)) rfl rfl rfl (o_pick_f tk rfl rfl (Wk.refl _)) ?_
                  refine wpo_mv (a := (eB false)) rfl rfl rfl (o_mv tk rfl (Wk.refl _)) ?_
                  refine wpo_skip rfl rfl rfl ?_
                  refine wpo_skip rfl rfl rfl ?_
                  refine wpo_mv (a := (eB false)) rfl rfl rfl (o_pick_f tk rfl rfl (Wk.refl _)) ?_
                  refine wpo_mv (a := (eB false)) rfl rfl rfl (o_mv tk rfl (Wk.refl _)) ?_
                  refine wpo_skip rfl rfl rfl ?_
                  refine wpo_skip rfl rfl rfl ?_
                  refine wpo_skip rfl rfl rfl ?_
                  refine wpo_mv (a := (eB false)) rfl rfl rfl (o_pick_f tk rfl rfl (Wk.refl _)) ?_
                  refine wpo_mv (a := (eB false)) rfl rfl rfl (o_mv tk rfl (Wk.refl _)) ?_
                  refine wpo_skip rfl rfl rfl ?_
                  refine wpo_skip rfl rfl rfl ?_
                  refine wpo_skip rfl rfl rfl ?_
                  refine wpo_mv (a := (eB false)) rfl rfl rfl (o_pick_f tk rfl rfl (Wk.refl _)) ?_
                  refine wpo_mv (a := (eB false)) rfl rfl rfl (o_as tk rfl (Wk.refl _)) ?_
                  refine wpo_nil ?_
                  refine awp_ret ?_
                  obtain rfl := Option.some.inj H105
                  exact ⟨_, (eB false), rfl, (.of_eq rfl), .of_eq ((enc_b td4 sz4).cut _ _ _), ((hH.noT.drop n17).drop n5)⟩
              · subst hb
                refine wpo_skip rfl rfl rfl ?_
                refine wpo_skip rfl rfl rfl ?_
                refine wpo_skip rfl rfl rfl ?_
                refine wpo_mv (a := (eB false)) rfl rfl rfl (o_pick_f tk rfl rfl (Wk.refl _)) ?_
                refine wpo_mv (a := (eB false)) rfl rfl rfl (o_mv tk rfl (Wk.refl _)) ?_
                refine wpo_skip rfl rfl rfl ?_
                refine wpo_skip rfl rfl rfl ?_
                refine wpo_mv (a := (eB false)) rfl rfl rfl (o_pick_f tk rfl rfl (Wk.refl _)) ?_
                refine wpo_mv (a := (eB false)) rfl rfl rfl (o_mv tk rfl (Wk.refl _)) ?_
                refine wpo_skip rfl rfl rfl ?_
                refine wpo_skip rfl rfl rfl ?_
                refine wpo_mv (a := (eB false)) rfl rfl rfl (o_pick_f tk rfl rfl (Wk.refl _)) ?_
                refine wpo_mv (a := (eB false)) rfl rfl rfl (o_mv tk rfl (Wk.refl _)) ?_
                refine wpo_skip rfl rfl rfl ?_
                refine wpo_skip rfl rfl rfl ?_
                refine wpo_mv (a := (eB false)) rfl rfl rfl (o_pick_f tk rfl rfl (Wk.refl _)) ?_
                refine wpo_mv (a := (eB false)) rfl rfl rfl (o_mv tk rfl (Wk.refl _)) ?_
                refine wpo_skip rfl rfl rfl ?_
                refine wpo_skip rfl rfl rfl ?_
                refine wpo_mv (a := (eB false)) rfl rfl rfl (o_pick_f tk rfl rfl (Wk.refl _)) ?_
                refine wpo_mv (a := (eB false)) rfl rfl rfl (o_mv tk rfl (Wk.refl _)) ?_
                refine wpo_skip rfl rfl rfl ?_
                refine wpo_skip rfl rfl rfl ?_
                refine wpo_skip rfl rfl rfl ?_
                refine wpo_mv (a := (eB false)) rfl rfl rfl (o_pick_f tk rfl rfl (Wk.refl _)) ?_
                refine wpo_mv (a := (eB false)) rfl rfl rfl (o_mv tk rfl (Wk.refl _)) ?_
                refine wpo_skip rfl rfl rfl ?_
                refine wpo_skip rfl rfl rfl ?_
                refine wpo_skip rfl rfl rfl ?_
                refine wpo_mv (a := (eB false)) rfl rfl rfl (o_pick_f tk rfl rfl (Wk.refl _)) ?_
                refine wpo_mv (a := (eB false)) rfl rfl rfl (o_as tk rfl (Wk.refl _)) ?_
                refine wpo_nil ?_
                refine awp_ret ?_
                obtain rfl := Option.some.inj H100
                exact ⟨_, (eB false), rfl, (.of_eq rfl), .of_eq ((enc_b td4 sz4).cut _ _ _), ((hH.noT.drop n17).drop n5)⟩
            · subst hb
              refine wpo_skip rfl rfl rfl ?_
              refine wpo_skip rfl rfl rfl ?_
              refine wpo_skip rfl rfl rfl ?_
              refine wpo_mv (a := (eB false)) rfl rfl rfl (o_pick_f tk rfl rfl (Wk.refl _)) ?_
              refine wpo_mv (a := (eB false)) rfl rfl rfl (o_mv tk rfl (Wk.refl _)) ?_
              refine wpo_skip rfl rfl rfl ?_
              refine wpo_skip rfl rfl rfl ?_
              refine wpo_skip rfl rfl rfl ?_
              refine wpo_mv (a := (eB false)) rfl rfl rfl (o_pick_f tk rfl rfl (Wk.refl _)) ?_
              refine wpo_mv (a := (eB false)) rfl rfl rfl (o_mv tk rfl (Wk.refl _)) ?_
              refine wpo_skip rfl rfl rfl ?_
              refine wpo_skip rfl rfl rfl ?_
              refine wpo_mv (a := (eB false)) rfl rfl rfl (o_pick_f tk rfl rfl (Wk.refl _)) ?_
              refine wpo_mv (a := (eB false)) rfl rfl rfl (o_mv tk rfl (Wk.refl _)) ?_
              refine wpo_skip rfl rfl rfl ?_
              refine wpo_skip rfl rfl rfl ?_
              refine wpo_mv (a := (eB false)) rfl rfl rfl (o_pick_f tk rfl rfl (Wk.refl _)) ?_
              refine wpo_mv (a := (eB false)) rfl rfl rfl (o_mv tk rfl (Wk.refl _)) ?_
              refine wpo_skip rfl rfl rfl ?_
              refine wpo_skip rfl rfl rfl ?_
              refine wpo_mv (a := (eB false)) rfl rfl rfl (o_pick_f tk rfl rfl (Wk.refl _)) ?_
              refine wpo_mv (a := (eB false)) rfl rfl rfl (o_mv tk rfl (Wk.refl _)) ?_
              refine wpo_skip rfl rfl rfl ?_
              refine wpo_skip rfl rfl rfl ?_
              refine wpo_mv (a := (eB false)) rfl rfl rfl (o_pick_f tk rfl rfl (Wk.refl _)) ?_
              refine wpo_mv (a := (eB false)) rfl rfl rfl (o_mv tk rfl (Wk.refl _)) ?_
              refine wpo_skip rfl rfl rfl ?_
              refine wpo_skip rfl rfl rfl ?_
              refine wpo_skip rfl rfl rfl ?_
              refine wpo_mv (a := (eB false)) rfl rfl rfl (o_pick_f tk rfl rfl (Wk.refl _)) ?_
              refine wpo_mv (a := (eB false)) rfl rfl rfl (o_mv tk rfl (Wk.refl _)) ?_
              refine wpo_skip rfl rfl rfl ?_
              refine wpo_skip rfl rfl rfl ?_
              refine wpo_skip rfl rfl rfl ?_
              refine wpo_mv (a := (eB false)) rfl rfl rfl (o_pick_f tk rfl rfl (Wk.refl _)) ?_
              refine wpo_mv (a := (eB false)) rfl rfl rfl (o_as tk rfl (Wk.refl _)) ?_
              refine wpo_nil ?_
              refine awp_ret ?_
              obtain rfl := Option.some.inj H95
              exact ⟨_, (eB false), rfl, (.of_eq rfl), .of_eq ((enc_b td4 sz4).cut _ _ _), ((hH.noT.drop n17).drop n5)⟩
          · subst hb
            refine wpo_skip rfl rfl rfl ?_
            refine wpo_skip rfl rfl rfl ?_
            refine wpo_skip rfl rfl rfl ?_
            refine wpo_mv (a := (eB false)) rfl rfl rfl (o_pick_f tk rfl rfl (Wk.refl _)) ?_
            refine wpo_mv (a := (eB false)) rfl rfl rfl (o_mv tk rfl (Wk.refl _)) ?_
            refine wpo_skip rfl rfl rfl ?_
            refine wpo_skip rfl rfl rfl ?_
            refine wpo_skip rfl rfl rfl ?_
            refine wpo_mv (a := (eB false)) rfl rfl rfl (o_pick_f tk rfl rfl (Wk.refl _)) ?_
            refine wpo_mv (a := (eB false)) rfl rfl rfl (o_mv tk rfl (Wk.refl _)) ?_
            refine wpo_skip rfl rfl rfl ?_
            refine wpo_skip rfl rfl rfl ?_
            refine wpo_skip rfl rfl rfl ?_
            refine wpo_mv (a := (eB false)) rfl rfl rfl (o_pick_f tk rfl rfl (Wk.refl _)) ?_
            refine wpo_mv (a := (eB false)) rfl rfl rfl (o_mv tk rfl (Wk.refl _)) ?_
            refine wpo_skip rfl rfl rfl ?_
            refine wpo_skip rfl rfl rfl ?_
            refine wpo_mv (a := (eB false)) rfl rfl rfl (o_pick_f tk rfl rfl (Wk.refl _)) ?_
            refine wpo_mv (a := (eB false)) rfl rfl rfl (o_mv tk rfl (Wk.refl _)) ?_
            refine wpo_skip rfl rfl rfl ?_
            refine wpo_skip rfl rfl rfl ?_
            refine wpo_mv (a := (eB false)) rfl rfl rfl (o_pick_f tk rfl rfl (Wk.refl _)) ?_
            refine wpo_mv (a := (eB false)) rfl rfl rfl (o_mv tk rfl (Wk.refl _)) ?_
            refine wpo_skip rfl rfl rfl ?_
            refine wpo_skip rfl rfl rfl ?_
            refine wpo_mv (a := (eB false)) rfl rfl rfl (o_pick_f tk rfl rfl (Wk.refl _)) ?_
            refine wpo_mv (a := (eB false)) rfl rfl rfl (o_mv tk rfl (Wk.refl _)) ?_
            refine wpo_skip rfl rfl rfl ?_
            refine wpo_skip rfl rfl rfl ?_
            refine wpo_mv (a := (eB false)) rfl rfl rfl (o_pick_f tk rfl rfl (Wk.refl _)) ?_
            refine wpo_mv (a := (eB false)) rfl rfl rfl (o_mv tk rfl (Wk.refl _)) ?_
            refine wpo_skip rfl rfl rfl ?_
            refine wpo_skip rfl rfl rfl ?_
            refine wpo_skip rfl rfl rfl ?_
            refine wpo_mv (a := (eB false)) rfl rfl rfl (o_pick_f tk rfl rfl (Wk.refl _)) ?_
            refine wpo_mv (a := (eB false)) rfl rfl rfl (o_mv tk rfl (Wk.refl _)) ?_
            refine wpo_skip rfl rfl rfl ?_
            refine wpo_skip rfl rfl rfl ?_
            refine wpo_skip rfl rfl rfl ?_
            refine wpo_mv (a := (eB false)) rfl rfl rfl (o_pick_f tk rfl rfl (Wk.refl _)) ?_
            refine wpo_mv (a := (eB false)) rfl rfl rfl (o_as tk rfl (Wk.refl _)) ?_
            refine wpo_nil ?_
            refine awp_ret ?_
            obtain rfl := Option.some.inj H90
            exact ⟨_, (eB false), rfl, (.of_eq rfl), .of_eq ((enc_b td4 sz4).cut _ _ _), ((hH.noT.drop n17).drop n5)⟩
        · subst hb
          refine wpo_skip rfl rfl rfl ?_
          refine wpo_skip rfl rfl rfl ?_
          refine wpo_mv (a := (eB false)) rfl rfl rfl (o_pick_f tk rfl rfl (Wk.refl _)) ?_
          refine wpo_mv (a := (eB false)) rfl rfl rfl (o_mv tk rfl (Wk.refl _)) ?_
          refine wpo_skip rfl rfl rfl ?_
          refine wpo_skip rfl rfl rfl ?_
          refine wpo_skip rfl rfl rfl ?_
          refine wpo_mv (a := (eB false)) rfl rfl rfl (o_pick_f tk rfl rfl (Wk.refl _)) ?_
          refine wpo_mv (a := (eB false)) rfl rfl rfl (o_mv tk rfl (Wk.refl _)) ?_
          refine wpo_skip rfl rfl rfl ?_
          refine wpo_skip rfl rfl rfl ?_
          refine wpo_skip rfl rfl rfl ?_
          refine wpo_mv (a := (eB false)) rfl rfl rfl (o_pick_f tk rfl rfl (Wk.refl _)) ?_
          refine wpo_mv (a := (eB false)) rfl rfl rfl (o_mv tk rfl (Wk.refl _)) ?_
          refine wpo_skip rfl rfl rfl ?_
          refine wpo_skip rfl rfl rfl ?_
          refine wpo_skip rfl rfl rfl ?_
          refine wpo_mv (a := (eB false)) rfl rfl rfl (o_pick_f tk rfl rfl (Wk.refl _)) ?_
          refine wpo_mv (a := (eB false)) rfl rfl rfl (o_mv tk rfl (Wk.refl _)) ?_
          refine wpo_skip rfl rfl rfl ?_
          refine wpo_skip rfl rfl rfl ?_
          refine wpo_mv (a := (eB false)) rfl rfl rfl (o_pick_f tk rfl rfl (Wk.refl _)) ?_
          refine wpo_mv (a := (eB false)) rfl rfl rfl (o_mv tk rfl (Wk.refl _)) ?_
          refine wpo_skip rfl rfl rfl ?_
          refine wpo_skip rfl rfl rfl ?_
          refine wpo_mv (a := (eB false)) rfl rfl rfl (o_pick_f tk rfl rfl (Wk.refl _)) ?_
          refine wpo_mv (a := (eB false)) rfl rfl rfl (o_mv tk rfl (Wk.refl _)) ?_
          refine wpo_skip rfl rfl rfl ?_
          refine wpo_skip rfl rfl rfl ?_
          refine wpo_mv (a := (eB false)) rfl rfl rfl (o_pick_f tk rfl rfl (Wk.refl _)) ?_
          refine wpo_mv (a := (eB false)) rfl rfl rfl (o_mv tk rfl (Wk.refl _)) ?_
          refine wpo_skip rfl rfl rfl ?_
          refine wpo_skip rfl rfl rfl ?_
          refine wpo_mv (a := (eB false)) rfl rfl rfl (o_pick_f tk rfl rfl (Wk.refl _)) ?_
          refine wpo_mv (a := (eB false)) rfl rfl rfl (o_mv tk rfl (Wk.refl _)) ?_
          refine wpo_skip rfl rfl rfl ?_
          refine wpo_skip rfl rfl rfl ?_
          refine wpo_skip rfl rfl rfl ?_
          refine wpo_mv (a := (eB false)) rfl rfl rfl (o_pick_f tk rfl rfl (Wk.refl _)) ?_
          refine wpo_mv (a := (eB false)) rfl rfl rfl (o_mv tk rfl (Wk.refl _)) ?_
          refine wpo_skip rfl rfl rfl ?_
          refine wpo_skip rfl rfl rfl ?_
          refine wpo_skip rfl rfl rfl ?_
          refine wpo_mv (a := (eB false)) rfl rfl rfl (o_pick_f tk rfl rfl (Wk.refl _)) ?_
          refine wpo_mv (a := (eB false)) rfl rfl rfl (o_as tk rfl (Wk.refl _)) ?_
          refine wpo_nil ?_
          refine awp_ret ?_
          obtain rfl := Option.some.inj H87
          exact ⟨_, (eB false), rfl, (.of_eq rfl), .of_eq ((enc_b td4 sz4).cut _ _ _), ((hH.noT.drop n17).drop n5)⟩
end Go.Proofs.YtjaaepnejihbkaaDoor
namespace Go.Proofs.YtjaaepnejihbkaaDoor
open Go Go.Va
set_option linter.unusedVariables false
set_option linter.unusedSimpArgs false
set_option maxRecDepth 20000
theorem slab_Budget_Give_ok {x0 : slab_Budget} {x1 : Int} {r : Err × slab_Budget} (H : slab_Budget_Give x0 x1 = some r) (σ : St) {p0 : Nat} (h0 : σ.objs[p0]? = some (c_slab_Budget x0)) : ACall Tryd.prog 17 [(.ref p0 0), (eI x1)] σ (fun a τ => a = eErr r.1 ∧ τ = σ.puts [(p0, (c_slab_Budget r.2))]) := by
  unfold slab_Budget_Give at H
  refine ACall.out [(p0, (c_slab_Budget r.2))] (by simp only [List.mem_cons, List.not_mem_nil, or_false]; rintro _ (rfl) ρ κ <;> exact c_slab_Budget_cut ρ κ _) (acall_start tk Tryd.func17 (by decide) rfl (Nat.le_of_ble_eq_true rfl) ?_)
  have hH := Holds.init σ
  have hH := hH.bring h0 (fun _ h => by cases h)
  refine awp_seq ?_
  refine awp_region rfl ?_
  refine wpo_mv (a := (eErr Err.nil)) rfl rfl rfl (o_as tk rfl (Wk.refl _)) ?_
  refine wpo_nil ?_
  refine awp_seq ?_
  refine awp_region rfl ?_
  refine wpo_mv (a := (eI x1)) rfl rfl rfl (o_mv tk rfl (Wk.refl _)) ?_
  refine wpo_bd H eI rfl rfl rfl (fun v2 hv => OpP.of_call rfl rfl (.cons (.of_eq rfl) .nil) (slab_Size_ok hv)) fun v2 hv2 H1 => ?_
  refine wpo_mv (a := (eI v2)) rfl rfl rfl (o_as tk rfl (Wk.refl _)) ?_
  refine wpo_nil ?_
  refine awp_seq ?_
  refine awp_block ?_
  refine awp_seq ?_
  refine awp_region rfl ?_
  refine wpo_mv (a := (eI v2)) rfl rfl rfl (o_mv tk rfl (Wk.refl _)) ?_
  refine wpo_lt H1 eB rfl rfl rfl (o_ar tk rfl rfl rfl) fun v4 H3 => ?_
  refine wpo_mv (a := (eB v4)) rfl rfl rfl (o_as tk rfl (Wk.refl _)) ?_
  refine wpo_nil ?_
  refine awp_if H3 rfl (fun H5 => ?_) (fun H5 => ?_)
  · refine awp_seq ?_
    refine awp_region rfl ?_
    refine wpo_mv (a := (eI x1)) rfl rfl rfl (o_mv tk rfl (Wk.refl _)) ?_
    refine wpo_bd H5 eErr rfl rfl rfl (fun v7 hv => OpP.of_call rfl rfl (.cons (.of_eq rfl) (.cons (.of_eq rfl) (.cons (.of_eq rfl) .nil))) (trouble_New_ok hv)) fun v7 hv7 H6 => ?_
    refine wpo_mv (a := (eErr v7)) rfl rfl rfl (o_as tk rfl (Wk.refl _)) ?_
    refine wpo_nil ?_
    refine awp_ret ?_
    obtain rfl := Option.some.inj H6
    exact ⟨_, (eErr v7), rfl, (.of_eq rfl), .of_eq (encErr.cut _ _ _), hH.noT⟩
  · refine awp_seq ?_
    refine awp_region rfl ?_
    refine wpo_mv (a := (.ref p0 0)) rfl rfl rfl (o_mv tk rfl (Wk.refl _)) ?_
    refine wpo_mv (a := (eI x1)) rfl rfl rfl (o_mv tk rfl (Wk.refl _)) ?_
    refine wpo_mv (a := (.ref p0 0)) rfl rfl rfl (o_c tk false rfl (fun _ => rfl)) ?_
    refine wpo_mv (a := (.ref p0 2)) rfl rfl rfl (o_c tk false rfl (fun _ => rfl)) ?_
    refine wpo_bd H5 (fun _ => .ref p0 (2 + (x1 : Int).toNat * 1 + 0)) rfl rfl rfl (fun v9 hv => o_arrb tk hv td72 sz3 (by decide) rfl rfl) fun v9 hv9 H8 => ?_
    refine wpo_bdr H8 (fun y => eI y) rfl rfl rfl (fun v11 hv => h_ldb tk hH 0 hv rfl (sp_slab_Budget_count _) (al_slab_Budget_count _) (enc_i64 td3 sz3) (acut_enc (enc_i64 td3 sz3) rfl _) (by decide) rfl) fun v11 hv11 H10 => ?_
    refine wpo_lt H10 eB rfl rfl rfl (o_ar tk rfl rfl rfl) fun v13 H12 => ?_
    refine wpo_mv (a := (eB v13)) rfl rfl rfl (o_as tk rfl (Wk.refl _)) ?_
    refine wpo_nil ?_
    refine awp_if H12 rfl (fun H14 => ?_) (fun H14 => ?_)
    · refine awp_seq ?_
      refine awp_region rfl ?_
      refine wpo_mv (a := (eI x1)) rfl rfl rfl (o_mv tk rfl (Wk.refl _)) ?_
      refine wpo_bd H14 eErr rfl rfl rfl (fun v16 hv => OpP.of_call rfl rfl (.cons (.of_eq rfl) (.cons (.of_eq rfl) (.cons (.of_eq rfl) .nil))) (trouble_New_ok hv)) fun v16 hv16 H15 => ?_
      refine wpo_mv (a := (eErr v16)) rfl rfl rfl (o_as tk rfl (Wk.refl _)) ?_
      refine wpo_nil ?_
      refine awp_ret ?_
      obtain rfl := Option.some.inj H15
      exact ⟨_, (eErr v16), rfl, (.of_eq rfl), .of_eq (encErr.cut _ _ _), hH.noT⟩
    · refine awp_skip ?_
      refine awp_seq ?_
      refine awp_region rfl ?_
      refine wpo_mv (a := (.ref p0 0)) rfl rfl rfl (o_mv tk rfl (Wk.refl _)) ?_
      refine wpo_mv (a := (.ref p0 0)) rfl rfl rfl (o_c tk false rfl (fun _ => rfl)) ?_
      refine wpo_mv (a := (.ref p0 1)) rfl rfl rfl (o_c tk false rfl (fun _ => rfl)) ?_
      refine wpo_rd (a := (eI x0.used)) rfl rfl rfl (h_ld tk hH 0 rfl (g_slab_Budget_used _) rfl) ?_
      refine wpo_mv (a := (eI v2)) rfl rfl rfl (o_mv tk rfl (Wk.refl _)) ?_
      refine wpo_lt H14 eI rfl rfl rfl (o_ar tk rfl rfl rfl) fun v18 H17 => ?_
      refine wpo_mv (a := (.ref p0 0)) rfl rfl rfl (o_c tk false rfl (fun _ => rfl)) ?_
      refine wpo_mv (a := (.ref p0 1)) rfl rfl rfl (o_c tk false rfl (fun _ => rfl)) ?_
      obtain ⟨c20, hc21, H19⟩ := lt_ex H17
      refine wpo_z rfl rfl (h_st tk hH 0 rfl ty3 (by simp) rfl rfl (.of_eq rfl) (b := (eI v18)) rfl rfl (by rw [cl_slab_Budget]; decide) (c_slab_Budget c20) (by rw [← hc21]; exact s_slab_Budget_used _ _)) fun τ hH => ?_
      refine wpo_nil ?_
      refine awp_seq ?_
      refine awp_drawS mixed [10] rfl (by decide +kernel) rfl rfl ?_
      refine wpdS_mv (a := (.ref p0 0)) rfl rfl rfl (o_mv tk rfl (Wk.refl _)) ?_
      refine wpdS_mv (a := (eI x1)) rfl rfl rfl (o_mv tk rfl (Wk.refl _)) ?_
      refine wpdS_mv (a := (.ref p0 0)) rfl rfl rfl (o_c tk false rfl (fun _ => rfl)) ?_
      refine wpdS_mv (a := (.ref p0 2)) rfl rfl rfl (o_c tk false rfl (fun _ => rfl)) ?_
      refine wpdS_bd H19 (fun _ => .ref p0 (2 + (x1 : Int).toNat * 1 + 0)) rfl rfl rfl (fun v23 hv => o_arrb tk hv td72 sz3 (by decide) rfl rfl) fun v23 hv23 H22 => ?_
      refine wpdS_bdr H22 (fun y => eI y) rfl (by decide +kernel) rfl rfl (fun v25 hv => h_ldb tk hH 0 hv rfl (sp_slab_Budget_count _) (al_slab_Budget_count _) (enc_i64 td3 sz3) (acut_enc (enc_i64 td3 sz3) rfl _) (by decide) rfl) fun v25 hv25 H24 => ?_
      refine wpdS_lt H24 eI rfl rfl rfl (o_ar tk rfl rfl rfl) fun v27 H26 => ?_
      refine wpdS_mv (a := (.ref p0 0)) rfl rfl rfl (o_c tk false rfl (fun _ => rfl)) ?_
      refine wpdS_mv (a := (.ref p0 2)) rfl rfl rfl (o_c tk false rfl (fun _ => rfl)) ?_
      refine wpdS_bd H26 (fun _ => .ref p0 (2 + (x1 : Int).toNat * 1 + 0)) rfl rfl rfl (fun v29 hv => o_arrb tk hv td72 sz3 (by decide) rfl rfl) fun v29 hv29 H28 => ?_
      obtain ⟨v31, hv32, H30⟩ := Option.bind_eq_some_iff.1 H28
      obtain ⟨c33, hc34, H35⟩ := lt_ex H30
      refine wpdS_z rfl rfl rfl (by rw [← hc34]; exact (h_stb tk hH 0 hv32 rfl (sp_slab_Budget_count _) (sp_slab_Budget_count { c20 with count := v31 }) (al_slab_Budget_count _) (enc_i64 td3 sz3) ty3 (by simp) rfl rfl (.of_eq rfl) (b := (eI v27)) rfl rfl (by decide) (fun _ => rfl))) fun τ (hH : Holds σ [(p0, (c_slab_Budget c33))] [] τ) => ?_
      refine wpdS_nil ?_
      refine awp_seq ?_
      refine awp_region rfl ?_
      refine wpo_mv (a := (eErr Err.nil)) rfl rfl rfl (o_as tk rfl (Wk.refl _)) ?_
      refine wpo_nil ?_
      refine awp_ret ?_
      obtain rfl := Option.some.inj H35
      exact ⟨_, (eErr Err.nil), rfl, (.of_eq rfl), .of_eq (encErr.cut _ _ _), hH.noT⟩
end Go.Proofs.YtjaaepnejihbkaaDoor
namespace Go.Proofs.YtjaaepnejihbkaaDoor
open Go Go.Va
set_option linter.unusedVariables false
set_option linter.unusedSimpArgs false
set_option maxRecDepth 20000
theorem butterylaw08_SlabBounds_ok {x0 : Int} {x1 : List butterylaw08_Op} {r : Bool} (H : butterylaw08_SlabBounds x0 x1 = some r) (σ : St)  (hg : σ.gl = gls) : ACall Tryd.prog 5 [(eI x0), ((eL 3 e_butterylaw08_Op) x1)] σ (fun a τ => a = eB r ∧ τ = σ) := by
  unfold butterylaw08_SlabBounds at H
  refine ACall.pure (acall_start tk Tryd.func5 (by decide) rfl (Nat.le_of_ble_eq_true rfl) ?_)
  have hH := Holds.init σ
  refine awp_seq ?_
  refine awp_region rfl ?_
  refine wpo_mv (a := (eB false)) rfl rfl rfl (o_as tk rfl (Wk.refl _)) ?_
  refine wpo_nil ?_
  refine awp_seq ?_
  refine awp_seq ?_
  obtain ⟨s1, hs3, hj4⟩ := Option.bind_eq_some_iff.1 H
  refine awp_cutn (fun fr τ => WkF fr (fm [(0, (eI x0)), (1, ((eL 3 e_butterylaw08_Op) x1)), (20, (eB s1))]) ∧ Holds σ [] [] τ) ?_ ?_
  · rintro fr τ ⟨hfr, hH⟩
    have H15 := hj4
    refine AWP.fm [(0, (eI x0)), (1, ((eL 3 e_butterylaw08_Op) x1)), (20, (eB s1))] hfr ?_
    refine awp_if H15 rfl (fun H16 => ?_) (fun H16 => ?_)
    · refine awp_seq ?_
      refine awp_region rfl ?_
      refine wpo_bdr H16 eB rfl rfl rfl (fun v18 hv => h_callr rfl rfl .nil (butterylaw08_works_ok hv _ (hH.gl.trans hg))) fun v18 hv18 H17 => ?_
      refine wpo_mv (a := (eB v18)) rfl rfl rfl (o_as tk rfl (Wk.refl _)) ?_
      refine wpo_nil ?_
      refine awp_ret ?_
      obtain rfl := Option.some.inj H17
      exact ⟨_, (eB v18), rfl, (.of_eq rfl), .of_eq ((enc_b td4 sz4).cut _ _ _), hH.noT⟩
    · refine awp_skip ?_
      refine awp_seq ?_
      refine awp_region rfl ?_
      refine wpo_mv (a := (eI x0)) rfl rfl rfl (o_mv tk rfl (Wk.refl _)) ?_
      obtain ⟨v20, hvv20, H19⟩ := Option.bind_eq_some_iff.1 H16
      rcases hz24 : v20.1 with _ | c21
      · rw [hz24, Option.elim_none] at H19
        refine wpo_a (av := fun _ => .tup [.nilp, (eErr v20.2)]) rfl rfl rfl (h_callno0 hH hz24 rfl rfl (.cons (.of_eq rfl) .nil) (slab_New_ok hvv20 _)) fun _ τ hH => ?_
        refine wpo_mv (a := (.tup [.nilp, (eErr v20.2)])) rfl rfl rfl (o_mv tk rfl (Wk.refl _)) ?_
        refine wpo_mv (a := .nilp) rfl rfl rfl (o_ext tk rfl rfl) ?_
        refine wpo_mv (a := (eErr v20.2)) rfl rfl rfl (o_ext tk rfl rfl) ?_
        refine wpo_mv (a := .nilp) rfl rfl rfl (o_as tk rfl (Wk.refl _)) ?_
        refine wpo_mv (a := (eErr v20.2)) rfl rfl rfl (o_as tk rfl (Wk.refl _)) ?_
        refine wpo_nil ?_
        refine awp_seq ?_
        refine awp_seq ?_
        obtain ⟨s25, hs27, hj28⟩ := Option.bind_eq_some_iff.1 H19
        refine awp_cutn (fun fr τ => WkF fr (fm [(0, (eI x0)), (1, ((eL 3 e_butterylaw08_Op) x1)), (5, .nilp), (32, (eB true))]) ∧ Holds σ [] [] τ) ?_ ?_
        · rintro fr τ ⟨hfr, hH⟩
          have H32 := hj28
          refine AWP.fm [(0, (eI x0)), (1, ((eL 3 e_butterylaw08_Op) x1)), (5, .nilp), (32, (eB true))] hfr ?_
          refine awp_true rfl ?_
          refine awp_seq ?_
          refine awp_region rfl ?_
          refine wpo_mv (a := (eB false)) rfl rfl rfl (o_as tk rfl (Wk.refl _)) ?_
          refine wpo_nil ?_
          refine awp_ret ?_
          obtain rfl := Option.some.inj H32
          exact ⟨_, (eB false), rfl, (.of_eq rfl), .of_eq ((enc_b td4 sz4).cut _ _ _), hH.noT⟩
        · refine awp_region rfl ?_
          refine wpo_mv (a := (eErr v20.2)) rfl rfl rfl (o_mv tk rfl (Wk.refl _)) ?_
          refine wpo_lt hs27 eB rfl rfl rfl (o_err_neq tk rfl rfl rfl) fun v30 H29 => ?_
          refine wpo_mv (a := (eB v30)) rfl rfl rfl (o_mv tk rfl (Wk.refl _)) ?_
          refine if_split H29 (fun hb H31 => ?_) (fun hb H31 => ?_)
          · subst hb
            refine wpo_skip rfl rfl rfl ?_
            refine wpo_skip rfl rfl rfl ?_
            refine wpo_mv (a := (eB true)) rfl rfl rfl (o_pick_t tk rfl rfl (Wk.refl _)) ?_
            refine wpo_nil ?_
            have e := Option.some.inj H31
            subst e
            exact ⟨(wkf_cons (.of_eq rfl) (wkf_cons (.of_eq rfl) (wkf_cons (.of_eq rfl) (wkf_cons (.of_eq rfl) (wkf_nil _))))), hH⟩
          · subst hb
            refine wpo_mv (a := .nilp) rfl rfl rfl (o_mv tk rfl (Wk.refl _)) ?_
            refine wpo_mv (a := (eB true)) rfl rfl rfl (o_c tk false rfl (fun _ => rfl)) ?_
            refine wpo_mv (a := (eB true)) rfl rfl rfl (o_pick_f tk rfl rfl (Wk.refl _)) ?_
            refine wpo_nil ?_
            have e := Option.some.inj H31
            subst e
            exact ⟨(wkf_cons (.of_eq rfl) (wkf_cons (.of_eq rfl) (wkf_cons (.of_eq rfl) (wkf_cons (.of_eq rfl) (wkf_nil _))))), hH⟩
      · rw [hz24, Option.elim_some] at H19
        refine wpo_a (av := fun id => .tup [.ref id 0, (eErr v20.2)]) rfl rfl rfl (h_callno1 hH hz24 rfl rfl (.cons (.of_eq rfl) .nil) (slab_New_ok hvv20 _)) fun id22 τ ⟨hH, n23⟩ => ?_
        refine wpo_mv (a := (.tup [(.ref id22 0), (eErr v20.2)])) rfl rfl rfl (o_mv tk rfl (Wk.refl _)) ?_
        refine wpo_mv (a := (.ref id22 0)) rfl rfl rfl (o_ext tk rfl rfl) ?_
        refine wpo_mv (a := (eErr v20.2)) rfl rfl rfl (o_ext tk rfl rfl) ?_
        refine wpo_mv (a := (.ref id22 0)) rfl rfl rfl (o_as tk rfl (Wk.refl _)) ?_
        refine wpo_mv (a := (eErr v20.2)) rfl rfl rfl (o_as tk rfl (Wk.refl _)) ?_
        refine wpo_nil ?_
        refine awp_seq ?_
        refine awp_seq ?_
        obtain ⟨s33, hs35, hj36⟩ := Option.bind_eq_some_iff.1 H19
        refine awp_cutn (fun fr τ => WkF fr (fm [(0, (eI x0)), (1, ((eL 3 e_butterylaw08_Op) x1)), (5, (.ref id22 0)), (32, (eB s33))]) ∧ Holds σ [(id22, (c_slab_Budget c21))] [] τ) ?_ ?_
        · rintro fr τ ⟨hfr, hH⟩
          have H40 := hj36
          refine AWP.fm [(0, (eI x0)), (1, ((eL 3 e_butterylaw08_Op) x1)), (5, (.ref id22 0)), (32, (eB s33))] hfr ?_
          refine awp_if H40 rfl (fun H41 => ?_) (fun H41 => ?_)
          · refine awp_seq ?_
            refine awp_region rfl ?_
            refine wpo_mv (a := (eB false)) rfl rfl rfl (o_as tk rfl (Wk.refl _)) ?_
            refine wpo_nil ?_
            refine awp_ret ?_
            obtain rfl := Option.some.inj H41
            exact ⟨_, (eB false), rfl, (.of_eq rfl), .of_eq ((enc_b td4 sz4).cut _ _ _), (hH.noT.drop n23)⟩
          · refine awp_skip ?_
            refine awp_seq ?_
            refine awp_seq ?_
            refine awp_region rfl ?_
            refine wpo_mv (a := (eI (0 : Int))) rfl rfl rfl (o_as tk rfl (Wk.refl _)) ?_
            refine wpo_nil ?_
            refine awp_block ?_
            obtain ⟨o44, hs45, hj46⟩ := Option.bind_eq_some_iff.1 H41
            refine awp_cutx 0 (fun fr τ => ∃ s51 : slab_Budget, o44 = .inl s51 ∧ WkF fr (fm []) ∧ Holds σ [(id22, (c_slab_Budget s51))] [] τ) ?_ ?_
            · rintro fr τ ⟨s51, rfl, hfr, hH⟩
              have H127 := hj46
              simp only [Sum.elim_inl] at H127
              refine AWP.fm [] hfr ?_
              refine awp_seq ?_
              refine awp_region rfl ?_
              refine wpo_bdr H127 eB rfl rfl rfl (fun v129 hv => h_callr rfl rfl .nil (butterylaw08_works_ok hv _ (hH.gl.trans hg))) fun v129 hv129 H128 => ?_
              refine wpo_mv (a := (eB v129)) rfl rfl rfl (o_as tk rfl (Wk.refl _)) ?_
              refine wpo_nil ?_
              refine awp_ret ?_
              obtain rfl := Option.some.inj H128
              exact ⟨_, (eB v129), rfl, (.of_eq rfl), .of_eq ((enc_b td4 sz4).cut _ _ _), (hH.noT.drop n23)⟩
            · refine awp_loopO (body := fun s => butterylaw08_SlabBounds_b0 x0 x1 s.1 s.2) hs45 (fun (s : Int × slab_Budget) fr τ => WkF fr (fm [(0, (eI x0)), (1, ((eL 3 e_butterylaw08_Op) x1)), (5, (.ref id22 0)), (7, (eI s.1))]) ∧ Holds σ [(id22, (c_slab_Budget s.2))] [] τ) ⟨(wkf_cons (.of_eq rfl) (wkf_cons (.of_eq rfl) (wkf_cons (.of_eq rfl) (wkf_cons (.of_eq rfl) (wkf_nil _))))), hH⟩ ?_
              rintro ⟨c42, c43⟩ fr τ y47 ⟨hfr, hH⟩ hb49 hy50
              have H52 : butterylaw08_SlabBounds_b0 x0 x1 c42 c43 = some y47 := hb49
              unfold butterylaw08_SlabBounds_b0 at H52
              refine AWP.fm [(0, (eI x0)), (1, ((eL 3 e_butterylaw08_Op) x1)), (5, (.ref id22 0)), (7, (eI c42))] hfr ?_
              have hH : Holds σ [(id22, (c_slab_Budget c43))] [] τ := hH
              refine awp_seq ?_
              refine awp_seq ?_
              refine awp_region rfl ?_
              refine wpo_mv (a := (eI c42)) rfl rfl rfl (o_mv tk rfl (Wk.refl _)) ?_
              refine wpo_mv (a := ((eL 3 e_butterylaw08_Op) x1)) rfl rfl rfl (o_mv tk rfl (Wk.refl _)) ?_
              refine wpo_lt H52 eI rfl rfl rfl (o_len tk td26 rfl) fun v54 H53 => ?_
              refine wpo_lt H53 eB rfl rfl rfl (o_ar tk rfl rfl rfl) fun v56 H55 => ?_
              refine wpo_nil ?_
              refine awp_if H55 rfl (fun H57 => ?_) (fun H57 => ?_)
              · refine awp_skip ?_
                refine awp_seq ?_
                refine awp_block ?_
                refine awp_seq ?_
                refine awp_seq ?_
                refine awp_region rfl ?_
                refine wpo_mv (a := ((eL 3 e_butterylaw08_Op) x1)) rfl rfl rfl (o_mv tk rfl (Wk.refl _)) ?_
                refine wpo_mv (a := (eI c42)) rfl rfl rfl (o_mv tk rfl (Wk.refl _)) ?_
                refine wpo_bd H57 (fun y => .fptr (e_butterylaw08_Op y).cells 0) rfl rfl rfl (fun v59 hv => o_ixa tk hv td26 enc33 rfl rfl) fun v59 hv59 H58 => ?_
                refine wpo_mv (a := (.fptr (c_butterylaw08_Op v59) 0)) rfl rfl rfl (o_c tk false rfl (fun _ => rfl)) ?_
                refine wpo_mv (a := (eI v59.Kind)) rfl rfl rfl (o_ld tk rfl rfl) ?_
                refine wpo_lt H58 eB rfl rfl rfl (o_ar tk rfl rfl rfl) fun v61 H60 => ?_
                refine wpo_nil ?_
                obtain ⟨s62, hs64, hj65⟩ := Option.bind_eq_some_iff.1 H60
                refine awp_cutn (fun fr τ => WkF fr (fm [(0, (eI x0)), (1, ((eL 3 e_butterylaw08_Op) x1)), (5, (.ref id22 0)), (7, (eI c42))]) ∧ Holds σ [(id22, (c_slab_Budget s62))] [] τ) ?_ ?_
                · rintro fr τ ⟨hfr, hH⟩
                  have H75 := hj65
                  refine AWP.fm [(0, (eI x0)), (1, ((eL 3 e_butterylaw08_Op) x1)), (5, (.ref id22 0)), (7, (eI c42))] hfr ?_
                  refine awp_seq ?_
                  refine awp_region rfl ?_
                  refine wpo_mv (a := (eI (0 : Int))) rfl rfl rfl (o_as tk rfl (Wk.refl _)) ?_
                  refine wpo_nil ?_
                  refine awp_seq ?_
                  refine awp_seq ?_
                  refine awp_region rfl ?_
                  refine wpo_mv (a := (eI (0 : Int))) rfl rfl rfl (o_as tk rfl (Wk.refl _)) ?_
                  refine wpo_nil ?_
                  refine awp_block ?_
                  obtain ⟨o78, hs79, hj80⟩ := Option.bind_eq_some_iff.1 H75
                  refine awp_cutx 2 (fun fr τ => ∃ s85 : Int, o78 = .inl s85 ∧ WkF fr (fm [(0, (eI x0)), (1, ((eL 3 e_butterylaw08_Op) x1)), (5, (.ref id22 0)), (7, (eI c42)), (8, (eI s85))]) ∧ Holds σ [(id22, (c_slab_Budget s62))] [] τ) ?_ ?_
                  · rintro fr τ ⟨s85, rfl, hfr, hH⟩
                    have H107 := hj80
                    simp only [Sum.elim_inl] at H107
                    refine AWP.fm [(0, (eI x0)), (1, ((eL 3 e_butterylaw08_Op) x1)), (5, (.ref id22 0)), (7, (eI c42)), (8, (eI s85))] hfr ?_
                    refine awp_seq ?_
                    obtain ⟨s108, hs110, hj111⟩ := Option.bind_eq_some_iff.1 H107
                    refine awp_cutn (fun fr τ => WkF fr (fm [(0, (eI x0)), (1, ((eL 3 e_butterylaw08_Op) x1)), (5, (.ref id22 0)), (7, (eI c42)), (87, (eB s108))]) ∧ Holds σ [(id22, (c_slab_Budget s62))] [] τ) ?_ ?_
                    · rintro fr τ ⟨hfr, hH⟩
                      have H122 := hj111
                      refine AWP.fm [(0, (eI x0)), (1, ((eL 3 e_butterylaw08_Op) x1)), (5, (.ref id22 0)), (7, (eI c42)), (87, (eB s108))] hfr ?_
                      refine awp_if H122 rfl (fun H123 => ?_) (fun H123 => ?_)
                      · refine awp_seq ?_
                        refine awp_region rfl ?_
                        refine wpo_mv (a := (eB false)) rfl rfl rfl (o_as tk rfl (Wk.refl _)) ?_
                        refine wpo_nil ?_
                        refine awp_ret ?_
                        have hz := hy50 _ (inj_inr H123)
                        refine ⟨⟨_, inj_inr H123⟩, ?_⟩
                        rw [← hz] at hj46
                        have H124 := (show some _ = some _ from hj46)
                        obtain rfl := Option.some.inj H124
                        exact ⟨_, (eB false), rfl, (.of_eq rfl), .of_eq ((enc_b td4 sz4).cut _ _ _), (hH.noT.drop n23)⟩
                      · refine awp_skip ?_
                        refine awp_region rfl ?_
                        refine wpo_mv (a := (eI c42)) rfl rfl rfl (o_mv tk rfl (Wk.refl _)) ?_
                        refine wpo_lt H123 eI rfl rfl rfl (o_ar tk rfl rfl rfl) fun v126 H125 => ?_
                        refine wpo_mv (a := (eI v126)) rfl rfl rfl (o_as tk rfl (Wk.refl _)) ?_
                        refine wpo_nil ?_
                        exact ⟨(v126, s62), inj_inl H125, (wkf_cons (.of_eq rfl) (wkf_cons (.of_eq rfl) (wkf_cons (.of_eq rfl) (wkf_cons (.of_eq rfl) (wkf_nil _))))), hH⟩
                    · refine awp_region rfl ?_
                      refine wpo_mv (a := (eI s85)) rfl rfl rfl (o_mv tk rfl (Wk.refl _)) ?_
                      refine wpo_mv (a := (.ref id22 0)) rfl rfl rfl (o_mv tk rfl (Wk.refl _)) ?_
                      refine wpo_bdr hs110 eI rfl rfl rfl (fun v113 hv => h_callr rfl rfl (.cons (.of_eq rfl) .nil) (slab_Budget_Used_ok hv _ (hH.at_ 0 rfl))) fun v113 hv113 H112 => ?_
                      refine wpo_lt H112 eB rfl rfl rfl (o_ar tk rfl rfl rfl) fun v115 H114 => ?_
                      refine wpo_mv (a := (eB v115)) rfl rfl rfl (o_mv tk rfl (Wk.refl _)) ?_
                      refine if_split H114 (fun hb H116 => ?_) (fun hb H116 => ?_)
                      · subst hb
                        refine wpo_skip rfl rfl rfl ?_
                        refine wpo_skip rfl rfl rfl ?_
                        refine wpo_mv (a := (eB true)) rfl rfl rfl (o_pick_t tk rfl rfl (Wk.refl _)) ?_
                        refine wpo_mv (a := (eB true)) rfl rfl rfl (o_mv tk rfl (Wk.refl _)) ?_
                        refine wpo_skip rfl rfl rfl ?_
                        refine wpo_skip rfl rfl rfl ?_
                        refine wpo_skip rfl rfl rfl ?_
                        refine wpo_mv (a := (eB true)) rfl rfl rfl (o_pick_t tk rfl rfl (Wk.refl _)) ?_
                        refine wpo_nil ?_
                        have e := Option.some.inj H116
                        subst e
                        exact ⟨(wkf_cons (.of_eq rfl) (wkf_cons (.of_eq rfl) (wkf_cons (.of_eq rfl) (wkf_cons (.of_eq rfl) (wkf_cons (.of_eq rfl) (wkf_nil _)))))), hH⟩
                      · subst hb
                        refine wpo_mv (a := (eI s85)) rfl rfl rfl (o_mv tk rfl (Wk.refl _)) ?_
                        refine wpo_lt H116 eB rfl rfl rfl (o_ar tk rfl rfl rfl) fun v118 H117 => ?_
                        refine wpo_mv (a := (eB v118)) rfl rfl rfl (o_pick_f tk rfl rfl (Wk.refl _)) ?_
                        refine wpo_mv (a := (eB v118)) rfl rfl rfl (o_mv tk rfl (Wk.refl _)) ?_
                        refine if_split H117 (fun hb H119 => ?_) (fun hb H119 => ?_)
                        · subst hb
                          refine wpo_skip rfl rfl rfl ?_
                          refine wpo_skip rfl rfl rfl ?_
                          refine wpo_skip rfl rfl rfl ?_
                          refine wpo_mv (a := (eB true)) rfl rfl rfl (o_pick_t tk rfl rfl (Wk.refl _)) ?_
                          refine wpo_nil ?_
                          have e := Option.some.inj H119
                          subst e
                          exact ⟨(wkf_cons (.of_eq rfl) (wkf_cons (.of_eq rfl) (wkf_cons (.of_eq rfl) (wkf_cons (.of_eq rfl) (wkf_cons (.of_eq rfl) (wkf_nil _)))))), hH⟩
                        · subst hb
                          refine wpo_mv (a := (eI s85)) rfl rfl rfl (o_mv tk rfl (Wk.refl _)) ?_
                          refine wpo_mv (a := (eI x0)) rfl rfl rfl (o_mv tk rfl (Wk.refl _)) ?_
                          refine wpo_lt H119 eB rfl rfl rfl (o_ar tk rfl rfl rfl) fun v121 H120 => ?_
                          refine wpo_mv (a := (eB v121)) rfl rfl rfl (o_pick_f tk rfl rfl (Wk.refl _)) ?_
                          refine wpo_nil ?_
                          have e := Option.some.inj H120
                          subst e
                          exact ⟨(wkf_cons (.of_eq rfl) (wkf_cons (.of_eq rfl) (wkf_cons (.of_eq rfl) (wkf_cons (.of_eq rfl) (wkf_cons (.of_eq rfl) (wkf_nil _)))))), hH⟩
                  · refine awp_loopO (body := fun s => butterylaw08_SlabBounds_b1 x0 x1 c42 s62 s.1 s.2) hs79 (fun (s : Int × Int) fr τ => WkF fr (fm [(0, (eI x0)), (1, ((eL 3 e_butterylaw08_Op) x1)), (5, (.ref id22 0)), (7, (eI c42)), (8, (eI s.1)), (9, (eI s.2))]) ∧ Holds σ [(id22, (c_slab_Budget s62))] [] τ) ⟨(wkf_cons (.of_eq rfl) (wkf_cons (.of_eq rfl) (wkf_cons (.of_eq rfl) (wkf_cons (.of_eq rfl) (wkf_cons (.of_eq rfl) (wkf_cons (.of_eq rfl) (wkf_nil _))))))), hH⟩ ?_
                    rintro ⟨c76, c77⟩ fr τ y81 ⟨hfr, hH⟩ hb83 hy84
                    have H86 : butterylaw08_SlabBounds_b1 x0 x1 c42 s62 c76 c77 = some y81 := hb83
                    unfold butterylaw08_SlabBounds_b1 at H86
                    refine AWP.fm [(0, (eI x0)), (1, ((eL 3 e_butterylaw08_Op) x1)), (5, (.ref id22 0)), (7, (eI c42)), (8, (eI c76)), (9, (eI c77))] hfr ?_
                    have hH : Holds σ [(id22, (c_slab_Budget s62))] [] τ := hH
                    refine awp_seq ?_
                    refine awp_seq ?_
                    refine awp_region rfl ?_
                    refine wpo_mv (a := (eI c77)) rfl rfl rfl (o_mv tk rfl (Wk.refl _)) ?_
                    refine wpo_lt H86 eB rfl rfl rfl (o_ar tk rfl rfl rfl) fun v88 H87 => ?_
                    refine wpo_nil ?_
                    refine awp_if H87 rfl (fun H89 => ?_) (fun H89 => ?_)
                    · refine awp_skip ?_
                      refine awp_seq ?_
                      refine awp_block ?_
                      refine awp_seq ?_
                      refine awp_seq ?_
                      refine awp_region rfl ?_
                      refine wpo_mv (a := (.ref id22 0)) rfl rfl rfl (o_mv tk rfl (Wk.refl _)) ?_
                      refine wpo_mv (a := (eI c77)) rfl rfl rfl (o_mv tk rfl (Wk.refl _)) ?_
                      refine wpo_bdr H89 eI rfl rfl rfl (fun v91 hv => h_callr rfl rfl (.cons (.of_eq rfl) (.cons (.of_eq rfl) .nil)) (slab_Budget_Count_ok hv _ (hH.at_ 0 rfl))) fun v91 hv91 H90 => ?_
                      refine wpo_lt H90 eB rfl rfl rfl (o_ar tk rfl rfl rfl) fun v93 H92 => ?_
                      refine wpo_nil ?_
                      refine awp_if H92 rfl (fun H94 => ?_) (fun H94 => ?_)
                      · refine awp_seq ?_
                        refine awp_region rfl ?_
                        refine wpo_mv (a := (eB false)) rfl rfl rfl (o_as tk rfl (Wk.refl _)) ?_
                        refine wpo_nil ?_
                        refine awp_ret ?_
                        have hz := hy84 _ (inj_inr H94)
                        refine ⟨⟨_, inj_inr H94⟩, ?_⟩
                        rw [← hz] at hj80
                        have H95 := (show some _ = some _ from hj80)
                        have hz := hy50 _ (inj_inr H95)
                        refine ⟨⟨_, inj_inr H95⟩, ?_⟩
                        rw [← hz] at hj46
                        have H96 := (show some _ = some _ from hj46)
                        obtain rfl := Option.some.inj H96
                        exact ⟨_, (eB false), rfl, (.of_eq rfl), .of_eq ((enc_b td4 sz4).cut _ _ _), (hH.noT.drop n23)⟩
                      · refine awp_skip ?_
                        refine awp_region rfl ?_
                        refine wpo_mv (a := (eI c76)) rfl rfl rfl (o_mv tk rfl (Wk.refl _)) ?_
                        refine wpo_mv (a := (.ref id22 0)) rfl rfl rfl (o_mv tk rfl (Wk.refl _)) ?_
                        refine wpo_mv (a := (eI c77)) rfl rfl rfl (o_mv tk rfl (Wk.refl _)) ?_
                        refine wpo_bdr H94 eI rfl rfl rfl (fun v98 hv => h_callr rfl rfl (.cons (.of_eq rfl) (.cons (.of_eq rfl) .nil)) (slab_Budget_Count_ok hv _ (hH.at_ 0 rfl))) fun v98 hv98 H97 => ?_
                        refine wpo_mv (a := (eI c77)) rfl rfl rfl (o_mv tk rfl (Wk.refl _)) ?_
                        refine wpo_bd H97 eI rfl rfl rfl (fun v100 hv => OpP.of_call rfl rfl (.cons (.of_eq rfl) .nil) (slab_Size_ok hv)) fun v100 hv100 H99 => ?_
                        refine wpo_lt H99 eI rfl rfl rfl (o_ar tk rfl rfl rfl) fun v102 H101 => ?_
                        refine wpo_lt H101 eI rfl rfl rfl (o_ar tk rfl rfl rfl) fun v104 H103 => ?_
                        refine wpo_mv (a := (eI v104)) rfl rfl rfl (o_as tk rfl (Wk.refl _)) ?_
                        refine wpo_nil ?_
                        refine awp_region rfl ?_
                        refine wpo_mv (a := (eI c77)) rfl rfl rfl (o_mv tk rfl (Wk.refl _)) ?_
                        refine wpo_lt H103 eI rfl rfl rfl (o_ar tk rfl rfl rfl) fun v106 H105 => ?_
                        refine wpo_mv (a := (eI v106)) rfl rfl rfl (o_as tk rfl (Wk.refl _)) ?_
                        refine wpo_nil ?_
                        exact ⟨(v104, v106), inj_inl H105, (wkf_cons (.of_eq rfl) (wkf_cons (.of_eq rfl) (wkf_cons (.of_eq rfl) (wkf_cons (.of_eq rfl) (wkf_cons (.of_eq rfl) (wkf_cons (.of_eq rfl) (wkf_nil _))))))), hH⟩
                    · refine awp_exit ?_
                      have hz := hy84 _ (inj_inr H89)
                      exact ⟨⟨_, inj_inr H89⟩, c76, hz.symm, (wkf_cons (.of_eq rfl) (wkf_cons (.of_eq rfl) (wkf_cons (.of_eq rfl) (wkf_cons (.of_eq rfl) (wkf_cons (.of_eq rfl) (wkf_nil _)))))), hH⟩
                · refine awp_if hs64 rfl (fun H66 => ?_) (fun H66 => ?_)
                  · refine awp_region rfl ?_
                    refine wpo_mv (a := (.ref id22 0)) rfl rfl rfl (o_mv tk rfl (Wk.refl _)) ?_
                    refine wpo_mv (a := ((eL 3 e_butterylaw08_Op) x1)) rfl rfl rfl (o_mv tk rfl (Wk.refl _)) ?_
                    refine wpo_mv (a := (eI c42)) rfl rfl rfl (o_mv tk rfl (Wk.refl _)) ?_
                    refine wpo_bd H66 (fun y => .fptr (e_butterylaw08_Op y).cells 0) rfl rfl rfl (fun v68 hv => o_ixa tk hv td26 enc33 rfl rfl) fun v68 hv68 H67 => ?_
                    refine wpo_mv (a := (.fptr (c_butterylaw08_Op v68) 1)) rfl rfl rfl (o_c tk false rfl (fun _ => rfl)) ?_
                    refine wpo_mv (a := (eI v68.Class)) rfl rfl rfl (o_ld tk rfl rfl) ?_
                    refine wpo_cb H67 (fun x _ => eErr x.1) rfl rfl rfl (fun v70 hv => h_call1 hH [(0, (id22, (c_slab_Budget v70.2)))] ⟨⟨_, rfl⟩, trivial⟩ rfl rfl (.cons (.of_eq rfl) (.cons (.of_eq rfl) .nil)) (slab_Budget_Take_ok hv _ (hH.at_ 0 rfl))) fun v70 _ τ hv70 H69 hH => ?_
                    refine wpo_nil ?_
                    have e := Option.some.inj H69
                    subst e
                    exact ⟨(wkf_cons (.of_eq rfl) (wkf_cons (.of_eq rfl) (wkf_cons (.of_eq rfl) (wkf_cons (.of_eq rfl) (wkf_nil _))))), hH⟩
                  · refine awp_region rfl ?_
                    refine wpo_mv (a := (.ref id22 0)) rfl rfl rfl (o_mv tk rfl (Wk.refl _)) ?_
                    refine wpo_mv (a := ((eL 3 e_butterylaw08_Op) x1)) rfl rfl rfl (o_mv tk rfl (Wk.refl _)) ?_
                    refine wpo_mv (a := (eI c42)) rfl rfl rfl (o_mv tk rfl (Wk.refl _)) ?_
                    refine wpo_bd H66 (fun y => .fptr (e_butterylaw08_Op y).cells 0) rfl rfl rfl (fun v72 hv => o_ixa tk hv td26 enc33 rfl rfl) fun v72 hv72 H71 => ?_
                    refine wpo_mv (a := (.fptr (c_butterylaw08_Op v72) 1)) rfl rfl rfl (o_c tk false rfl (fun _ => rfl)) ?_
                    refine wpo_mv (a := (eI v72.Class)) rfl rfl rfl (o_ld tk rfl rfl) ?_
                    refine wpo_cb H71 (fun x _ => eErr x.1) rfl rfl rfl (fun v74 hv => h_call1 hH [(0, (id22, (c_slab_Budget v74.2)))] ⟨⟨_, rfl⟩, trivial⟩ rfl rfl (.cons (.of_eq rfl) (.cons (.of_eq rfl) .nil)) (slab_Budget_Give_ok hv _ (hH.at_ 0 rfl))) fun v74 _ τ hv74 H73 hH => ?_
                    refine wpo_nil ?_
                    have e := Option.some.inj H73
                    subst e
                    exact ⟨(wkf_cons (.of_eq rfl) (wkf_cons (.of_eq rfl) (wkf_cons (.of_eq rfl) (wkf_cons (.of_eq rfl) (wkf_nil _))))), hH⟩
              · refine awp_exit ?_
                have hz := hy50 _ (inj_inr H57)
                exact ⟨⟨_, inj_inr H57⟩, c43, hz.symm, (wkf_nil _), hH⟩
        · refine awp_region rfl ?_
          refine wpo_mv (a := (eErr v20.2)) rfl rfl rfl (o_mv tk rfl (Wk.refl _)) ?_
          refine wpo_lt hs35 eB rfl rfl rfl (o_err_neq tk rfl rfl rfl) fun v38 H37 => ?_
          refine wpo_mv (a := (eB v38)) rfl rfl rfl (o_mv tk rfl (Wk.refl _)) ?_
          refine if_split H37 (fun hb H39 => ?_) (fun hb H39 => ?_)
          · subst hb
            refine wpo_skip rfl rfl rfl ?_
            refine wpo_skip rfl rfl rfl ?_
            refine wpo_mv (a := (eB true)) rfl rfl rfl (o_pick_t tk rfl rfl (Wk.refl _)) ?_
            refine wpo_nil ?_
            have e := Option.some.inj H39
            subst e
            exact ⟨(wkf_cons (.of_eq rfl) (wkf_cons (.of_eq rfl) (wkf_cons (.of_eq rfl) (wkf_cons (.of_eq rfl) (wkf_nil _))))), hH⟩
          · subst hb
            refine wpo_mv (a := (.ref id22 0)) rfl rfl rfl (o_mv tk rfl (Wk.refl _)) ?_
            refine wpo_mv (a := (eB false)) rfl rfl rfl (o_c tk false rfl (fun _ => rfl)) ?_
            refine wpo_mv (a := (eB false)) rfl rfl rfl (o_pick_f tk rfl rfl (Wk.refl _)) ?_
            refine wpo_nil ?_
            have e := Option.some.inj H39
            subst e
            exact ⟨(wkf_cons (.of_eq rfl) (wkf_cons (.of_eq rfl) (wkf_cons (.of_eq rfl) (wkf_cons (.of_eq rfl) (wkf_nil _))))), hH⟩
  · refine awp_region rfl ?_
    refine wpo_mv (a := ((eL 3 e_butterylaw08_Op) x1)) rfl rfl rfl (o_mv tk rfl (Wk.refl _)) ?_
    refine wpo_lt hs3 eI rfl rfl rfl (o_len tk td26 rfl) fun v6 H5 => ?_
    refine wpo_lt H5 eB rfl rfl rfl (o_ar tk rfl rfl rfl) fun v8 H7 => ?_
    refine wpo_mv (a := (eB v8)) rfl rfl rfl (o_mv tk rfl (Wk.refl _)) ?_
    refine if_split H7 (fun hb H9 => ?_) (fun hb H9 => ?_)
    · subst hb
      refine wpo_skip rfl rfl rfl ?_
      refine wpo_skip rfl rfl rfl ?_
      refine wpo_mv (a := (eB true)) rfl rfl rfl (o_pick_t tk rfl rfl (Wk.refl _)) ?_
      refine wpo_mv (a := (eB true)) rfl rfl rfl (o_mv tk rfl (Wk.refl _)) ?_
      refine wpo_skip rfl rfl rfl ?_
      refine wpo_skip rfl rfl rfl ?_
      refine wpo_mv (a := (eB true)) rfl rfl rfl (o_pick_t tk rfl rfl (Wk.refl _)) ?_
      refine wpo_nil ?_
      have e := Option.some.inj H9
      subst e
      exact ⟨(wkf_cons (.of_eq rfl) (wkf_cons (.of_eq rfl) (wkf_cons (.of_eq rfl) (wkf_nil _)))), hH⟩
    · subst hb
      refine wpo_mv (a := (eI x0)) rfl rfl rfl (o_mv tk rfl (Wk.refl _)) ?_
      refine wpo_lt H9 eB rfl rfl rfl (o_ar tk rfl rfl rfl) fun v11 H10 => ?_
      refine wpo_mv (a := (eB v11)) rfl rfl rfl (o_pick_f tk rfl rfl (Wk.refl _)) ?_
      refine wpo_mv (a := (eB v11)) rfl rfl rfl (o_mv tk rfl (Wk.refl _)) ?_
      refine if_split H10 (fun hb H12 => ?_) (fun hb H12 => ?_)
      · subst hb
        refine wpo_skip rfl rfl rfl ?_
        refine wpo_skip rfl rfl rfl ?_
        refine wpo_mv (a := (eB true)) rfl rfl rfl (o_pick_t tk rfl rfl (Wk.refl _)) ?_
        refine wpo_nil ?_
        have e := Option.some.inj H12
        subst e
        exact ⟨(wkf_cons (.of_eq rfl) (wkf_cons (.of_eq rfl) (wkf_cons (.of_eq rfl) (wkf_nil _)))), hH⟩
      · subst hb
        refine wpo_mv (a := (eI x0)) rfl rfl rfl (o_mv tk rfl (Wk.refl _)) ?_
        refine wpo_lt H12 eB rfl rfl rfl (o_ar tk rfl rfl rfl) fun v14 H13 => ?_
        refine wpo_mv (a := (eB v14)) rfl rfl rfl (o_pick_f tk rfl rfl (Wk.refl _)) ?_
        refine wpo_nil ?_
        have e := Option.some.inj H13
        subst e
        exact ⟨(wkf_cons (.of_eq rfl) (wkf_cons (.of_eq rfl) (wkf_cons (.of_eq rfl) (wkf_nil _)))), hH⟩
end Go.Proofs.YtjaaepnejihbkaaDoor
namespace Go.Va
open Go
set_option linter.unusedVariables false
set_option linter.unusedSimpArgs false
theorem shr64_nat {n m : Nat} (h : m ≤ 64) : shr64 (n : Int) m = ((n / 2 ^ m : Nat) : Int) := by
  unfold shr64
  rw [Nat.min_eq_left h]
  have : (2 : Int) ^ m = ((2 ^ m : Nat) : Int) := by simp
  rw [this, Int.fdiv_eq_ediv_of_nonneg _ (Int.natCast_nonneg _), ← Int.natCast_ediv]
theorem quo64_nat {n m : Nat} (h : n < 9223372036854775808) : quo64 (n : Int) (m : Int) = ((n / m : Nat) : Int) := by
  unfold quo64
  have := Nat.div_le_self n m
  rw [Int.tdiv_eq_ediv_of_nonneg (Int.natCast_nonneg _), ← Int.natCast_ediv]
  generalize n / m = q at *
  exact w64_eq (by omega) (by omega)
theorem tmod_nat (n m : Nat) : Int.tmod (n : Int) (m : Int) = ((n % m : Nat) : Int) := by
  rw [Int.tmod_eq_emod_of_nonneg (Int.natCast_nonneg _)]; rfl
theorem or_low (a b : Nat) (h : b < 128) : a * 128 ||| b = a * 128 + b := by
  have := Nat.two_pow_add_eq_or_of_lt (i := 7) (b := b) (by omega) a
  rw [show 2 ^ 7 * a + b = a * 128 + b by omega, show 2 ^ 7 * a = a * 128 by omega] at this
  exact this.symm
theorem or64_nat {a b : Nat} (ha : a < 9223372036854775808) (hb : b < 9223372036854775808) : or64 (a : Int) (b : Int) = ((a ||| b : Nat) : Int) := by
  have h : a ||| b < 2 ^ 63 := Nat.or_lt_two_pow (by omega) (by omega)
  show w64 ((BitVec.ofInt 64 (a : Int) ||| BitVec.ofInt 64 (b : Int) : BitVec 64).toNat : Int) = _
  rw [BitVec.toNat_or, BitVec.toNat_ofInt, BitVec.toNat_ofInt]
  have e1 : ((a : Int) % ((2 ^ 64 : Nat) : Int)).toNat = a := by omega
  have e2 : ((b : Int) % ((2 ^ 64 : Nat) : Int)).toNat = b := by omega
  rw [e1, e2, w64_eq (by omega) (by omega)]
theorem shl64_7 {a : Nat} (ha : a < 72057594037927936) : shl64 (a : Int) 7 = ((a * 128 : Nat) : Int) := by
  unfold shl64
  rw [w64_eq] <;> simp <;> omega
theorem or64_7 {a b : Nat} (ha : a < 72057594037927936) (hb : b < 128) : or64 (shl64 (a : Int) 7) (b : Int) = ((a * 128 + b : Nat) : Int) := by
  rw [shl64_7 ha, or64_nat (by omega) (by omega), or_low a b hb]
theorem byte_and (x : BitVec 8) : (x &&& 127#8).toNat = x.toNat % 128 := by
  rw [BitVec.toNat_and, show (127#8).toNat = 2 ^ 7 - 1 from rfl, Nat.and_two_pow_sub_one_eq_mod]
theorem byte_or (x : BitVec 8) : x ||| 128#8 = BitVec.ofNat 8 (x.toNat % 128 + 128) := by
  have : ∀ y : Fin 256, (BitVec.ofFin y : BitVec 8) ||| 128#8 = BitVec.ofNat 8 ((BitVec.ofFin y : BitVec 8).toNat % 128 + 128) := by decide +kernel
  exact this x.toFin
theorem byte_and' (x : BitVec 8) : x &&& 127#8 = BitVec.ofNat 8 (x.toNat % 128) := by
  apply BitVec.eq_of_toNat_eq
  rw [byte_and]; simp
  have := x.isLt
  omega
theorem byte_int (n : Nat) : BitVec.ofInt 8 (n : Int) = BitVec.ofNat 8 n := by
  apply BitVec.eq_of_toNat_eq
  simp [BitVec.toNat_ofInt]
theorem byte_hi (n : Nat) : BitVec.ofInt 8 (n : Int) ||| 128#8 = BitVec.ofNat 8 (n % 128 + 128) := by
  rw [byte_int, byte_or]; congr 1; simp
theorem byte_lo (n : Nat) : BitVec.ofInt 8 (n : Int) &&& 127#8 = BitVec.ofNat 8 (n % 128) := by
  rw [byte_int, byte_and']; congr 1; simp
/-! ### seven bits a byte -/
/-- The bytes that go on. -/
def pre (m : Nat) : List (BitVec 8) := if m = 0 then [] else pre (m / 128) ++ [BitVec.ofNat 8 (m % 128 + 128)]
termination_by m
decreasing_by omega
def num7 (n : Nat) : List (BitVec 8) := pre (n / 128) ++ [BitVec.ofNat 8 (n % 128)]
theorem pre_zero : pre 0 = [] := by rw [pre]; rfl
theorem pre_pos {m : Nat} (h : 0 < m) : pre m = pre (m / 128) ++ [BitVec.ofNat 8 (m % 128 + 128)] := by
  rw [pre, if_neg (by omega)]
theorem pre_len : ∀ (k m : Nat), m < 128 ^ k → (pre m).length ≤ k
  | 0, m, h => by
    have : m = 0 := by simpa using h
    subst this; rw [pre_zero]; simp
  | k + 1, m, h => by
    by_cases h0 : m = 0
    · subst h0; rw [pre_zero]; simp
    · rw [pre_pos (by omega)]
      have := pre_len k (m / 128) (by rw [Nat.div_lt_iff_lt_mul (by decide)]; rw [Nat.pow_succ] at h; exact h)
      simp; exact this
theorem num7_len {n : Nat} (h : n < 9223372036854775808) : (num7 n).length ≤ 9 := by
  have := pre_len 8 (n / 128) (by omega)
  simp [num7]; omega
theorem num7_small {n : Nat} (h : n < 128) : num7 n = [BitVec.ofNat 8 n] := by
  rw [num7, show n / 128 = 0 by omega, pre_zero, Nat.mod_eq_of_lt h]; rfl
/-- The same from the highest one on. -/
def seq7 (n : Nat) : Nat → List (BitVec 8)
  | 0 => []
  | c + 1 => BitVec.ofNat 8 (n / 128 ^ (c + 1) % 128 + 128) :: seq7 n c
theorem seq7_snoc (n : Nat) : ∀ c, seq7 n (c + 1) = seq7 (n / 128) c ++ [BitVec.ofNat 8 (n / 128 % 128 + 128)]
  | 0 => by simp [seq7]
  | c + 1 => by
    rw [seq7, seq7_snoc n c, seq7]
    simp only [List.cons_append]
    rw [Nat.div_div_eq_div_mul, ← Nat.pow_succ']
theorem seq7_pre : ∀ (h n : Nat), n / 128 ^ h < 128 → (∀ j, j < h → 128 ≤ n / 128 ^ j) → seq7 n h = pre (n / 128)
  | 0, n, h1, h2 => by
    rw [show n / 128 = 0 by simp at h1; omega, pre_zero]; rfl
  | h + 1, n, h1, h2 => by
    have h0 := h2 0 (by omega)
    simp at h0
    rw [seq7_snoc, pre_pos (by omega), seq7_pre h (n / 128) (by rw [Nat.div_div_eq_div_mul, ← Nat.pow_succ']; exact h1) (fun j hj => by
      rw [Nat.div_div_eq_div_mul, ← Nat.pow_succ']; exact h2 (j + 1) (by omega))]
/-- How many bytes. -/
def nlen (n : Nat) : Nat := if n < 128 then 1 else nlen (n / 128) + 1
termination_by n
decreasing_by omega
theorem nlen_lt {n : Nat} (h : n < 128) : nlen n = 1 := by rw [nlen, if_pos h]
theorem nlen_ge {n : Nat} (h : 128 ≤ n) : nlen n = nlen (n / 128) + 1 := by rw [nlen, if_neg (by omega)]
/-! ### reading -/
def up7 : Int ⊕ (Nat × Nat) → Int ⊕ (Nat × Nat)
  | .inl e => .inl e
  | .inr (m, k) => .inr (m, k + 1)
/-- What a number is that begins here, and how many bytes it has; or what is wrong first. -/
def rd7 (most : Nat) : List (BitVec 8) → Bool → Nat → Int ⊕ (Nat × Nat)
  | [], _, _ => .inl 6
  | c :: l, f, n =>
    if c = 128#8 ∧ f = true then .inl 5 else if most / 128 < n then .inl 2 else
    if 128 ≤ c.toNat then up7 (rd7 most l false (n * 128 + c.toNat % 128))
    else if most < n * 128 + c.toNat then .inl 2 else .inr (n * 128 + c.toNat, 1)
theorem rd7_le {most : Nat} : ∀ {l : List (BitVec 8)} {f : Bool} {n m k : Nat}, rd7 most l f n = .inr (m, k) → m ≤ most ∧ 1 ≤ k ∧ k ≤ l.length
  | [], f, n, m, k, h => by simp [rd7] at h
  | c :: l, f, n, m, k, h => by
    simp only [rd7] at h
    split at h
    · cases h
    · split at h
      · cases h
      · split at h
        · cases hr : rd7 most l false (n * 128 + c.toNat % 128) with
          | inl e => rw [hr] at h; cases h
          | inr p =>
            obtain ⟨m', k'⟩ := p
            rw [hr] at h
            simp only [up7, Sum.inr.injEq, Prod.mk.injEq] at h
            obtain ⟨rfl, rfl⟩ := h
            have := rd7_le hr
            simp; omega
        · split at h
          · cases h
          · simp only [Sum.inr.injEq, Prod.mk.injEq] at h
            obtain ⟨rfl, rfl⟩ := h
            simp; omega
end Go.Va
namespace Go.Proofs.YtjaaepnejihbkaaDoor
open Go Go.Va
set_option linter.unusedVariables false
set_option linter.unusedSimpArgs false
set_option maxRecDepth 20000
noncomputable def butteryref08_Size_b0 (x0 : Int) (c12 : Int) (c13 : Int) : Option ((Int × Int) ⊕ (Int)) :=
  lt (decide (c13 < x0)) fun v24 =>
  if v24 = true then
    lt (w64 (c12 * (2 : Int))) fun v27 =>
    lt (w64 (c13 + (1 : Int))) fun v29 =>
    some (.inl (v27, v29))
  else
    some (.inr c12)
noncomputable def butteryref08_Size_l0 (x0 : Int) (s : Int × Int) : Option (Int) := loopO (fun s => butteryref08_Size_b0 x0 s.1 s.2) s
noncomputable def butteryref08_Size (x0 : Int) : Option (Int) :=
  (
    lt (decide (x0 < (0 : Int))) fun v6 =>
    if v6 = true then
      some true
    else
      lt (decide (x0 > (8 : Int))) fun v9 =>
      some v9
   : Option (Bool)).bind fun s1 =>
    if s1 = true then
      some (0 : Int)
    else
      (butteryref08_Size_l0 x0 ((32 : Int), (0 : Int))).bind fun s21 =>
        some s21
end Go.Proofs.YtjaaepnejihbkaaDoor
namespace Go.Proofs.YtjaaepnejihbkaaDoor
open Go Go.Va
set_option linter.unusedVariables false
set_option linter.unusedSimpArgs false
set_option maxRecDepth 20000
noncomputable def butteryref08_Class_b0 (x0 : Int) (c1 : Int) : Option ((Int) ⊕ (Unit ⊕ (Int))) :=
  (
    lt (decide (c1 ≤ (8 : Int))) fun v16 =>
    if v16 = true then
      lt (decide (x0 ≥ (0 : Int))) fun v19 =>
      some v19
    else
      some false
   : Option (Bool)).bind fun s11 =>
    if s11 = true then
      (butteryref08_Size c1).bind fun v23 =>
      lt (decide (x0 ≤ v23)) fun v25 =>
      if v25 = true then
        some (.inr (.inr c1))
      else
        lt (w64 (c1 + (1 : Int))) fun v29 =>
        some (.inl v29)
    else
      some (.inr (.inl ()))
noncomputable def butteryref08_Class_l0 (x0 : Int) (s : Int) : Option (Unit ⊕ (Int)) := loopO (fun s => butteryref08_Class_b0 x0 s) s
noncomputable def butteryref08_Class (x0 : Int) : Option (Int) :=
  (butteryref08_Class_l0 x0 (0 : Int)).bind fun o2 =>
    Sum.elim (fun s9 : Unit =>
      some (-1 : Int)
      ) (fun y => some y) o2
end Go.Proofs.YtjaaepnejihbkaaDoor
namespace Go.Proofs.YtjaaepnejihbkaaDoor
open Go Go.Va
set_option linter.unusedVariables false
set_option linter.unusedSimpArgs false
/-- How many bytes a thing of a class takes. -/
def sizeI (c : Int) : Int := if c < 0 ∨ 9 ≤ c then 0 else 32 * 2 ^ c.toNat
theorem upto9 {c : Int} (h : ¬ (c < 0 ∨ 9 ≤ c)) : ∃ i : Fin 9, c = (i.val : Int) := ⟨⟨c.toNat, by omega⟩, by simp; omega⟩
theorem size_eq (c : Int) : slab_Size c = some (sizeI c) := by
  unfold slab_Size
  simp only [lt_eq]
  by_cases h : c < 0 ∨ 9 ≤ c
  · have : sizeI c = 0 := by unfold sizeI; rw [if_pos h]
    rw [this]
    by_cases h0 : c < 0
    · rw [if_pos (decide_eq_true h0)]; rfl
    · rw [if_neg (by rw [decide_eq_false h0]; simp), decide_eq_true (show c ≥ 9 by omega)]; rfl
  · rw [if_neg (by rw [decide_eq_false (by omega)]; simp), decide_eq_false (show ¬ c ≥ 9 by omega)]
    simp only [Option.bind_some]
    rw [if_neg (by simp)]
    obtain ⟨i, rfl⟩ := upto9 h
    revert i
    decide
theorem refSize_eq (c : Int) : butteryref08_Size c = some (sizeI c) := by
  unfold butteryref08_Size
  simp only [lt_eq]
  by_cases h : c < 0 ∨ 9 ≤ c
  · have : sizeI c = 0 := by unfold sizeI; rw [if_pos h]
    rw [this]
    by_cases h0 : c < 0
    · rw [if_pos (decide_eq_true h0)]; rfl
    · rw [if_neg (by rw [decide_eq_false h0]; simp), decide_eq_true (show c > 8 by omega)]; rfl
  · rw [if_neg (by rw [decide_eq_false (by omega)]; simp), decide_eq_false (show ¬ c > 8 by omega)]
    simp only [Option.bind_some]
    rw [if_neg (by simp)]
    have hp : ∀ i : Nat, i < 9 → (2 : Int) ^ i ≤ 256 ∧ 0 ≤ (2 : Int) ^ i := by
      intro i hi
      have : ∀ i : Fin 9, (2 : Int) ^ i.val ≤ 256 ∧ 0 ≤ (2 : Int) ^ i.val := by decide
      exact this ⟨i, hi⟩
    have k := loopO_up (body := fun s => butteryref08_Size_b0 c s.1 s.2) (fun i : Nat => (32 * (2 : Int) ^ i, (i : Int))) c.toNat (x := sizeI c) (fun i hi => by
      obtain ⟨h1, h2⟩ := hp i (by omega)
      simp only [butteryref08_Size_b0, lt_eq]
      rw [if_pos (decide_eq_true (by omega)), w64_eq (by omega) (by omega), w64_nat (by omega), Int.pow_succ]
      rw [Int.mul_assoc]) (by
      simp only [butteryref08_Size_b0, lt_eq]
      rw [if_neg (by rw [decide_eq_false (by omega)]; simp)]
      unfold sizeI; rw [if_neg h])
    simp only [Int.pow_zero, Int.mul_one, show ((0 : Nat) : Int) = 0 from rfl] at k
    simp only [butteryref08_Size_l0, k, Option.bind_some]
/-- The least class in which so many bytes have room. -/
def cls (n : Int) : Int := if n < 0 then -1 else if n ≤ 32 then 0 else if n ≤ 64 then 1 else if n ≤ 128 then 2 else if n ≤ 256 then 3 else if n ≤ 512 then 4 else if n ≤ 1024 then 5 else if n ≤ 2048 then 6 else if n ≤ 4096 then 7 else if n ≤ 8192 then 8 else -1
def clsO (n : Int) : Unit ⊕ Int := if n ≤ 32 then .inr 0 else if n ≤ 64 then .inr 1 else if n ≤ 128 then .inr 2 else if n ≤ 256 then .inr 3 else if n ≤ 512 then .inr 4 else if n ≤ 1024 then .inr 5 else if n ≤ 2048 then .inr 6 else if n ≤ 4096 then .inr 7 else if n ≤ 8192 then .inr 8 else .inl ()
theorem clsO_cls {n : Int} (h : 0 ≤ n) : Sum.elim (fun _ => some (-1)) (fun y => some y) (clsO n) = some (cls n) := by
  unfold clsO cls
  rw [if_neg (show ¬ n < 0 by omega)]
  split
  · rfl
  split
  · rfl
  split
  · rfl
  split
  · rfl
  split
  · rfl
  split
  · rfl
  split
  · rfl
  split
  · rfl
  split <;> rfl
theorem unroll9 {B : Int → Option (Int ⊕ (Unit ⊕ Int))} {n : Int} (hb : ∀ c : Int, 0 ≤ c → c < 9 → B c = some (if n ≤ sizeI c then .inr (.inr c) else .inl (c + 1))) (he : B 9 = some (.inr (.inl ()))) : loopO B 0 = some (clsO n) := by
  have st : ∀ c : Int, 0 ≤ c → c < 9 → loopO B c = if n ≤ sizeI c then some (.inr c) else loopO B (c + 1) := by
    intro c h1 h2
    have := hb c h1 h2
    split
    · rename_i h; rw [if_pos h] at this; exact loopO_out this
    · rename_i h; rw [if_neg h] at this; exact loopO_in this
  rw [st 0 (by decide) (by decide), st (0 + 1) (by decide) (by decide), st (0 + 1 + 1) (by decide) (by decide), st (0 + 1 + 1 + 1) (by decide) (by decide), st (0 + 1 + 1 + 1 + 1) (by decide) (by decide), st (0 + 1 + 1 + 1 + 1 + 1) (by decide) (by decide), st (0 + 1 + 1 + 1 + 1 + 1 + 1) (by decide) (by decide), st (0 + 1 + 1 + 1 + 1 + 1 + 1 + 1) (by decide) (by decide), st (0 + 1 + 1 + 1 + 1 + 1 + 1 + 1 + 1) (by decide) (by decide)]
  rw [show (0 + 1 + 1 + 1 + 1 + 1 + 1 + 1 + 1 + 1 : Int) = 9 by decide, loopO_out he]
  rw [show sizeI 0 = 32 by decide, show sizeI (0 + 1) = 64 by decide, show sizeI (0 + 1 + 1) = 128 by decide, show sizeI (0 + 1 + 1 + 1) = 256 by decide, show sizeI (0 + 1 + 1 + 1 + 1) = 512 by decide, show sizeI (0 + 1 + 1 + 1 + 1 + 1) = 1024 by decide, show sizeI (0 + 1 + 1 + 1 + 1 + 1 + 1) = 2048 by decide, show sizeI (0 + 1 + 1 + 1 + 1 + 1 + 1 + 1) = 4096 by decide, show sizeI (0 + 1 + 1 + 1 + 1 + 1 + 1 + 1 + 1) = 8192 by decide]
  unfold clsO
  split
  · rfl
  split
  · rfl
  split
  · rfl
  split
  · rfl
  split
  · rfl
  split
  · rfl
  split
  · rfl
  split
  · rfl
  split <;> rfl
theorem class_eq (n : Int) : slab_Class n = some (cls n) := by
  unfold slab_Class
  simp only [lt_eq]
  by_cases h : n < 0
  · rw [if_pos (decide_eq_true h)]; unfold cls; rw [if_pos h]
  · rw [if_neg (by rw [decide_eq_false h]; simp)]
    have k := unroll9 (B := fun s => slab_Class_b0 n s) (n := n) (fun c h1 h2 => by
      simp only [slab_Class_b0, lt_eq, size_eq, Option.bind_some]
      rw [if_pos (decide_eq_true h2)]
      by_cases hc : n ≤ sizeI c
      · rw [if_pos (decide_eq_true hc), if_pos hc]
      · rw [if_neg (by rw [decide_eq_false hc]; simp), if_neg hc, w64_eq (by omega) (by omega)]) (by simp [slab_Class_b0, lt_eq])
    simp only [slab_Class_l0, k, Option.bind_some]
    exact clsO_cls (by omega)
theorem refClass_eq (n : Int) : butteryref08_Class n = some (cls n) := by
  unfold butteryref08_Class
  by_cases h : n < 0
  · have k : butteryref08_Class_l0 n 0 = some (.inl ()) := loopO_out (by
      simp only [butteryref08_Class_b0, lt_eq]
      rw [if_pos (by rfl), decide_eq_false (show ¬ n ≥ 0 by omega)]; rfl)
    rw [k]; unfold cls; rw [if_pos h]; rfl
  · have k := unroll9 (B := fun s => butteryref08_Class_b0 n s) (n := n) (fun c h1 h2 => by
      simp only [butteryref08_Class_b0, lt_eq, refSize_eq, Option.bind_some]
      rw [if_pos (decide_eq_true (show c ≤ 8 by omega)), decide_eq_true (show n ≥ 0 by omega)]
      simp only [Option.bind_some, if_true]
      by_cases hc : n ≤ sizeI c
      · rw [if_pos (decide_eq_true hc), if_pos hc]
      · rw [if_neg (by rw [decide_eq_false hc]; simp), if_neg hc, w64_eq (by omega) (by omega)]) (by
      simp only [butteryref08_Class_b0, lt_eq]
      rw [if_neg (by decide)]; rfl)
    simp only [butteryref08_Class_l0, k, Option.bind_some]
    exact clsO_cls (by omega)
theorem works08 : butterylaw08_works = some true := by
  have n1 : slab_New 100 = some (some ⟨100, 0, Vector.replicate 9 0⟩, Err.nil) := rfl
  have n2 : slab_New 0 = some (none, .fault [98#8, 117#8, 100#8, 103#8, 101#8, 116#8] 0 2 .nil) := rfl
  have z1 : slab_Size 1 = some 64 := by rw [size_eq]; rfl
  obtain ⟨b, hb⟩ : ∃ b : slab_Budget, slab_Budget_Take ⟨100, 0, Vector.replicate 9 0⟩ 1 = some (Err.nil, b) ∧ b.limit = 100 ∧ b.used = 64 ∧ ixA 9 b.count.toList 1 = some 1 := by
    refine ⟨⟨100, 64, (Vector.replicate 9 0).set 1 1⟩, ?_, rfl, rfl, rfl⟩
    unfold slab_Budget_Take
    rw [z1]
    rfl
  obtain ⟨h1, h2, h3, h4⟩ := hb
  have t2 : slab_Budget_Take b 1 = some (.fault [116#8, 97#8, 107#8, 101#8] 64 4 .nil, b) := by
    unfold slab_Budget_Take
    rw [z1]
    simp only [Option.bind_some, lt_eq, slab_Budget_Left, h2, h3]
    rfl
  unfold butterylaw08_works
  rw [n1, Option.bind_some, Option.elim_some, n2, Option.bind_some, Option.elim_none]
  simp only [lt_eq]
  rw [if_neg (by decide), h1, Option.bind_some, t2, Option.bind_some]
  simp only [lt_eq, trouble_Of, codeOf, Option.bind_some, slab_Budget_Used, slab_Budget_Left, h2, h3, class_eq, size_eq, slab_Budget_Fits, slab_Budget_Count]
  rw [show ixA 9 b.count.toList 1 = some 1 from h4]
  rfl
end Go.Proofs.YtjaaepnejihbkaaDoor
namespace Go.Proofs.YtjaaepnejihbkaaDoor
open Go Go.Va
set_option linter.unusedSimpArgs false
set_option linter.unusedVariables false
def wf_runtime_boundsError (x : runtime_boundsError) : Prop := (wfI .i64) x.x ∧ (wfI .i64) x.y ∧ wfT x.signed ∧ wfT x.code
theorem opens7 : Opens Tryd.prog 7 e_runtime_boundsError wf_runtime_boundsError := by
  intro H enc w fuel cs x hx
  obtain ⟨xs, m, _, _, hl, hn, hx⟩ := DataW.trod_struct Tryd.underlying7 hx
  rw [cellsOf_sz tk sz7 (by decide)] at hl
  obtain ⟨y0, w0, r0, o0⟩ := opens_f hx hn 0 (o := 0) (s := 1) rfl (opens_i64 Tryd.underlying2) rfl (cellsOf_sz tk sz2 (by decide))
  obtain ⟨y1, w1, r1, o1⟩ := opens_f hx hn 1 (o := 1) (s := 1) rfl (opens_i64 Tryd.underlying3) rfl (cellsOf_sz tk sz3 (by decide))
  obtain ⟨y2, w2, r2, o2⟩ := opens_f hx hn 2 (o := 2) (s := 1) rfl (opens_b Tryd.underlying4) rfl (cellsOf_sz tk sz4 (by decide))
  obtain ⟨y3, w3, r3, o3⟩ := opens_f hx hn 3 (o := 3) (s := 1) rfl (opens_u rfl rfl Tryd.underlying6) rfl (cellsOf_sz tk sz6 (by decide))
  refine ⟨⟨y0, y1, y2, y3⟩, ⟨w0, w1, w2, w3⟩, ?_, ?_⟩
  · have h := (rel_piece r0 (rel_piece r1 (rel_piece r2 (rel_piece r3 (rel_end hl)))))
    rw [List.drop_zero] at h
    first | exact h | (simp only [List.append_nil, List.append_assoc] at h ⊢; exact h) | (simpa [AV.cells, e_runtime_boundsError, c_runtime_boundsError] using h)
  · have h := (one_piece o0 (one_piece o1 (one_piece o2 (one_piece o3 (one_end hl)))))
    rw [List.drop_zero] at h
    exact h
theorem opens8 : Opens Tryd.prog 8 e_runtime_boundsError wf_runtime_boundsError := by
  intro H enc w fuel cs x hx
  obtain ⟨xs, m, _, _, hl, hn, hx⟩ := DataW.trod_struct Tryd.underlying8 hx
  rw [cellsOf_sz tk sz8 (by decide)] at hl
  obtain ⟨y0, w0, r0, o0⟩ := opens_f hx hn 0 (o := 0) (s := 1) rfl (opens_i64 Tryd.underlying2) rfl (cellsOf_sz tk sz2 (by decide))
  obtain ⟨y1, w1, r1, o1⟩ := opens_f hx hn 1 (o := 1) (s := 1) rfl (opens_i64 Tryd.underlying3) rfl (cellsOf_sz tk sz3 (by decide))
  obtain ⟨y2, w2, r2, o2⟩ := opens_f hx hn 2 (o := 2) (s := 1) rfl (opens_b Tryd.underlying4) rfl (cellsOf_sz tk sz4 (by decide))
  obtain ⟨y3, w3, r3, o3⟩ := opens_f hx hn 3 (o := 3) (s := 1) rfl (opens_u rfl rfl Tryd.underlying6) rfl (cellsOf_sz tk sz6 (by decide))
  refine ⟨⟨y0, y1, y2, y3⟩, ⟨w0, w1, w2, w3⟩, ?_, ?_⟩
  · have h := (rel_piece r0 (rel_piece r1 (rel_piece r2 (rel_piece r3 (rel_end hl)))))
    rw [List.drop_zero] at h
    first | exact h | (simp only [List.append_nil, List.append_assoc] at h ⊢; exact h) | (simpa [AV.cells, e_runtime_boundsError, c_runtime_boundsError] using h)
  · have h := (one_piece o0 (one_piece o1 (one_piece o2 (one_piece o3 (one_end hl)))))
    rw [List.drop_zero] at h
    exact h
def wf_runtime_errorAddressString (x : runtime_errorAddressString) : Prop := wfS x.msg ∧ wfT x.addr
theorem opens13 : Opens Tryd.prog 13 e_runtime_errorAddressString wf_runtime_errorAddressString := by
  intro H enc w fuel cs x hx
  obtain ⟨xs, m, _, _, hl, hn, hx⟩ := DataW.trod_struct Tryd.underlying13 hx
  rw [cellsOf_sz tk sz13 (by decide)] at hl
  obtain ⟨y0, w0, r0, o0⟩ := opens_f hx hn 0 (o := 0) (s := 1) rfl (opens_s Tryd.underlying9) rfl (cellsOf_sz tk sz9 (by decide))
  obtain ⟨y1, w1, r1, o1⟩ := opens_f hx hn 1 (o := 1) (s := 1) rfl (opens_u rfl rfl Tryd.underlying12) rfl (cellsOf_sz tk sz12 (by decide))
  refine ⟨⟨y0, y1⟩, ⟨w0, w1⟩, ?_, ?_⟩
  · have h := (rel_piece r0 (rel_piece r1 (rel_end hl)))
    rw [List.drop_zero] at h
    first | exact h | (simp only [List.append_nil, List.append_assoc] at h ⊢; exact h) | (simpa [AV.cells, e_runtime_errorAddressString, c_runtime_errorAddressString] using h)
  · have h := (one_piece o0 (one_piece o1 (one_end hl)))
    rw [List.drop_zero] at h
    exact h
theorem opens14 : Opens Tryd.prog 14 e_runtime_errorAddressString wf_runtime_errorAddressString := by
  intro H enc w fuel cs x hx
  obtain ⟨xs, m, _, _, hl, hn, hx⟩ := DataW.trod_struct Tryd.underlying14 hx
  rw [cellsOf_sz tk sz14 (by decide)] at hl
  obtain ⟨y0, w0, r0, o0⟩ := opens_f hx hn 0 (o := 0) (s := 1) rfl (opens_s Tryd.underlying9) rfl (cellsOf_sz tk sz9 (by decide))
  obtain ⟨y1, w1, r1, o1⟩ := opens_f hx hn 1 (o := 1) (s := 1) rfl (opens_u rfl rfl Tryd.underlying12) rfl (cellsOf_sz tk sz12 (by decide))
  refine ⟨⟨y0, y1⟩, ⟨w0, w1⟩, ?_, ?_⟩
  · have h := (rel_piece r0 (rel_piece r1 (rel_end hl)))
    rw [List.drop_zero] at h
    first | exact h | (simp only [List.append_nil, List.append_assoc] at h ⊢; exact h) | (simpa [AV.cells, e_runtime_errorAddressString, c_runtime_errorAddressString] using h)
  · have h := (one_piece o0 (one_piece o1 (one_end hl)))
    rw [List.drop_zero] at h
    exact h
def wf_butterylaw08_Op (x : butterylaw08_Op) : Prop := (wfI .i64) x.Kind ∧ (wfI .i64) x.Class ∧ (wfI .i64) x.N
theorem opens32 : Opens Tryd.prog 32 e_butterylaw08_Op wf_butterylaw08_Op := by
  intro H enc w fuel cs x hx
  obtain ⟨xs, m, _, _, hl, hn, hx⟩ := DataW.trod_struct Tryd.underlying32 hx
  rw [cellsOf_sz tk sz32 (by decide)] at hl
  obtain ⟨y0, w0, r0, o0⟩ := opens_f hx hn 0 (o := 0) (s := 1) rfl (opens_i64 Tryd.underlying3) rfl (cellsOf_sz tk sz3 (by decide))
  obtain ⟨y1, w1, r1, o1⟩ := opens_f hx hn 1 (o := 1) (s := 1) rfl (opens_i64 Tryd.underlying3) rfl (cellsOf_sz tk sz3 (by decide))
  obtain ⟨y2, w2, r2, o2⟩ := opens_f hx hn 2 (o := 2) (s := 1) rfl (opens_i64 Tryd.underlying3) rfl (cellsOf_sz tk sz3 (by decide))
  refine ⟨⟨y0, y1, y2⟩, ⟨w0, w1, w2⟩, ?_, ?_⟩
  · have h := (rel_piece r0 (rel_piece r1 (rel_piece r2 (rel_end hl))))
    rw [List.drop_zero] at h
    first | exact h | (simp only [List.append_nil, List.append_assoc] at h ⊢; exact h) | (simpa [AV.cells, e_butterylaw08_Op, c_butterylaw08_Op] using h)
  · have h := (one_piece o0 (one_piece o1 (one_piece o2 (one_end hl))))
    rw [List.drop_zero] at h
    exact h
theorem opens33 : Opens Tryd.prog 33 e_butterylaw08_Op wf_butterylaw08_Op := by
  intro H enc w fuel cs x hx
  obtain ⟨xs, m, _, _, hl, hn, hx⟩ := DataW.trod_struct Tryd.underlying33 hx
  rw [cellsOf_sz tk sz33 (by decide)] at hl
  obtain ⟨y0, w0, r0, o0⟩ := opens_f hx hn 0 (o := 0) (s := 1) rfl (opens_i64 Tryd.underlying3) rfl (cellsOf_sz tk sz3 (by decide))
  obtain ⟨y1, w1, r1, o1⟩ := opens_f hx hn 1 (o := 1) (s := 1) rfl (opens_i64 Tryd.underlying3) rfl (cellsOf_sz tk sz3 (by decide))
  obtain ⟨y2, w2, r2, o2⟩ := opens_f hx hn 2 (o := 2) (s := 1) rfl (opens_i64 Tryd.underlying3) rfl (cellsOf_sz tk sz3 (by decide))
  refine ⟨⟨y0, y1, y2⟩, ⟨w0, w1, w2⟩, ?_, ?_⟩
  · have h := (rel_piece r0 (rel_piece r1 (rel_piece r2 (rel_end hl))))
    rw [List.drop_zero] at h
    first | exact h | (simp only [List.append_nil, List.append_assoc] at h ⊢; exact h) | (simpa [AV.cells, e_butterylaw08_Op, c_butterylaw08_Op] using h)
  · have h := (one_piece o0 (one_piece o1 (one_piece o2 (one_end hl))))
    rw [List.drop_zero] at h
    exact h
def wf_butteryref08_Budget (x : butteryref08_Budget) : Prop := (wfI .i64) x.Limit ∧ (wfL (wfI .i64)) x.L
theorem opens38 : Opens Tryd.prog 38 e_butteryref08_Budget wf_butteryref08_Budget := by
  intro H enc w fuel cs x hx
  obtain ⟨xs, m, _, _, hl, hn, hx⟩ := DataW.trod_struct Tryd.underlying38 hx
  rw [cellsOf_sz tk sz38 (by decide)] at hl
  obtain ⟨y0, w0, r0, o0⟩ := opens_f hx hn 0 (o := 0) (s := 1) rfl (opens_i64 Tryd.underlying3) rfl (cellsOf_sz tk sz3 (by decide))
  obtain ⟨y1, w1, r1, o1⟩ := opens_f hx hn 1 (o := 1) (s := 1) rfl (opens_l tk Tryd.underlying37 (enc_i64 td3 sz3) (opens_i64 Tryd.underlying3)) rfl (cellsOf_sz tk sz37 (by decide))
  refine ⟨⟨y0, y1⟩, ⟨w0, w1⟩, ?_, ?_⟩
  · have h := (rel_piece r0 (rel_piece r1 (rel_end hl)))
    rw [List.drop_zero] at h
    first | exact h | (simp only [List.append_nil, List.append_assoc] at h ⊢; exact h) | (simpa [AV.cells, e_butteryref08_Budget, c_butteryref08_Budget] using h)
  · have h := (one_piece o0 (one_piece o1 (one_end hl)))
    rw [List.drop_zero] at h
    exact h
theorem opens39 : Opens Tryd.prog 39 e_butteryref08_Budget wf_butteryref08_Budget := by
  intro H enc w fuel cs x hx
  obtain ⟨xs, m, _, _, hl, hn, hx⟩ := DataW.trod_struct Tryd.underlying39 hx
  rw [cellsOf_sz tk sz39 (by decide)] at hl
  obtain ⟨y0, w0, r0, o0⟩ := opens_f hx hn 0 (o := 0) (s := 1) rfl (opens_i64 Tryd.underlying3) rfl (cellsOf_sz tk sz3 (by decide))
  obtain ⟨y1, w1, r1, o1⟩ := opens_f hx hn 1 (o := 1) (s := 1) rfl (opens_l tk Tryd.underlying37 (enc_i64 td3 sz3) (opens_i64 Tryd.underlying3)) rfl (cellsOf_sz tk sz37 (by decide))
  refine ⟨⟨y0, y1⟩, ⟨w0, w1⟩, ?_, ?_⟩
  · have h := (rel_piece r0 (rel_piece r1 (rel_end hl)))
    rw [List.drop_zero] at h
    first | exact h | (simp only [List.append_nil, List.append_assoc] at h ⊢; exact h) | (simpa [AV.cells, e_butteryref08_Budget, c_butteryref08_Budget] using h)
  · have h := (one_piece o0 (one_piece o1 (one_end hl)))
    rw [List.drop_zero] at h
    exact h
def wf_butteryref18_Policy (x : butteryref18_Policy) : Prop := (wfI .i64) x.Chance ∧ (wfI .i64) x.Limit ∧ (wfL wfT) x.L
theorem opens56 : Opens Tryd.prog 56 e_butteryref18_Policy wf_butteryref18_Policy := by
  intro H enc w fuel cs x hx
  obtain ⟨xs, m, _, _, hl, hn, hx⟩ := DataW.trod_struct Tryd.underlying56 hx
  rw [cellsOf_sz tk sz56 (by decide)] at hl
  obtain ⟨y0, w0, r0, o0⟩ := opens_f hx hn 0 (o := 0) (s := 1) rfl (opens_i64 Tryd.underlying3) rfl (cellsOf_sz tk sz3 (by decide))
  obtain ⟨y1, w1, r1, o1⟩ := opens_f hx hn 1 (o := 1) (s := 1) rfl (opens_i64 Tryd.underlying3) rfl (cellsOf_sz tk sz3 (by decide))
  obtain ⟨y2, w2, r2, o2⟩ := opens_f hx hn 2 (o := 2) (s := 1) rfl (opens_l tk Tryd.underlying55 (enc_u td60 sz60) (opens_u rfl rfl Tryd.underlying60)) rfl (cellsOf_sz tk sz55 (by decide))
  refine ⟨⟨y0, y1, y2⟩, ⟨w0, w1, w2⟩, ?_, ?_⟩
  · have h := (rel_piece r0 (rel_piece r1 (rel_piece r2 (rel_end hl))))
    rw [List.drop_zero] at h
    first | exact h | (simp only [List.append_nil, List.append_assoc] at h ⊢; exact h) | (simpa [AV.cells, e_butteryref18_Policy, c_butteryref18_Policy] using h)
  · have h := (one_piece o0 (one_piece o1 (one_piece o2 (one_end hl))))
    rw [List.drop_zero] at h
    exact h
theorem opens57 : Opens Tryd.prog 57 e_butteryref18_Policy wf_butteryref18_Policy := by
  intro H enc w fuel cs x hx
  obtain ⟨xs, m, _, _, hl, hn, hx⟩ := DataW.trod_struct Tryd.underlying57 hx
  rw [cellsOf_sz tk sz57 (by decide)] at hl
  obtain ⟨y0, w0, r0, o0⟩ := opens_f hx hn 0 (o := 0) (s := 1) rfl (opens_i64 Tryd.underlying3) rfl (cellsOf_sz tk sz3 (by decide))
  obtain ⟨y1, w1, r1, o1⟩ := opens_f hx hn 1 (o := 1) (s := 1) rfl (opens_i64 Tryd.underlying3) rfl (cellsOf_sz tk sz3 (by decide))
  obtain ⟨y2, w2, r2, o2⟩ := opens_f hx hn 2 (o := 2) (s := 1) rfl (opens_l tk Tryd.underlying55 (enc_u td60 sz60) (opens_u rfl rfl Tryd.underlying60)) rfl (cellsOf_sz tk sz55 (by decide))
  refine ⟨⟨y0, y1, y2⟩, ⟨w0, w1, w2⟩, ?_, ?_⟩
  · have h := (rel_piece r0 (rel_piece r1 (rel_piece r2 (rel_end hl))))
    rw [List.drop_zero] at h
    first | exact h | (simp only [List.append_nil, List.append_assoc] at h ⊢; exact h) | (simpa [AV.cells, e_butteryref18_Policy, c_butteryref18_Policy] using h)
  · have h := (one_piece o0 (one_piece o1 (one_piece o2 (one_end hl))))
    rw [List.drop_zero] at h
    exact h
def wf_butterylaw18_Ask (x : butterylaw18_Ask) : Prop := wfT x.Hash ∧ wfT x.Draw ∧ wfT x.Forget
theorem opens61 : Opens Tryd.prog 61 e_butterylaw18_Ask wf_butterylaw18_Ask := by
  intro H enc w fuel cs x hx
  obtain ⟨xs, m, _, _, hl, hn, hx⟩ := DataW.trod_struct Tryd.underlying61 hx
  rw [cellsOf_sz tk sz61 (by decide)] at hl
  obtain ⟨y0, w0, r0, o0⟩ := opens_f hx hn 0 (o := 0) (s := 1) rfl (opens_u rfl rfl Tryd.underlying60) rfl (cellsOf_sz tk sz60 (by decide))
  obtain ⟨y1, w1, r1, o1⟩ := opens_f hx hn 1 (o := 1) (s := 1) rfl (opens_u rfl rfl Tryd.underlying5) rfl (cellsOf_sz tk sz5 (by decide))
  obtain ⟨y2, w2, r2, o2⟩ := opens_f hx hn 2 (o := 2) (s := 1) rfl (opens_b Tryd.underlying4) rfl (cellsOf_sz tk sz4 (by decide))
  refine ⟨⟨y0, y1, y2⟩, ⟨w0, w1, w2⟩, ?_, ?_⟩
  · have h := (rel_piece r0 (rel_piece r1 (rel_piece r2 (rel_end hl))))
    rw [List.drop_zero] at h
    first | exact h | (simp only [List.append_nil, List.append_assoc] at h ⊢; exact h) | (simpa [AV.cells, e_butterylaw18_Ask, c_butterylaw18_Ask] using h)
  · have h := (one_piece o0 (one_piece o1 (one_piece o2 (one_end hl))))
    rw [List.drop_zero] at h
    exact h
theorem opens62 : Opens Tryd.prog 62 e_butterylaw18_Ask wf_butterylaw18_Ask := by
  intro H enc w fuel cs x hx
  obtain ⟨xs, m, _, _, hl, hn, hx⟩ := DataW.trod_struct Tryd.underlying62 hx
  rw [cellsOf_sz tk sz62 (by decide)] at hl
  obtain ⟨y0, w0, r0, o0⟩ := opens_f hx hn 0 (o := 0) (s := 1) rfl (opens_u rfl rfl Tryd.underlying60) rfl (cellsOf_sz tk sz60 (by decide))
  obtain ⟨y1, w1, r1, o1⟩ := opens_f hx hn 1 (o := 1) (s := 1) rfl (opens_u rfl rfl Tryd.underlying5) rfl (cellsOf_sz tk sz5 (by decide))
  obtain ⟨y2, w2, r2, o2⟩ := opens_f hx hn 2 (o := 2) (s := 1) rfl (opens_b Tryd.underlying4) rfl (cellsOf_sz tk sz4 (by decide))
  refine ⟨⟨y0, y1, y2⟩, ⟨w0, w1, w2⟩, ?_, ?_⟩
  · have h := (rel_piece r0 (rel_piece r1 (rel_piece r2 (rel_end hl))))
    rw [List.drop_zero] at h
    first | exact h | (simp only [List.append_nil, List.append_assoc] at h ⊢; exact h) | (simpa [AV.cells, e_butterylaw18_Ask, c_butterylaw18_Ask] using h)
  · have h := (one_piece o0 (one_piece o1 (one_piece o2 (one_end hl))))
    rw [List.drop_zero] at h
    exact h
def wf_reflectlite_ValueError (x : reflectlite_ValueError) : Prop := wfS x.Method ∧ wfT x.Kind
theorem opens131 : Opens Tryd.prog 131 e_reflectlite_ValueError wf_reflectlite_ValueError := by
  intro H enc w fuel cs x hx
  obtain ⟨xs, m, _, _, hl, hn, hx⟩ := DataW.trod_struct Tryd.underlying131 hx
  rw [cellsOf_sz tk sz131 (by decide)] at hl
  obtain ⟨y0, w0, r0, o0⟩ := opens_f hx hn 0 (o := 0) (s := 1) rfl (opens_s Tryd.underlying9) rfl (cellsOf_sz tk sz9 (by decide))
  obtain ⟨y1, w1, r1, o1⟩ := opens_f hx hn 1 (o := 1) (s := 1) rfl (opens_u rfl rfl Tryd.underlying96) rfl (cellsOf_sz tk sz96 (by decide))
  refine ⟨⟨y0, y1⟩, ⟨w0, w1⟩, ?_, ?_⟩
  · have h := (rel_piece r0 (rel_piece r1 (rel_end hl)))
    rw [List.drop_zero] at h
    first | exact h | (simp only [List.append_nil, List.append_assoc] at h ⊢; exact h) | (simpa [AV.cells, e_reflectlite_ValueError, c_reflectlite_ValueError] using h)
  · have h := (one_piece o0 (one_piece o1 (one_end hl)))
    rw [List.drop_zero] at h
    exact h
theorem opens132 : Opens Tryd.prog 132 e_reflectlite_ValueError wf_reflectlite_ValueError := by
  intro H enc w fuel cs x hx
  obtain ⟨xs, m, _, _, hl, hn, hx⟩ := DataW.trod_struct Tryd.underlying132 hx
  rw [cellsOf_sz tk sz132 (by decide)] at hl
  obtain ⟨y0, w0, r0, o0⟩ := opens_f hx hn 0 (o := 0) (s := 1) rfl (opens_s Tryd.underlying9) rfl (cellsOf_sz tk sz9 (by decide))
  obtain ⟨y1, w1, r1, o1⟩ := opens_f hx hn 1 (o := 1) (s := 1) rfl (opens_u rfl rfl Tryd.underlying96) rfl (cellsOf_sz tk sz96 (by decide))
  refine ⟨⟨y0, y1⟩, ⟨w0, w1⟩, ?_, ?_⟩
  · have h := (rel_piece r0 (rel_piece r1 (rel_end hl)))
    rw [List.drop_zero] at h
    first | exact h | (simp only [List.append_nil, List.append_assoc] at h ⊢; exact h) | (simpa [AV.cells, e_reflectlite_ValueError, c_reflectlite_ValueError] using h)
  · have h := (one_piece o0 (one_piece o1 (one_end hl)))
    rw [List.drop_zero] at h
    exact h
def wf_abi_Method (x : abi_Method) : Prop := (wfI .i32) x.Name ∧ (wfI .i32) x.Mtyp ∧ (wfI .i32) x.Ifn ∧ (wfI .i32) x.Tfn
theorem opens140 : Opens Tryd.prog 140 e_abi_Method wf_abi_Method := by
  intro H enc w fuel cs x hx
  obtain ⟨xs, m, _, _, hl, hn, hx⟩ := DataW.trod_struct Tryd.underlying140 hx
  rw [cellsOf_sz tk sz140 (by decide)] at hl
  obtain ⟨y0, w0, r0, o0⟩ := opens_f hx hn 0 (o := 0) (s := 1) rfl (opens_i Tryd.underlying125) rfl (cellsOf_sz tk sz125 (by decide))
  obtain ⟨y1, w1, r1, o1⟩ := opens_f hx hn 1 (o := 1) (s := 1) rfl (opens_i Tryd.underlying126) rfl (cellsOf_sz tk sz126 (by decide))
  obtain ⟨y2, w2, r2, o2⟩ := opens_f hx hn 2 (o := 2) (s := 1) rfl (opens_i Tryd.underlying139) rfl (cellsOf_sz tk sz139 (by decide))
  obtain ⟨y3, w3, r3, o3⟩ := opens_f hx hn 3 (o := 3) (s := 1) rfl (opens_i Tryd.underlying139) rfl (cellsOf_sz tk sz139 (by decide))
  refine ⟨⟨y0, y1, y2, y3⟩, ⟨w0, w1, w2, w3⟩, ?_, ?_⟩
  · have h := (rel_piece r0 (rel_piece r1 (rel_piece r2 (rel_piece r3 (rel_end hl)))))
    rw [List.drop_zero] at h
    first | exact h | (simp only [List.append_nil, List.append_assoc] at h ⊢; exact h) | (simpa [AV.cells, e_abi_Method, c_abi_Method] using h)
  · have h := (one_piece o0 (one_piece o1 (one_piece o2 (one_piece o3 (one_end hl)))))
    rw [List.drop_zero] at h
    exact h
theorem opens141 : Opens Tryd.prog 141 e_abi_Method wf_abi_Method := by
  intro H enc w fuel cs x hx
  obtain ⟨xs, m, _, _, hl, hn, hx⟩ := DataW.trod_struct Tryd.underlying141 hx
  rw [cellsOf_sz tk sz141 (by decide)] at hl
  obtain ⟨y0, w0, r0, o0⟩ := opens_f hx hn 0 (o := 0) (s := 1) rfl (opens_i Tryd.underlying125) rfl (cellsOf_sz tk sz125 (by decide))
  obtain ⟨y1, w1, r1, o1⟩ := opens_f hx hn 1 (o := 1) (s := 1) rfl (opens_i Tryd.underlying126) rfl (cellsOf_sz tk sz126 (by decide))
  obtain ⟨y2, w2, r2, o2⟩ := opens_f hx hn 2 (o := 2) (s := 1) rfl (opens_i Tryd.underlying139) rfl (cellsOf_sz tk sz139 (by decide))
  obtain ⟨y3, w3, r3, o3⟩ := opens_f hx hn 3 (o := 3) (s := 1) rfl (opens_i Tryd.underlying139) rfl (cellsOf_sz tk sz139 (by decide))
  refine ⟨⟨y0, y1, y2, y3⟩, ⟨w0, w1, w2, w3⟩, ?_, ?_⟩
  · have h := (rel_piece r0 (rel_piece r1 (rel_piece r2 (rel_piece r3 (rel_end hl)))))
    rw [List.drop_zero] at h
    first | exact h | (simp only [List.append_nil, List.append_assoc] at h ⊢; exact h) | (simpa [AV.cells, e_abi_Method, c_abi_Method] using h)
  · have h := (one_piece o0 (one_piece o1 (one_piece o2 (one_piece o3 (one_end hl)))))
    rw [List.drop_zero] at h
    exact h
end Go.Proofs.YtjaaepnejihbkaaDoor
namespace Go.Proofs.YtjaaepnejihbkaaDoor
open Go Go.Va
set_option linter.unusedVariables false
set_option linter.unusedSimpArgs false
/-- What the first classes take together. -/
def part (v : Vector Int 9) : Nat → Int
  | 0 => 0
  | i + 1 => part v i + v.toList.getD i 0 * sizeI i
theorem getD_set (v : Vector Int 9) (i j : Nat) (hi : i < 9) (y : Int) : (v.set i y).toList.getD j 0 = if i = j then y else v.toList.getD j 0 := by
  rw [Vector.toList_set, List.getD_eq_getElem?_getD, List.getElem?_set, List.getD_eq_getElem?_getD]
  split
  · rename_i h; subst h; simp [hi]
  · rfl
theorem part_set (v : Vector Int 9) (i : Nat) (hi : i < 9) (y : Int) : ∀ n, part (v.set i y) n = part v n + (if i < n then (y - v.toList.getD i 0) * sizeI i else 0)
  | 0 => by simp [part]
  | n + 1 => by
    simp only [part, part_set v i hi y n, getD_set v i n hi y]
    by_cases h1 : i = n
    · subst h1
      rw [if_neg (by omega), if_pos rfl, if_pos (by omega), Int.sub_mul]; omega
    · rw [if_neg h1]
      by_cases h2 : i < n
      · rw [if_pos h2, if_pos (by omega)]; omega
      · rw [if_neg h2, if_neg (by omega)]; omega
theorem sizeI_nn (c : Int) : 0 ≤ sizeI c := by
  unfold sizeI
  split
  · exact Int.le_refl _
  · have : (0 : Int) ≤ 2 ^ c.toNat := Int.pow_nonneg (by decide)
    omega
theorem part_mono {v : Vector Int 9} (h : ∀ i, 0 ≤ v.toList.getD i 0) : ∀ {i j : Nat}, i ≤ j → part v i ≤ part v j := by
  intro i j hij
  induction hij with
  | refl => exact Int.le_refl _
  | step _ ih =>
    simp only [part]
    rename_i m _
    have := Int.mul_nonneg (h m) (sizeI_nn m)
    omega
/-- A budget that is sound. -/
structure bok (L : Int) (b : slab_Budget) : Prop where
  lim : b.limit = L
  used : b.used = part b.count 9
  nn : ∀ i, 0 ≤ b.count.toList.getD i 0
  le : b.used ≤ L
theorem ixA9 (v : Vector Int 9) (i : Nat) (hi : i < 9) : ixA 9 v.toList (i : Int) = some (v.toList.getD i 0) := by
  rw [ixA_nat hi (by simp [hi]), List.getD_eq_getElem?_getD]; simp [hi]
theorem chk9 (i : Nat) (hi : i < 9) : chk 9 (i : Int) = some () := by unfold chk; rw [if_pos ⟨by omega, by omega⟩]
theorem updV9 (v : Vector Int 9) (i : Nat) (hi : i < 9) (y : Int) : updV v (i : Int) (fun _ => y) = some (v.set i y) := by
  unfold updV; rw [dif_pos ⟨by omega, by simpa using hi⟩]; rfl
theorem size_i (i : Nat) (hi : i < 9) : 32 ≤ sizeI i ∧ sizeI i ≤ 8192 := by
  have : ∀ i : Fin 9, 32 ≤ sizeI (i.val : Int) ∧ sizeI (i.val : Int) ≤ 8192 := by decide
  exact this ⟨i, hi⟩
theorem one_le {L : Int} {b : slab_Budget} (h : bok L b) (i : Nat) (hi : i < 9) : b.count.toList.getD i 0 * sizeI i ≤ b.used := by
  have h1 := part_mono h.nn (i := i + 1) (j := 9) (by omega)
  have h2 := part_mono h.nn (i := 0) (j := i) (by omega)
  rw [h.used]
  simp only [part] at h1 h2
  simp only [part] at *
  omega
theorem take_ok {L : Int} (hL : L ≤ 1099511627776) {b : slab_Budget} (h : bok L b) (hu : 0 ≤ b.used) (c : Int) : ∃ e b', slab_Budget_Take b c = some (e, b') ∧ bok L b' := by
  unfold slab_Budget_Take
  simp only [size_eq, Option.bind_some, lt_eq]
  by_cases hc : c < 0 ∨ 9 ≤ c
  · have : sizeI c = 0 := by unfold sizeI; rw [if_pos hc]
    rw [this, if_pos (by rfl)]
    exact ⟨_, b, rfl, h⟩
  obtain ⟨⟨i, hi⟩, rfl⟩ := upto9 hc
  simp only
  obtain ⟨s1, s2⟩ := size_i i hi
  rw [if_neg (by simp; omega)]
  have hle := h.le
  have e1 : w64 (b.limit - b.used) = L - b.used := by rw [h.lim, w64_eq (by omega) (by omega)]
  simp only [slab_Budget_Left, lt_eq, e1, Option.bind_some]
  by_cases hf : sizeI i > L - b.used
  · rw [if_pos (decide_eq_true hf)]
    exact ⟨_, b, rfl, h⟩
  · rw [if_neg (by rw [decide_eq_false hf]; simp), chk9 i hi, ixA9 _ i hi]
    have h1 := one_le h i hi
    have h0 := h.nn i
    have h2 : b.count.toList.getD i 0 * 32 ≤ b.count.toList.getD i 0 * sizeI i := Int.mul_le_mul_of_nonneg_left s1 h0
    simp only [Option.bind_some]
    rw [w64_eq (n := b.count.toList.getD i 0 + 1) (by omega) (by omega), w64_eq (n := b.used + sizeI i) (by omega) (by omega), updV9 _ i hi]
    refine ⟨_, _, rfl, h.lim, ?_, fun j => ?_, by simp only; omega⟩
    · simp only
      rw [part_set _ i hi, if_pos hi, h.used, Int.sub_mul, Int.add_mul]; omega
    · simp only
      rw [getD_set _ i j hi]
      split
      · omega
      · exact h.nn j
theorem give_ok {L : Int} (hL : L ≤ 1099511627776) {b : slab_Budget} (h : bok L b) (hu : 0 ≤ b.used) (c : Int) : ∃ e b', slab_Budget_Give b c = some (e, b') ∧ bok L b' := by
  unfold slab_Budget_Give
  simp only [size_eq, Option.bind_some, lt_eq]
  by_cases hc : c < 0 ∨ 9 ≤ c
  · have : sizeI c = 0 := by unfold sizeI; rw [if_pos hc]
    rw [this, if_pos (by rfl)]
    exact ⟨_, b, rfl, h⟩
  obtain ⟨⟨i, hi⟩, rfl⟩ := upto9 hc
  simp only
  obtain ⟨s1, s2⟩ := size_i i hi
  rw [if_neg (by simp; omega), chk9 i hi, ixA9 _ i hi]
  simp only [Option.bind_some]
  have hle := h.le
  have h0 := h.nn i
  by_cases hz : b.count.toList.getD i 0 = 0
  · rw [if_pos (by rw [hz]; rfl)]
    exact ⟨_, b, rfl, h⟩
  · rw [if_neg (by rw [beq_iff_eq]; exact hz)]
    have h1 := one_le h i hi
    have h2 : b.count.toList.getD i 0 * 32 ≤ b.count.toList.getD i 0 * sizeI i := Int.mul_le_mul_of_nonneg_left s1 h0
    rw [w64_eq (n := b.count.toList.getD i 0 - 1) (by omega) (by omega), w64_eq (n := b.used - sizeI i) (by omega) (by omega), updV9 _ i hi]
    refine ⟨_, _, rfl, h.lim, ?_, fun j => ?_, by simp only; omega⟩
    · simp only
      rw [part_set _ i hi, if_pos hi, h.used, Int.sub_mul, Int.sub_mul]; omega
    · simp only
      rw [getD_set _ i j hi]
      split
      · omega
      · exact h.nn j
theorem used_nn {L : Int} {b : slab_Budget} (h : bok L b) : 0 ≤ b.used := by
  rw [h.used]; exact part_mono h.nn (i := 0) (by omega)
theorem count_i (b : slab_Budget) (i : Nat) (hi : i < 9) : slab_Budget_Count b (i : Int) = some (b.count.toList.getD i 0) := by
  simp only [slab_Budget_Count, size_eq, Option.bind_some, lt_eq]
  obtain ⟨s1, s2⟩ := size_i i hi
  rw [if_neg (by simp; omega), chk9 i hi, ixA9 _ i hi]; rfl
theorem inner {L : Int} (hL : L ≤ 1099511627776) {b : slab_Budget} (h : bok L b) (x0 : Int) (x1 : List butterylaw08_Op) (c : Int) : butterylaw08_SlabBounds_l1 x0 x1 c b (0, 0) = some (.inl b.used) := by
  have hle := h.le
  have k := loopO_up (body := fun s => butterylaw08_SlabBounds_b1 x0 x1 c b s.1 s.2) (fun i : Nat => (part b.count i, (i : Int))) 9 (x := .inl b.used) (fun i hi => by
    have h0 := h.nn i
    have h1 := one_le h i hi
    have h2 := part_mono h.nn (i := i) (j := 9) (by omega)
    have h3 := part_mono h.nn (i := 0) (j := i) (by omega)
    have h4 := part_mono h.nn (i := i + 1) (j := 9) (by omega)
    have h6 : 0 ≤ b.count.toList.getD i 0 * sizeI i := Int.mul_nonneg h0 (sizeI_nn i)
    have h5 : part b.count 0 = 0 := rfl
    rw [← h.used] at h2 h4
    simp only [butterylaw08_SlabBounds_b1, lt_eq, count_i b i hi, size_eq, Option.bind_some]
    rw [if_pos (decide_eq_true (by omega)), if_neg (by rw [decide_eq_false (by omega)]; simp), w64_eq (n := b.count.toList.getD i 0 * sizeI i) (by omega) (by omega)]
    have h7 : part b.count (i + 1) = part b.count i + b.count.toList.getD i 0 * sizeI i := rfl
    rw [w64_eq (n := part b.count i + b.count.toList.getD i 0 * sizeI i) (by omega) (by omega), w64_nat (by omega)]
    rfl) (by
    rw [h.used]
    simp only [butterylaw08_SlabBounds_b1, lt_eq]
    rw [if_neg (show ¬ (decide (((9 : Nat) : Int) < 9) = true) by decide)])
  exact k
theorem SlabBounds_pure (L : Int) (l : List butterylaw08_Op) (_ : wfI .i64 L) (_ : wfL wf_butterylaw08_Op l) : butterylaw08_SlabBounds L l = some true := by
  unfold butterylaw08_SlabBounds
  simp only [lt_eq, works08, Option.bind_some]
  by_cases h0 : l.length > 60
  · rw [if_pos (decide_eq_true (by omega))]; rfl
  rw [if_neg (by rw [decide_eq_false (by omega)]; simp)]
  by_cases h1 : L < 1
  · rw [if_pos (decide_eq_true h1)]; rfl
  rw [if_neg (by rw [decide_eq_false h1]; simp)]
  by_cases h2 : L > 1099511627776
  · rw [decide_eq_true h2]; rfl
  rw [decide_eq_false h2]
  simp only [Option.bind_some]
  rw [if_neg (by simp)]
  have hn : slab_New L = some (some ⟨L, 0, Vector.replicate 9 0⟩, Err.nil) := by
    simp only [slab_New, lt_eq]
    rw [if_neg (by rw [decide_eq_false h1]; simp), decide_eq_false h2]; rfl
  rw [hn]
  simp only [Option.bind_some, Option.elim_some]
  rw [show (if (!Err.nil.isNil) = true then some true else some false) = some false from rfl]
  simp only [Option.bind_some]
  rw [if_neg (by simp)]
  have hb0 : bok L ⟨L, 0, Vector.replicate 9 0⟩ := by
    refine ⟨rfl, rfl, fun i => ?_, by simp only; omega⟩
    simp only
    rw [List.getD_eq_getElem?_getD]
    rw [Vector.toList_replicate, List.getElem?_replicate]
    split <;> simp
  have key := loopO_inv (body := fun s => butterylaw08_SlabBounds_b0 L l s.1 s.2) (fun s => ∃ (i : Nat) (b : slab_Budget), bok L b ∧ s = ((i : Int), b)) (fun s => l.length - s.1.toNat) (fun x => ∃ b, x = .inl b) (fun s => by
    rintro ⟨i, b, hb, rfl⟩
    simp only [butterylaw08_SlabBounds_b0, lt_eq]
    by_cases hi : i < l.length
    · left
      rw [if_pos (decide_eq_true (by omega)), ix_nat hi]
      simp only [Option.bind_some]
      have hs : ∃ b', (if (l[i].Kind == 0) = true then (slab_Budget_Take b l[i].Class).bind fun v70 => some v70.2 else (slab_Budget_Give b l[i].Class).bind fun v74 => some v74.2) = some b' ∧ bok L b' := by
        split
        · obtain ⟨e, b', h1, h2⟩ := take_ok (by omega) hb (used_nn hb) l[i].Class
          exact ⟨b', by rw [h1]; rfl, h2⟩
        · obtain ⟨e, b', h1, h2⟩ := give_ok (by omega) hb (used_nn hb) l[i].Class
          exact ⟨b', by rw [h1]; rfl, h2⟩
      obtain ⟨b', h1, h2⟩ := hs
      rw [h1]
      simp only [Option.bind_some]
      rw [inner (by omega) h2]
      have hu := used_nn h2
      have hle := h2.le
      simp only [Option.bind_some, Sum.elim_inl, slab_Budget_Used, bne_self_eq_false]
      rw [if_neg (by simp), if_neg (by rw [decide_eq_false (by omega)]; simp), decide_eq_false (by omega)]
      simp only [Option.bind_some]
      rw [if_neg (by simp), w64_nat (by omega)]
      exact ⟨_, rfl, ⟨i + 1, b', h2, rfl⟩, by simp only [Int.toNat_natCast]; omega⟩
    · right
      rw [if_neg (by rw [decide_eq_false (by omega)]; simp)]
      exact ⟨_, rfl, b, rfl⟩) (s := ((0 : Int), ⟨L, 0, Vector.replicate 9 0⟩)) ⟨0, _, hb0, rfl⟩
  obtain ⟨x, h3, b, rfl⟩ := key
  have h3' : butterylaw08_SlabBounds_l0 L l ((0 : Int), ⟨L, 0, Vector.replicate 9 0⟩) = some (.inl b) := h3
  rw [h3']; rfl
end Go.Proofs.YtjaaepnejihbkaaDoor
namespace Go.Proofs.YtjaaepnejihbkaaDoor
open Go.ChangeShapes Go.WideShapes Go.RowKit
theorem own : ownKnob Tryd.prog.godebug = none := by kernel_rfl
theorem laidEt : Tryd.prog.globalNamed "errors.errorType" = some 0 := by kernel_rfl
theorem laidRt : (Tryd.prog.cutTypes.find? (·.1 == "internal/reflectlite.rtype")).map (·.2) = some 101 := by kernel_rfl
theorem laidRow : ((List.range 143).filter fun t => Tryd.prog.rowNamed t [101, 114, 114, 111, 114]) = [29] := by kernel_rfl
theorem laidSize : Tryd.prog.types.size = 143 := by kernel_rfl
def laidL {H : Type} : List (String × DataW H) := [("errors.errorType", Rows.laid_errors_errorType)]
theorem handle_of_laid {W : World} (h : laidMetH Tryd.prog laidL W) : W.cell? ⟨0, 0, none⟩ = some (.iface 101 (.agg #[.pointer (some ⟨1, 29, none⟩)])) := by
  have h' : laidMet Tryd.prog [] W ∧ handlesMet Tryd.prog laidL W := h
  obtain ⟨name, u, ty, e1, e2, e3, e4, e5⟩ := h'.2 _ (List.mem_singleton.2 rfl)
  have en : name = [101, 114, 114, 111, 114] := (Option.some.inj e1).symm
  subst en
  obtain rfl := Option.some.inj (laidRt.symm.trans e2)
  have hm : ty ∈ (List.range 143).filter fun t => Tryd.prog.rowNamed t [101, 114, 114, 111, 114] := List.mem_filter.2 ⟨List.mem_range.2 (by rw [← laidSize]; exact e3), e4⟩
  rw [laidRow] at hm
  obtain rfl := List.mem_singleton.1 hm
  have hh : typeHandle Tryd.prog 29 = .pointer (some ⟨1, 29, none⟩) := by kernel_rfl
  rw [hh] at e5
  simpa using World.var?_cell laidEt e5 0
/-- A world that meets the condition. -/
noncomputable def laidWorld (os : Os) : World :=
  let w0 := World.holding Tryd.prog os ⟨#[], #[], []⟩
  { w0 with heap := w0.heap.modify 0 fun
      | .cells _ t frozen => .cells #[.iface 101 (.agg #[.pointer (some ⟨1, 29, none⟩)])] t frozen
      | o => o }
theorem laidWorld_met (os : Os) (args : Array Value) : laidMetH Tryd.prog laidL ((laidWorld os).forCall (fun _ _ => 0) ⟨#[], args, []⟩).memory :=
  laidMetH_of_parts (laidMet_nil _ _) (by kernel_rfl)
theorem gls_met {W : World} (h : laidMetH Tryd.prog laidL W) : ∀ p ∈ gls, W.cell? p.1 = some p.2 := by
  intro p hp
  obtain rfl := List.mem_singleton.1 hp
  exact handle_of_laid h
theorem laidOut : laidOutB Tryd.prog = true := by kernel_rfl
end Go.Proofs.YtjaaepnejihbkaaDoor
