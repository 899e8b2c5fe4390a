/- The law BloomOrder: in which order keys come, and how often, is of no matter; it holds of every input, without a condition. (part 3 of 4) -/
import Derived.Test.YtnjijefhnmnjgaaKBloomOrder2
import Derived.Carry
import Derived.ChangeArms
import Derived.ChangeOld
import Derived.WideShapes
namespace Go.Proofs.Ytnjijefhnmnjgaa
open Go Go.Va
set_option linter.unusedVariables false
set_option linter.unusedSimpArgs false
set_option maxRecDepth 20000
theorem butterylaw07_works_ok  {r : Bool} (H : butterylaw07_works = some r) (σ : St) : ACall Try.prog 22 [] σ (fun a τ => a = eB r ∧ τ = σ) := by
  unfold butterylaw07_works at H
  refine ACall.pure (acall_start tk Try.func22 (by decide) rfl (Nat.le_of_ble_eq_true rfl) ?_)
  have hH := Holds.init σ
  refine awp_seq ?_
  refine awp_region rfl ?_
  refine wpo_mv (a := (eB false)) rfl rfl rfl (o_as tk rfl (Wk.refl _)) ?_
  refine wpo_nil ?_
  refine awp_seq ?_
  refine awp_region rfl ?_
  refine wpo_mv (a := (eF 1 eS ([([97#8] : List (BitVec 8)), ([98#8] : List (BitVec 8))] : List (List (BitVec 8))))) rfl rfl rfl (o_c tk false rfl (fun _ => rfl)) ?_
  refine wpo_bd H (eA (@eU .u64 64)) rfl rfl rfl (fun v2 hv => OpP.of_call rfl rfl (.cons wk_no .nil) (bloom_Of_ok hv)) fun v2 hv2 H1 => ?_
  refine wpo_a (av := fun id => .ref id 0) rfl rfl rfl (h_alloc tk hH ty46 (cL (@eU .u64 64) (List.replicate 2 0#64)) rfl) fun id3 τ ⟨hH, n4⟩ => ?_
  obtain ⟨c6, hc7, H5⟩ := Option.bind_eq_some_iff.1 H1
  refine wpo_z rfl rfl (h_stw tk hH 0 hc7 rfl (enc_u td36 sz36) ty46 rfl (by simp) rfl rfl) fun τ hH => ?_
  refine wpo_nil ?_
  refine awp_seq ?_
  refine awp_drawS mixed [] rfl (by decide +kernel) rfl rfl ?_
  refine wpdS_bdr H5 (eA (@eU .u64 64)) rfl (by decide +kernel) rfl rfl (fun v9 hv => h_ldw tk hH 0 hv rfl (enc_u td36 sz36) td46 sz46 rfl rfl) fun v9 hv9 H8 => ?_
  refine wpdS_bd H8 (@eU .u64 64) rfl rfl rfl (fun v11 hv => OpP.of_call rfl rfl (.cons (.of_eq rfl) .nil) (bloom_Hash_ok hv)) fun v11 hv11 H10 => ?_
  refine wpdS_bd H10 eB rfl rfl rfl (fun v13 hv => OpP.of_call rfl rfl (.cons (.of_eq rfl) (.cons (.of_eq rfl) .nil)) (bloom_Filter_May_ok hv)) fun v13 hv13 H12 => ?_
  refine wpdS_mv (a := (eB v13)) rfl rfl rfl (o_mv tk rfl (Wk.refl _)) ?_
  refine if_split H12 (fun hb H14 => ?_) (fun hb H14 => ?_)
  · subst hb
    refine wpdS_bdr H14 (eA (@eU .u64 64)) rfl (by decide +kernel) rfl rfl (fun v16 hv => h_ldw tk hH 0 hv rfl (enc_u td36 sz36) td46 sz46 rfl rfl) fun v16 hv16 H15 => ?_
    refine wpdS_bd H15 eI rfl rfl rfl (fun v18 hv => OpP.of_call rfl rfl (.cons (.of_eq rfl) .nil) (bloom_Filter_Count_ok hv)) fun v18 hv18 H17 => ?_
    refine wpdS_lt H17 eB rfl rfl rfl (o_ar tk rfl rfl rfl) fun v20 H19 => ?_
    refine wpdS_mv (a := (eB v20)) rfl rfl rfl (o_pick_t tk rfl rfl (Wk.refl _)) ?_
    refine wpdS_mv (a := (eB v20)) rfl rfl rfl (o_mv tk rfl (Wk.refl _)) ?_
    refine if_split H19 (fun hb H21 => ?_) (fun hb H21 => ?_)
    · subst hb
      refine wpdS_bdr H21 (eA (@eU .u64 64)) rfl (by decide +kernel) rfl rfl (fun v23 hv => h_ldw tk hH 0 hv rfl (enc_u td36 sz36) td46 sz46 rfl rfl) fun v23 hv23 H22 => ?_
      refine wpdS_bd H22 eI rfl rfl rfl (fun v25 hv => OpP.of_call rfl rfl (.cons (.of_eq rfl) .nil) (bloom_Filter_Count_ok hv)) fun v25 hv25 H24 => ?_
      refine wpdS_lt H24 eB rfl rfl rfl (o_ar tk rfl rfl rfl) fun v27 H26 => ?_
      refine wpdS_mv (a := (eB v27)) rfl rfl rfl (o_pick_t tk rfl rfl (Wk.refl _)) ?_
      refine wpdS_mv (a := (eB v27)) rfl rfl rfl (o_mv tk rfl (Wk.refl _)) ?_
      refine if_split H26 (fun hb H28 => ?_) (fun hb H28 => ?_)
      · subst hb
        refine wpdS_lt H28 (eA (@eU .u64 64)) rfl rfl rfl (o_c tk false rfl (fun _ => rfl)) fun v30 H29 => ?_
        refine wpdS_bd H29 eB rfl rfl rfl (fun v32 hv => OpP.of_call rfl rfl (.cons (.of_eq rfl) (.cons (.of_eq rfl) .nil)) (bloom_Filter_May_ok hv)) fun v32 hv32 H31 => ?_
        refine wpdS_lt H31 eB rfl rfl rfl (o_un tk rfl rfl) fun v34 H33 => ?_
        refine wpdS_mv (a := (eB v34)) rfl rfl rfl (o_pick_t tk rfl rfl (Wk.refl _)) ?_
        refine wpdS_mv (a := (eB v34)) rfl rfl rfl (o_mv tk rfl (Wk.refl _)) ?_
        refine if_split H33 (fun hb H35 => ?_) (fun hb H35 => ?_)
        · subst hb
          refine wpdS_bd H35 eI rfl rfl rfl (fun v37 hv => OpP.of_call rfl rfl (.cons (.of_eq rfl) (.cons (.of_eq rfl) .nil)) (bloom_Slot_ok hv)) fun v37 hv37 H36 => ?_
          refine wpdS_lt H36 eB rfl rfl rfl (o_ar tk rfl rfl rfl) fun v39 H38 => ?_
          refine wpdS_mv (a := (eB v39)) rfl rfl rfl (o_pick_t tk rfl rfl (Wk.refl _)) ?_
          refine wpdS_mv (a := (eB v39)) rfl rfl rfl (o_mv tk rfl (Wk.refl _)) ?_
          refine if_split H38 (fun hb H40 => ?_) (fun hb H40 => ?_)
          · subst hb
            refine wpdS_bd H40 (@eU .u64 64) rfl rfl rfl (fun v42 hv => OpP.of_call rfl rfl (.cons (.of_eq rfl) .nil) (bloom_Mix_ok hv)) fun v42 hv42 H41 => ?_
            refine wpdS_bd H41 (@eU .u64 64) rfl rfl rfl (fun v44 hv => OpP.of_call rfl rfl (.cons (.of_eq rfl) .nil) (bloom_Mix_ok hv)) fun v44 hv44 H43 => ?_
            refine wpdS_lt H43 eB rfl rfl rfl (o_neq_u tk rfl rfl) fun v46 H45 => ?_
            refine wpdS_mv (a := (eB v46)) rfl rfl rfl (o_pick_t tk rfl rfl (Wk.refl _)) ?_
            refine wpdS_mv (a := (eB v46)) rfl rfl rfl (o_mv tk rfl (Wk.refl _)) ?_
            refine if_split H45 (fun hb H47 => ?_) (fun hb H47 => ?_)
            · subst hb
              refine wpdS_bdr H47 (eA (@eU .u64 64)) rfl (by decide +kernel) rfl rfl (fun v49 hv => h_ldw tk hH 0 hv rfl (enc_u td36 sz36) td46 sz46 rfl rfl) fun v49 hv49 H48 => ?_
              refine wpdS_lt H48 (eA (@eU .u64 64)) rfl rfl rfl (o_c tk false rfl (fun _ => rfl)) fun v51 H50 => ?_
              refine wpdS_bd H50 (eA (@eU .u64 64)) rfl rfl rfl (fun v53 hv => OpP.of_call rfl rfl (.cons (.of_eq rfl) (.cons (.of_eq rfl) .nil)) (bloom_Both_ok hv)) fun v53 hv53 H52 => ?_
              refine wpdS_bdr H52 (eA (@eU .u64 64)) rfl (by decide +kernel) rfl rfl (fun v55 hv => h_ldw tk hH 0 hv rfl (enc_u td36 sz36) td46 sz46 rfl rfl) fun v55 hv55 H54 => ?_
              refine wpdS_bd H54 eB rfl rfl rfl (fun v57 hv => om_eql_a tk hv td46 td36 sz36 rfl rfl) fun v57 hv57 H56 => ?_
              refine wpdS_mv (a := (eB v57)) rfl rfl rfl (o_pick_t tk rfl rfl (Wk.refl _)) ?_
              refine wpdS_mv (a := (eB v57)) rfl rfl rfl (o_as tk rfl (Wk.refl _)) ?_
              refine wpdS_nil ?_
              refine awp_ret ?_
              obtain rfl := Option.some.inj H56
              exact ⟨_, (eB v57), rfl, (.of_eq rfl), .of_eq ((enc_b td4 sz4).cut _ _ _), (hH.noT.drop n4)⟩
            · subst hb
              refine wpdS_skip rfl rfl rfl ?_
              refine wpdS_skip rfl rfl rfl ?_
              refine wpdS_skip rfl rfl rfl ?_
              refine wpdS_skip rfl rfl rfl ?_
              refine wpdS_skip rfl rfl rfl ?_
              refine wpdS_mv (a := (eB false)) rfl rfl rfl (o_pick_f tk rfl rfl (Wk.refl _)) ?_
              refine wpdS_mv (a := (eB false)) rfl rfl rfl (o_as tk rfl (Wk.refl _)) ?_
              refine wpdS_nil ?_
              refine awp_ret ?_
              obtain rfl := Option.some.inj H47
              exact ⟨_, (eB false), rfl, (.of_eq rfl), .of_eq ((enc_b td4 sz4).cut _ _ _), (hH.noT.drop n4)⟩
          · subst hb
            refine wpdS_skip rfl rfl rfl ?_
            refine wpdS_skip rfl rfl rfl ?_
            refine wpdS_skip rfl rfl rfl ?_
            refine wpdS_mv (a := (eB false)) rfl rfl rfl (o_pick_f tk rfl rfl (Wk.refl _)) ?_
            refine wpdS_mv (a := (eB false)) rfl rfl rfl (o_mv tk rfl (Wk.refl _)) ?_
            refine wpdS_skip rfl rfl rfl ?_
            refine wpdS_skip rfl rfl rfl ?_
            refine wpdS_skip rfl rfl rfl ?_
            refine wpdS_skip rfl rfl rfl ?_
            refine wpdS_skip rfl rfl rfl ?_
            refine wpdS_mv (a := (eB false)) rfl rfl rfl (o_pick_f tk rfl rfl (Wk.refl _)) ?_
            refine wpdS_mv (a := (eB false)) rfl rfl rfl (o_as tk rfl (Wk.refl _)) ?_
            refine wpdS_nil ?_
            refine awp_ret ?_
            obtain rfl := Option.some.inj H40
            exact ⟨_, (eB false), rfl, (.of_eq rfl), .of_eq ((enc_b td4 sz4).cut _ _ _), (hH.noT.drop n4)⟩
        · subst hb
          refine wpdS_skip rfl rfl rfl ?_
          refine wpdS_skip rfl rfl rfl ?_
          refine wpdS_mv (a := (eB false)) rfl rfl rfl (o_pick_f tk rfl rfl (Wk.refl _)) ?_
          refine wpdS_mv (a := (eB false)) rfl rfl rfl (o_mv tk rfl (Wk.refl _)) ?_
          refine wpdS_skip rfl rfl rfl ?_
          refine wpdS_skip rfl rfl rfl ?_
          refine wpdS_skip rfl rfl rfl ?_
          refine wpdS_mv (a := (eB false)) rfl rfl rfl (o_pick_f tk rfl rfl (Wk.refl _)) ?_
          refine wpdS_mv (a := (eB false)) rfl rfl rfl (o_mv tk rfl (Wk.refl _)) ?_
          refine wpdS_skip rfl rfl rfl ?_
          refine wpdS_skip rfl rfl rfl ?_
          refine wpdS_skip rfl rfl rfl ?_
          refine wpdS_skip rfl rfl rfl ?_
          refine wpdS_skip rfl rfl rfl ?_
          refine wpdS_mv (a := (eB false)) rfl rfl rfl (o_pick_f tk rfl rfl (Wk.refl _)) ?_
          refine wpdS_mv (a := (eB false)) rfl rfl rfl (o_as tk rfl (Wk.refl _)) ?_
          refine wpdS_nil ?_
          refine awp_ret ?_
          obtain rfl := Option.some.inj H35
          exact ⟨_, (eB false), rfl, (.of_eq rfl), .of_eq ((enc_b td4 sz4).cut _ _ _), (hH.noT.drop n4)⟩
      · subst hb
        refine wpdS_skip rfl rfl rfl ?_
        refine wpdS_skip rfl rfl rfl ?_
        refine wpdS_skip rfl rfl rfl ?_
        refine wpdS_mv (a := (eB false)) rfl rfl rfl (o_pick_f tk rfl rfl (Wk.refl _)) ?_
        refine wpdS_mv (a := (eB false)) rfl rfl rfl (o_mv tk rfl (Wk.refl _)) ?_
        refine wpdS_skip rfl rfl rfl ?_
        refine wpdS_skip rfl rfl rfl ?_
        refine wpdS_mv (a := (eB false)) rfl rfl rfl (o_pick_f tk rfl rfl (Wk.refl _)) ?_
        refine wpdS_mv (a := (eB false)) rfl rfl rfl (o_mv tk rfl (Wk.refl _)) ?_
        refine wpdS_skip rfl rfl rfl ?_
        refine wpdS_skip rfl rfl rfl ?_
        refine wpdS_skip rfl rfl rfl ?_
        refine wpdS_mv (a := (eB false)) rfl rfl rfl (o_pick_f tk rfl rfl (Wk.refl _)) ?_
        refine wpdS_mv (a := (eB false)) rfl rfl rfl (o_mv tk rfl (Wk.refl _)) ?_
        refine wpdS_skip rfl rfl rfl ?_
        refine wpdS_skip rfl rfl rfl ?_
        refine wpdS_skip rfl rfl rfl ?_
        refine wpdS_skip rfl rfl rfl ?_
        refine wpdS_skip rfl rfl rfl ?_
        refine wpdS_mv (a := (eB false)) rfl rfl rfl (o_pick_f tk rfl rfl (Wk.refl _)) ?_
        refine wpdS_mv (a := (eB false)) rfl rfl rfl (o_as tk rfl (Wk.refl _)) ?_
        refine wpdS_nil ?_
        refine awp_ret ?_
        obtain rfl := Option.some.inj H28
        exact ⟨_, (eB false), rfl, (.of_eq rfl), .of_eq ((enc_b td4 sz4).cut _ _ _), (hH.noT.drop n4)⟩
    · subst hb
      refine wpdS_skip rfl rfl rfl ?_
      refine wpdS_skip rfl rfl rfl ?_
      refine wpdS_skip rfl rfl rfl ?_
      refine wpdS_mv (a := (eB false)) rfl rfl rfl (o_pick_f tk rfl rfl (Wk.refl _)) ?_
      refine wpdS_mv (a := (eB false)) rfl rfl rfl (o_mv tk rfl (Wk.refl _)) ?_
      refine wpdS_skip rfl rfl rfl ?_
      refine wpdS_skip rfl rfl rfl ?_
      refine wpdS_skip rfl rfl rfl ?_
      refine wpdS_mv (a := (eB false)) rfl rfl rfl (o_pick_f tk rfl rfl (Wk.refl _)) ?_
      refine wpdS_mv (a := (eB false)) rfl rfl rfl (o_mv tk rfl (Wk.refl _)) ?_
      refine wpdS_skip rfl rfl rfl ?_
      refine wpdS_skip rfl rfl rfl ?_
      refine wpdS_mv (a := (eB false)) rfl rfl rfl (o_pick_f tk rfl rfl (Wk.refl _)) ?_
      refine wpdS_mv (a := (eB false)) rfl rfl rfl (o_mv tk rfl (Wk.refl _)) ?_
      refine wpdS_skip rfl rfl rfl ?_
      refine wpdS_skip rfl rfl rfl ?_
      refine wpdS_skip rfl rfl rfl ?_
      refine wpdS_mv (a := (eB false)) rfl rfl rfl (o_pick_f tk rfl rfl (Wk.refl _)) ?_
      refine wpdS_mv (a := (eB false)) rfl rfl rfl (o_mv tk rfl (Wk.refl _)) ?_
      refine wpdS_skip rfl rfl rfl ?_
      refine wpdS_skip rfl rfl rfl ?_
      refine wpdS_skip rfl rfl rfl ?_
      refine wpdS_skip rfl rfl rfl ?_
      refine wpdS_skip rfl rfl rfl ?_
      refine wpdS_mv (a := (eB false)) rfl rfl rfl (o_pick_f tk rfl rfl (Wk.refl _)) ?_
      refine wpdS_mv (a := (eB false)) rfl rfl rfl (o_as tk rfl (Wk.refl _)) ?_
      refine wpdS_nil ?_
      refine awp_ret ?_
      obtain rfl := Option.some.inj H21
      exact ⟨_, (eB false), rfl, (.of_eq rfl), .of_eq ((enc_b td4 sz4).cut _ _ _), (hH.noT.drop n4)⟩
  · subst hb
    refine wpdS_skip rfl rfl rfl ?_
    refine wpdS_skip rfl rfl rfl ?_
    refine wpdS_skip rfl rfl rfl ?_
    refine wpdS_mv (a := (eB false)) rfl rfl rfl (o_pick_f tk rfl rfl (Wk.refl _)) ?_
    refine wpdS_mv (a := (eB false)) rfl rfl rfl (o_mv tk rfl (Wk.refl _)) ?_
    refine wpdS_skip rfl rfl rfl ?_
    refine wpdS_skip rfl rfl rfl ?_
    refine wpdS_skip rfl rfl rfl ?_
    refine wpdS_mv (a := (eB false)) rfl rfl rfl (o_pick_f tk rfl rfl (Wk.refl _)) ?_
    refine wpdS_mv (a := (eB false)) rfl rfl rfl (o_mv tk rfl (Wk.refl _)) ?_
    refine wpdS_skip rfl rfl rfl ?_
    refine wpdS_skip rfl rfl rfl ?_
    refine wpdS_skip rfl rfl rfl ?_
    refine wpdS_mv (a := (eB false)) rfl rfl rfl (o_pick_f tk rfl rfl (Wk.refl _)) ?_
    refine wpdS_mv (a := (eB false)) rfl rfl rfl (o_mv tk rfl (Wk.refl _)) ?_
    refine wpdS_skip rfl rfl rfl ?_
    refine wpdS_skip rfl rfl rfl ?_
    refine wpdS_mv (a := (eB false)) rfl rfl rfl (o_pick_f tk rfl rfl (Wk.refl _)) ?_
    refine wpdS_mv (a := (eB false)) rfl rfl rfl (o_mv tk rfl (Wk.refl _)) ?_
    refine wpdS_skip rfl rfl rfl ?_
    refine wpdS_skip rfl rfl rfl ?_
    refine wpdS_skip rfl rfl rfl ?_
    refine wpdS_mv (a := (eB false)) rfl rfl rfl (o_pick_f tk rfl rfl (Wk.refl _)) ?_
    refine wpdS_mv (a := (eB false)) rfl rfl rfl (o_mv tk rfl (Wk.refl _)) ?_
    refine wpdS_skip rfl rfl rfl ?_
    refine wpdS_skip rfl rfl rfl ?_
    refine wpdS_skip rfl rfl rfl ?_
    refine wpdS_skip rfl rfl rfl ?_
    refine wpdS_skip rfl rfl rfl ?_
    refine wpdS_mv (a := (eB false)) rfl rfl rfl (o_pick_f tk rfl rfl (Wk.refl _)) ?_
    refine wpdS_mv (a := (eB false)) rfl rfl rfl (o_as tk rfl (Wk.refl _)) ?_
    refine wpdS_nil ?_
    refine awp_ret ?_
    obtain rfl := Option.some.inj H14
    exact ⟨_, (eB false), rfl, (.of_eq rfl), .of_eq ((enc_b td4 sz4).cut _ _ _), (hH.noT.drop n4)⟩
end Go.Proofs.Ytnjijefhnmnjgaa
namespace Go.Proofs.Ytnjijefhnmnjgaa
open Go Go.Va
set_option linter.unusedVariables false
set_option linter.unusedSimpArgs false
set_option maxRecDepth 20000
theorem butterylaw07_short_ok {x0 : List (List (BitVec 8))} {r : Bool} (H : butterylaw07_short x0 = some r) (σ : St) : ACall Try.prog 29 [((eL 1 eS) x0)] σ (fun a τ => a = eB r ∧ τ = σ) := by
  unfold butterylaw07_short at H
  refine ACall.pure (acall_start tk Try.func29 (by decide) rfl (Nat.le_of_ble_eq_true rfl) ?_)
  have hH := Holds.init σ
  refine awp_seq ?_
  refine awp_region rfl ?_
  refine wpo_mv (a := (eB false)) rfl rfl rfl (o_as tk rfl (Wk.refl _)) ?_
  refine wpo_nil ?_
  refine awp_seq ?_
  refine awp_seq ?_
  refine awp_region rfl ?_
  refine wpo_mv (a := ((eL 1 eS) x0)) rfl rfl rfl (o_mv tk rfl (Wk.refl _)) ?_
  refine wpo_lt H eI rfl rfl rfl (o_len tk td41 rfl) fun v2 H1 => ?_
  refine wpo_lt H1 eB rfl rfl rfl (o_ar tk rfl rfl rfl) fun v4 H3 => ?_
  refine wpo_nil ?_
  refine awp_if H3 rfl (fun H5 => ?_) (fun H5 => ?_)
  · refine awp_seq ?_
    refine awp_region rfl ?_
    refine wpo_mv (a := (eB false)) rfl rfl rfl (o_as tk rfl (Wk.refl _)) ?_
    refine wpo_nil ?_
    refine awp_ret ?_
    obtain rfl := Option.some.inj H5
    exact ⟨_, (eB false), rfl, (.of_eq rfl), .of_eq ((enc_b td4 sz4).cut _ _ _), hH.noT⟩
  · refine awp_skip ?_
    refine awp_seq ?_
    refine awp_seq ?_
    refine awp_region rfl ?_
    refine wpo_mv (a := (eI (0 : Int))) rfl rfl rfl (o_as tk rfl (Wk.refl _)) ?_
    refine wpo_nil ?_
    refine awp_block ?_
    obtain ⟨o7, hs8, hj9⟩ := Option.bind_eq_some_iff.1 H5
    refine awp_cutx 0 (fun fr τ => ∃ s14 : Unit, o7 = .inl s14 ∧ WkF fr (fm []) ∧ Holds σ [] [] τ) ?_ ?_
    · rintro fr τ ⟨s14, rfl, hfr, hH⟩
      have H31 := hj9
      simp only [Sum.elim_inl] at H31
      refine AWP.fm [] hfr ?_
      refine awp_seq ?_
      refine awp_region rfl ?_
      refine wpo_mv (a := (eB true)) rfl rfl rfl (o_as tk rfl (Wk.refl _)) ?_
      refine wpo_nil ?_
      refine awp_ret ?_
      obtain rfl := Option.some.inj H31
      exact ⟨_, (eB true), rfl, (.of_eq rfl), .of_eq ((enc_b td4 sz4).cut _ _ _), hH.noT⟩
    · refine awp_loopO (body := fun s => butterylaw07_short_b0 x0 s) hs8 (fun (s : Int) fr τ => WkF fr (fm [(0, ((eL 1 eS) x0)), (3, (eI s))]) ∧ Holds σ [] [] τ) ⟨(wkf_cons (.of_eq rfl) (wkf_cons (.of_eq rfl) (wkf_nil _))), hH⟩ ?_
      rintro c6 fr τ y10 ⟨hfr, hH⟩ hb12 hy13
      have H15 : butterylaw07_short_b0 x0 c6 = some y10 := hb12
      unfold butterylaw07_short_b0 at H15
      refine AWP.fm [(0, ((eL 1 eS) x0)), (3, (eI c6))] hfr ?_
      have hH : Holds σ [] [] τ := hH
      refine awp_seq ?_
      refine awp_seq ?_
      refine awp_region rfl ?_
      refine wpo_mv (a := (eI c6)) rfl rfl rfl (o_mv tk rfl (Wk.refl _)) ?_
      refine wpo_mv (a := ((eL 1 eS) x0)) rfl rfl rfl (o_mv tk rfl (Wk.refl _)) ?_
      refine wpo_lt H15 eI rfl rfl rfl (o_len tk td41 rfl) fun v17 H16 => ?_
      refine wpo_lt H16 eB rfl rfl rfl (o_ar tk rfl rfl rfl) fun v19 H18 => ?_
      refine wpo_nil ?_
      refine awp_if H18 rfl (fun H20 => ?_) (fun H20 => ?_)
      · refine awp_skip ?_
        refine awp_seq ?_
        refine awp_block ?_
        refine awp_seq ?_
        refine awp_region rfl ?_
        refine wpo_mv (a := ((eL 1 eS) x0)) rfl rfl rfl (o_mv tk rfl (Wk.refl _)) ?_
        refine wpo_mv (a := (eI c6)) rfl rfl rfl (o_mv tk rfl (Wk.refl _)) ?_
        refine wpo_bd H20 (fun y => .fptr (eS y).cells 0) rfl rfl rfl (fun v22 hv => o_ixa tk hv td41 (enc_s td9 sz9) rfl rfl) fun v22 hv22 H21 => ?_
        refine wpo_mv (a := (eS v22)) rfl rfl rfl (o_ld_e tk (enc_s td9 sz9) rfl rfl) ?_
        refine wpo_lt H21 eI rfl rfl rfl (o_len_s tk td9 rfl) fun v24 H23 => ?_
        refine wpo_lt H23 eB rfl rfl rfl (o_ar tk rfl rfl rfl) fun v26 H25 => ?_
        refine wpo_nil ?_
        refine awp_if H25 rfl (fun H27 => ?_) (fun H27 => ?_)
        · refine awp_seq ?_
          refine awp_region rfl ?_
          refine wpo_mv (a := (eB false)) rfl rfl rfl (o_as tk rfl (Wk.refl _)) ?_
          refine wpo_nil ?_
          refine awp_ret ?_
          have hz := hy13 _ (inj_inr H27)
          refine ⟨⟨_, inj_inr H27⟩, ?_⟩
          rw [← hz] at hj9
          have H28 := (show some _ = some _ from hj9)
          obtain rfl := Option.some.inj H28
          exact ⟨_, (eB false), rfl, (.of_eq rfl), .of_eq ((enc_b td4 sz4).cut _ _ _), hH.noT⟩
        · refine awp_skip ?_
          refine awp_region rfl ?_
          refine wpo_mv (a := (eI c6)) rfl rfl rfl (o_mv tk rfl (Wk.refl _)) ?_
          refine wpo_lt H27 eI rfl rfl rfl (o_ar tk rfl rfl rfl) fun v30 H29 => ?_
          refine wpo_mv (a := (eI v30)) rfl rfl rfl (o_as tk rfl (Wk.refl _)) ?_
          refine wpo_nil ?_
          exact ⟨v30, inj_inl H29, (wkf_cons (.of_eq rfl) (wkf_cons (.of_eq rfl) (wkf_nil _))), hH⟩
      · refine awp_exit ?_
        have hz := hy13 _ (inj_inr H20)
        exact ⟨⟨_, inj_inr H20⟩, (), hz.symm, (wkf_nil _), hH⟩
end Go.Proofs.Ytnjijefhnmnjgaa
namespace Go.Proofs.Ytnjijefhnmnjgaa
open Go Go.Va
set_option linter.unusedVariables false
set_option linter.unusedSimpArgs false
set_option maxRecDepth 20000
theorem butterylaw07_BloomOrder_ok {x0 : List (List (BitVec 8))} {r : Bool} (H : butterylaw07_BloomOrder x0 = some r) (σ : St) : ACall Try.prog 10 [((eL 1 eS) x0)] σ (fun a τ => a = eB r ∧ τ = σ) := by
  unfold butterylaw07_BloomOrder at H
  refine ACall.pure (acall_start tk Try.func10 (by decide) rfl (Nat.le_of_ble_eq_true rfl) ?_)
  have hH := Holds.init σ
  refine awp_seq ?_
  refine awp_region rfl ?_
  refine wpo_mv (a := (eB false)) rfl rfl rfl (o_as tk rfl (Wk.refl _)) ?_
  refine wpo_nil ?_
  refine awp_seq ?_
  refine awp_seq ?_
  refine awp_region rfl ?_
  refine wpo_mv (a := ((eL 1 eS) x0)) rfl rfl rfl (o_mv tk rfl (Wk.refl _)) ?_
  refine wpo_bd H eB rfl rfl rfl (fun v2 hv => OpP.of_call rfl rfl (.cons (.of_eq rfl) .nil) (butterylaw07_short_ok hv)) fun v2 hv2 H1 => ?_
  refine wpo_lt H1 eB rfl rfl rfl (o_un tk rfl rfl) fun v4 H3 => ?_
  refine wpo_nil ?_
  refine awp_if H3 rfl (fun H5 => ?_) (fun H5 => ?_)
  · refine awp_seq ?_
    refine awp_region rfl ?_
    refine wpo_bd H5 eB rfl rfl rfl (fun v7 hv => OpP.of_call rfl rfl .nil (butterylaw07_works_ok hv)) fun v7 hv7 H6 => ?_
    refine wpo_mv (a := (eB v7)) rfl rfl rfl (o_as tk rfl (Wk.refl _)) ?_
    refine wpo_nil ?_
    refine awp_ret ?_
    obtain rfl := Option.some.inj H6
    exact ⟨_, (eB v7), rfl, (.of_eq rfl), .of_eq ((enc_b td4 sz4).cut _ _ _), hH.noT⟩
  · refine awp_skip ?_
    refine awp_seq ?_
    refine awp_region rfl ?_
    refine wpo_mv (a := AV.nils) rfl rfl rfl (o_as tk rfl (Wk.refl _)) ?_
    refine wpo_nil ?_
    refine awp_seq ?_
    refine awp_seq ?_
    refine awp_region rfl ?_
    refine wpo_mv (a := ((eL 1 eS) x0)) rfl rfl rfl (o_mv tk rfl (Wk.refl _)) ?_
    refine wpo_lt H5 eI rfl rfl rfl (o_len tk td41 rfl) fun v9 H8 => ?_
    refine wpo_lt H8 eI rfl rfl rfl (o_ar tk rfl rfl rfl) fun v11 H10 => ?_
    refine wpo_mv (a := (eI v11)) rfl rfl rfl (o_as tk rfl (Wk.refl _)) ?_
    refine wpo_nil ?_
    refine awp_block ?_
    refine AWP.tokN hH 3 1 rfl fun tk14 τ hH => ?_
    obtain ⟨s22, hs16, hj17⟩ := Option.bind_eq_some_iff.1 H10
    refine awp_cutx 0 (fun fr τ => ∃ tk_3, WkF fr (fm [(0, ((eL 1 eS) x0)), (3, (eT tk_3 1 eS s22))]) ∧ Holds σ [] [tk_3] τ) ?_ ?_
    · rintro fr τ ⟨tk_3, hfr, hH⟩
      have H39 := hj17
      refine AWP.fm [(0, ((eL 1 eS) x0)), (3, (eT tk_3 1 eS s22))] hfr ?_
      refine awp_seq ?_
      refine awp_region rfl ?_
      refine wpo_mv (a := ((eL 1 eS) x0)) rfl rfl rfl (o_mv tk rfl (Wk.refl _)) ?_
      refine wpo_bd H39 (eA (@eU .u64 64)) rfl rfl rfl (fun v41 hv => OpP.of_call rfl rfl (.cons (.of_eq rfl) .nil) (bloom_Of_ok hv)) fun v41 hv41 H40 => ?_
      refine wpo_a (av := fun id => .ref id 0) rfl rfl rfl (h_alloc tk hH ty46 (cL (@eU .u64 64) (List.replicate 2 0#64)) rfl) fun id42 τ ⟨hH, n43⟩ => ?_
      obtain ⟨c45, hc46, H44⟩ := Option.bind_eq_some_iff.1 H40
      refine wpo_z rfl rfl (h_stw tk hH 0 hc46 rfl (enc_u td36 sz36) ty46 rfl (by simp) rfl rfl) fun τ hH => ?_
      refine wpo_nil ?_
      refine awp_seq ?_
      refine awp_drawS mixed [] rfl (by decide +kernel) rfl rfl ?_
      refine wpdS_bdr H44 (eA (@eU .u64 64)) rfl (by decide +kernel) rfl rfl (fun v48 hv => h_ldw tk hH 0 hv rfl (enc_u td36 sz36) td46 sz46 rfl rfl) fun v48 hv48 H47 => ?_
      refine wpdS_mv (a := (eT tk_3 1 eS s22)) rfl rfl rfl (o_mv tk rfl (Wk.refl _)) ?_
      refine wpdS_bd H47 (eA (@eU .u64 64)) rfl rfl rfl (fun v50 hv => OpP.of_call rfl rfl (.cons wk_no .nil) (bloom_Of_ok hv)) fun v50 hv50 H49 => ?_
      refine wpdS_bd H49 eB rfl rfl rfl (fun v52 hv => om_eql_a tk hv td46 td36 sz36 rfl rfl) fun v52 hv52 H51 => ?_
      refine wpdS_mv (a := (eB v52)) rfl rfl rfl (o_mv tk rfl (Wk.refl _)) ?_
      refine if_split H51 (fun hb H53 => ?_) (fun hb H53 => ?_)
      · subst hb
        refine wpdS_bdr H53 (eA (@eU .u64 64)) rfl (by decide +kernel) rfl rfl (fun v55 hv => h_ldw tk hH 0 hv rfl (enc_u td36 sz36) td46 sz46 rfl rfl) fun v55 hv55 H54 => ?_
        refine wpdS_bdr H54 (eA (@eU .u64 64)) rfl (by decide +kernel) rfl rfl (fun v57 hv => h_ldw tk hH 0 hv rfl (enc_u td36 sz36) td46 sz46 rfl rfl) fun v57 hv57 H56 => ?_
        refine wpdS_bd H56 (eA (@eU .u64 64)) rfl rfl rfl (fun v59 hv => OpP.of_call rfl rfl (.cons (.of_eq rfl) (.cons (.of_eq rfl) .nil)) (bloom_Both_ok hv)) fun v59 hv59 H58 => ?_
        refine wpdS_bdr H58 (eA (@eU .u64 64)) rfl (by decide +kernel) rfl rfl (fun v61 hv => h_ldw tk hH 0 hv rfl (enc_u td36 sz36) td46 sz46 rfl rfl) fun v61 hv61 H60 => ?_
        refine wpdS_bd H60 eB rfl rfl rfl (fun v63 hv => om_eql_a tk hv td46 td36 sz36 rfl rfl) fun v63 hv63 H62 => ?_
        refine wpdS_mv (a := (eB v63)) rfl rfl rfl (o_pick_t tk rfl rfl (Wk.refl _)) ?_
        refine wpdS_mv (a := (eB v63)) rfl rfl rfl (o_mv tk rfl (Wk.refl _)) ?_
        refine if_split H62 (fun hb H64 => ?_) (fun hb H64 => ?_)
        · subst hb
          refine wpdS_bd H64 eB rfl rfl rfl (fun v66 hv => OpP.of_call rfl rfl .nil (butterylaw07_works_ok hv)) fun v66 hv66 H65 => ?_
          refine wpdS_mv (a := (eB v66)) rfl rfl rfl (o_pick_t tk rfl rfl (Wk.refl _)) ?_
          refine wpdS_mv (a := (eB v66)) rfl rfl rfl (o_as tk rfl (Wk.refl _)) ?_
          refine wpdS_nil ?_
          refine awp_ret ?_
          obtain rfl := Option.some.inj H65
          exact ⟨_, (eB v66), rfl, (.of_eq rfl), .of_eq ((enc_b td4 sz4).cut _ _ _), (hH.noT.drop n43)⟩
        · subst hb
          refine wpdS_skip rfl rfl rfl ?_
          refine wpdS_mv (a := (eB false)) rfl rfl rfl (o_pick_f tk rfl rfl (Wk.refl _)) ?_
          refine wpdS_mv (a := (eB false)) rfl rfl rfl (o_as tk rfl (Wk.refl _)) ?_
          refine wpdS_nil ?_
          refine awp_ret ?_
          obtain rfl := Option.some.inj H64
          exact ⟨_, (eB false), rfl, (.of_eq rfl), .of_eq ((enc_b td4 sz4).cut _ _ _), (hH.noT.drop n43)⟩
      · subst hb
        refine wpdS_skip rfl rfl rfl ?_
        refine wpdS_skip rfl rfl rfl ?_
        refine wpdS_skip rfl rfl rfl ?_
        refine wpdS_skip rfl rfl rfl ?_
        refine wpdS_skip rfl rfl rfl ?_
        refine wpdS_mv (a := (eB false)) rfl rfl rfl (o_pick_f tk rfl rfl (Wk.refl _)) ?_
        refine wpdS_mv (a := (eB false)) rfl rfl rfl (o_mv tk rfl (Wk.refl _)) ?_
        refine wpdS_skip rfl rfl rfl ?_
        refine wpdS_mv (a := (eB false)) rfl rfl rfl (o_pick_f tk rfl rfl (Wk.refl _)) ?_
        refine wpdS_mv (a := (eB false)) rfl rfl rfl (o_as tk rfl (Wk.refl _)) ?_
        refine wpdS_nil ?_
        refine awp_ret ?_
        obtain rfl := Option.some.inj H53
        exact ⟨_, (eB false), rfl, (.of_eq rfl), .of_eq ((enc_b td4 sz4).cut _ _ _), (hH.noT.drop n43)⟩
    · refine awp_loopO (body := fun s => butterylaw07_BloomOrder_b0 x0 s.1 s.2) hs16 (fun (s : (List (List (BitVec 8))) × Int) fr τ => ∃ tk_3, WkF fr (fm [(0, ((eL 1 eS) x0)), (3, (eT tk_3 1 eS s.1)), (4, (eI s.2))]) ∧ Holds σ [] [tk_3] τ) ⟨tk14, (wkf_cons (.of_eq rfl) (wkf_cons (.of_eq rfl) (wkf_cons (.of_eq rfl) (wkf_nil _)))), hH⟩ ?_
      rintro ⟨c12, c13⟩ fr τ y18 ⟨tk_3, hfr, hH⟩ hb20 hy21
      have H23 : butterylaw07_BloomOrder_b0 x0 c12 c13 = some y18 := hb20
      unfold butterylaw07_BloomOrder_b0 at H23
      refine AWP.fm [(0, ((eL 1 eS) x0)), (3, (eT tk_3 1 eS c12)), (4, (eI c13))] hfr ?_
      have hH : Holds σ [] [tk_3] τ := hH
      refine awp_seq ?_
      refine awp_seq ?_
      refine awp_region rfl ?_
      refine wpo_mv (a := (eI c13)) rfl rfl rfl (o_mv tk rfl (Wk.refl _)) ?_
      refine wpo_lt H23 eB rfl rfl rfl (o_ar tk rfl rfl rfl) fun v25 H24 => ?_
      refine wpo_nil ?_
      refine awp_if H24 rfl (fun H26 => ?_) (fun H26 => ?_)
      · refine awp_skip ?_
        refine awp_seq ?_
        refine awp_block ?_
        refine awp_drawS mixed [10] rfl (by decide +kernel) rfl rfl ?_
        refine wpdS_mv (a := (eT tk_3 1 eS c12)) rfl rfl rfl (o_mv tk rfl (Wk.refl _)) ?_
        refine wpdS_mv (a := ((eL 1 eS) x0)) rfl rfl rfl (o_mv tk rfl (Wk.refl _)) ?_
        refine wpdS_mv (a := (eI c13)) rfl rfl rfl (o_mv tk rfl (Wk.refl _)) ?_
        refine wpdS_bd H26 (fun y => .fptr (eS y).cells 0) rfl rfl rfl (fun v28 hv => o_ixa tk hv td41 (enc_s td9 sz9) rfl rfl) fun v28 hv28 H27 => ?_
        refine wpdS_mv (a := (eS v28)) rfl rfl rfl (o_ld_e tk (enc_s td9 sz9) rfl rfl) ?_
        refine wpdS_mv (a := ((eL 1 eS) x0)) rfl rfl rfl (o_mv tk rfl (Wk.refl _)) ?_
        refine wpdS_mv (a := (eI c13)) rfl rfl rfl (o_mv tk rfl (Wk.refl _)) ?_
        refine wpdS_bd H27 (fun y => .fptr (eS y).cells 0) rfl rfl rfl (fun v30 hv => o_ixa tk hv td41 (enc_s td9 sz9) rfl rfl) fun v30 hv30 H29 => ?_
        refine wpdS_mv (a := (eS v30)) rfl rfl rfl (o_ld_e tk (enc_s td9 sz9) rfl rfl) ?_
        refine wpdS_lt H29 (eF 1 eS) rfl rfl rfl (o_c tk false rfl (fun _ => rfl)) fun v32 H31 => ?_
        obtain ⟨v34, hv35, H33⟩ := Option.bind_eq_some_iff.1 H31
        refine wpdS_a (av := fun t => eT t 1 eS v34) rfl rfl rfl (h_app tk hH 0 hv35 rfl td41 ty9 rfl (by decide) rfl (src_l td41 rfl)) fun tk36 τ hH => ?_
        refine wpdS_mv (a := (eT tk36 1 eS v34)) rfl rfl rfl (o_as tk rfl (Wk.refl _)) ?_
        refine wpdS_nil ?_
        refine awp_region rfl ?_
        refine wpo_mv (a := (eI c13)) rfl rfl rfl (o_mv tk rfl (Wk.refl _)) ?_
        refine wpo_lt H33 eI rfl rfl rfl (o_ar tk rfl rfl rfl) fun v38 H37 => ?_
        refine wpo_mv (a := (eI v38)) rfl rfl rfl (o_as tk rfl (Wk.refl _)) ?_
        refine wpo_nil ?_
        exact ⟨(v34, v38), inj_inl H37, tk36, (wkf_cons (.of_eq rfl) (wkf_cons (.of_eq rfl) (wkf_cons (.of_eq rfl) (wkf_nil _)))), hH⟩
      · refine awp_exit ?_
        have hz := hy21 _ (inj_inr H26)
        subst hz
        exact ⟨⟨_, inj_inr H26⟩, tk_3, (wkf_cons (.of_eq rfl) (wkf_cons (.of_eq rfl) (wkf_nil _))), hH⟩
end Go.Proofs.Ytnjijefhnmnjgaa
namespace Go.Va
open Go Go.RowKit
set_option linter.unusedVariables false
set_option linter.unusedSimpArgs false

/-- What is known at a law's begin: what lies in memory. -/
def argG (w : World) : Ghost := ⟨fun b o => match w.cell? ⟨b, o, none⟩ with | some v => if v.oneCell' = true then some v else none | none => none, fun _ => none, fun _ => none, 0, fun _ => false⟩
theorem argG_fz {w : World} {b o : Nat} {v : Value} (h : w.cell? ⟨b, o, none⟩ = some v) (h1 : v.oneCell' = true) : (argG w).fz b o = some v := by
  simp [argG, h, h1]
theorem argG_inv (w : World) : Inv w (argG w) w ⟨[], []⟩ := by
  refine ⟨Below.refl _ _, fun b o v h => ?_, fun id c h => by simp at h, fun id b o h => by simp [argG] at h, fun id b h => by simp [argG] at h, fun i j b h => by simp [argG] at h, fun t b top en h => by simp at h, fun t x h => by simp [argG] at h, fun t t' x x' h => by simp at h, Nat.le_refl _, fun b h => by simp [argG] at h⟩
  simp only [argG] at h
  split at h
  case h_2 => cases h
  rename_i u hu
  split at h
  case isFalse => cases h
  rename_i h1
  cases h
  exact ⟨hu, h1⟩
/-- THE BRIDGE. -/
theorem ACall.said {P : Program} {n : FuncId} {args : List AV} {vs : Array Value} {w : World} (hc : ACall P n args ⟨[], []⟩ (fun a τ => a = eB true ∧ τ = ⟨[], []⟩)) (hr : RelL (argG w) vs.toList args) :
    Calls P n vs w fun e w' => e = .returned (.bool true) ∧ Below w.heap.size w w' :=
  (hc.2 w (argG w) w vs (argG_inv w) hr).mono fun e w' ⟨v, a, σ', G', h1, _, h3, h4, h5, _⟩ => by
    subst h5
    cases h4
    exact ⟨h1, h3.below⟩

/-- Data of a type, in memory, are values of a kind. -/
def Opens (P : Program) (t : TypeId) {α : Type} (e : α → AV) (wf : α → Prop) : Prop :=
  ∀ {H : Type} (enc : TypeId × Value → H) (w : World) (fuel : Nat) (cs : List Value) (x : DataW H × List MemPlace), DataW.trod enc P w 0 (fun _ => true) true fuel t cs = some x → ∃ y : α, wf y ∧ RelL (argG w) cs (e y).cells ∧ ∀ v ∈ cs, v.oneCell' = true
def wfI (k : IntKind) (n : Int) : Prop := k.min ≤ n ∧ n ≤ k.max
def wfL {α : Type} (wf : α → Prop) (l : List α) : Prop := l.length ≤ maxLen ∧ ∀ x ∈ l, wf x
def wfS (s : List (BitVec 8)) : Prop := s.length ≤ maxLen
def wfT {α : Type} (_ : α) : Prop := True
theorem wfI_i64 {n : Int} (h : wfI .i64 n) : -9223372036854775808 ≤ n ∧ n ≤ 9223372036854775807 := h
section
variable {P : Program} {Ty : TypeId → Option TI} {t E : TypeId}
theorem wf_iff {k : IntKind} {n : Int} (h : (Lit.int k n).wf = true) : wfI k n := by
  simp only [Lit.wf, Bool.and_eq_true, decide_eq_true_eq] at h; exact h
theorem opens_i {k : IntKind} (h : P.underlying t = some (.int k)) : Opens P t (eK k) (wfI k) := by
  intro H enc w fuel cs x hx
  obtain ⟨n, rfl, _, hw⟩ := DataW.trod_int h hx
  exact ⟨n, wf_iff hw, (RelL.nil _).cons (.int _ _), by simp [Value.oneCell']⟩
theorem opens_i64 (h : P.underlying t = some (.int .i64)) : Opens P t eI (wfI .i64) := opens_i h
theorem opens_u {k : IntKind} {m : Nat} (hs : k.signed = false) (hb : k.bits = m) (h : P.underlying t = some (.int k)) : Opens P t (@eU k m) wfT := by
  subst hb
  intro H enc w fuel cs x hx
  obtain ⟨n, rfl, _, hw⟩ := DataW.trod_int h hx
  have hw := wf_iff hw
  simp only [wfI, IntKind.min, IntKind.max, hs, Bool.false_eq_true, if_false] at hw
  refine ⟨BitVec.ofInt k.bits n, trivial, ?_, by simp [Value.oneCell']⟩
  have e : ((BitVec.ofInt k.bits n).toNat : Int) = n := by
    rw [BitVec.toNat_ofInt]
    have h2 : (2 : Int) ^ k.bits = ((2 ^ k.bits : Nat) : Int) := by simp
    rw [h2] at hw
    rw [Int.emod_eq_of_lt hw.1 (by omega), Int.toNat_of_nonneg hw.1]
  show RelL _ _ [AV.int k ((BitVec.ofInt k.bits n).toNat : Int)]
  rw [e]
  exact (RelL.nil _).cons (.int _ _)
theorem opens_b (h : P.underlying t = some .bool) : Opens P t eB wfT := by
  intro H enc w fuel cs x hx
  obtain ⟨b, rfl, _⟩ := DataW.trod_bool h hx
  exact ⟨b, trivial, (RelL.nil _).cons (.bool _), by simp [Value.oneCell']⟩
theorem opens_s (h : P.underlying t = some .string) : Opens P t eS wfS := by
  intro H enc w fuel cs x hx
  obtain ⟨s, rfl, _, hs⟩ := DataW.trod_string h hx
  refine ⟨s.data.toList.map (·.toBitVec), ?_, ?_, by simp [Value.oneCell']⟩
  · simpa [wfS] using hs
  · show RelL _ _ [AV.str _]
    rw [mkB_of]
    exact (RelL.nil _).cons (.str _)
theorem cellsOf_ty (hT : TyOk P Ty) {i : TI} (h : Ty t = some i) : P.cellsOf t = i.sz := by
  obtain ⟨_, ti, z, h1, h2, _⟩ := hT t i h
  simp [Program.cellsOf, h1, h2]
theorem cellsOf_sz (hT : TyOk P Ty) {sz : Nat} (h : szOf Ty t = sz) (h0 : sz ≠ 0) : P.cellsOf t = sz := by
  unfold szOf at h
  split at h
  · rename_i i hi; rw [cellsOf_ty hT hi, h]
  · exact absurd h.symm h0
theorem opens_l (hT : TyOk P Ty) {sz : Nat} {α : Type} {e : α → AV} {wf : α → Prop} (h : P.underlying t = some (.slice E)) (he : Enc Ty E sz e) (ho : Opens P E e wf) : Opens P t (eL sz e) (wfL wf) := by
  intro H enc w fuel cs x hx
  rcases DataW.trod_slice h hx with ⟨rfl, _⟩ | ⟨a, len, cap, elems, rest, n, _, rfl, _, _, hlc, hcm, hel, hat, _, _⟩
  · exact ⟨[], ⟨Nat.zero_le _, fun x hx => by cases hx⟩, (RelL.nil _).cons (.sl0 none 0 .no sz (Nat.zero_le _) (.inl rfl)), by simp [Value.oneCell']⟩
  · rw [cellsOf_sz hT he.ty he.pos] at hat
    have key : ∀ i, i < len → ∃ cs' y, w.cells? 0 (a.add (i * sz)) sz = some cs' ∧ wf y ∧ RelL (argG w) cs' (e y).cells ∧ ∀ v ∈ cs', v.oneCell' = true := fun i hi => by
      have h1 := hat i hi
      rw [List.getElem?_eq_getElem (by omega)] at h1
      obtain ⟨cs', h2, h3⟩ := Option.bind_eq_some_iff.1 h1
      obtain ⟨y, h4, h5, h6⟩ := ho enc w n cs' _ h3
      exact ⟨cs', y, h2, h4, h5, h6⟩
    -- the values, one by one
    have all : ∀ m, m ≤ len → ∃ ys : List α, ys.length = m ∧ (∀ y ∈ ys, wf y) ∧ ∀ (i : Nat) (y : α), ys[i]? = some y → ∃ cs', w.cells? 0 (a.add (i * sz)) sz = some cs' ∧ RelL (argG w) cs' (e y).cells ∧ ∀ v ∈ cs', v.oneCell' = true := by
      intro m
      induction m with
      | zero => exact fun _ => ⟨[], rfl, (fun y hy => by cases hy), fun i y hy => by simp at hy⟩
      | succ m ih =>
        intro hm
        obtain ⟨ys, h1, h2, h3⟩ := ih (by omega)
        obtain ⟨cs', y, k1, k2, k3, k4⟩ := key m (by omega)
        refine ⟨ys ++ [y], by simp [h1], fun z hz => ?_, fun i z hz => ?_⟩
        · rcases List.mem_append.1 hz with hz | hz
          · exact h2 z hz
          · simp at hz; subst hz; exact k2
        · rw [List.getElem?_append] at hz
          split at hz
          · exact h3 i z hz
          · rename_i hi
            have : i - ys.length = 0 := by
              rcases Nat.eq_zero_or_pos (i - ys.length) with h0 | h0
              · exact h0
              · rw [List.getElem?_eq_none (by simp; omega)] at hz; cases hz
            rw [this] at hz
            simp at hz
            subst hz
            rw [show i = m by omega]
            exact ⟨cs', k1, k3, k4⟩
    obtain ⟨ys, h1, h2, h3⟩ := all len (Nat.le_refl _)
    refine ⟨ys, ⟨by omega, h2⟩, (RelL.nil _).cons ?_, by simp [Value.oneCell']⟩
    have hz : ∀ z ∈ ys.map e, z.cells.length = sz := fun z hz => by obtain ⟨y, _, rfl⟩ := List.mem_map.1 hz; exact he.len y
    cases ys with
    | nil =>
      simp at h1
      subst h1
      exact .sl0 _ _ .no sz hcm (.inl rfl)
    | cons y0 ys0 =>
      have hsp : a.spot = none := by
        obtain ⟨cs', k1, _, _⟩ := h3 0 y0 rfl
        obtain ⟨_, k2, k3⟩ := World.cells?_some k1
        have := k3 0 (Nat.pos_of_ne_zero he.pos)
        rw [Nat.zero_mul] at this
        have e0 : (a.add 0).add 0 = a := by simp [Addr.add]
        rw [e0, List.getElem?_eq_getElem (by have := Nat.pos_of_ne_zero he.pos; omega)] at this
        exact World.cell?_spot this
      obtain ⟨b, o, sp⟩ := a
      simp only at hsp
      subst hsp
      have hl : ((y0 :: ys0).map e).length = len := by rw [List.length_map]; exact h1
      have hcell : ∀ (i : Nat) (z : AV) (j : Nat) (u : AV), ((y0 :: ys0).map e)[i]? = some z → z.cells[j]? = some u → ∃ v, w.cell? ⟨b, o + i * sz + j, none⟩ = some v ∧ v.oneCell' = true ∧ Rel (argG w) v u := by
        intro i z j u e1 e2
        rw [List.getElem?_map, Option.map_eq_some_iff] at e1
        obtain ⟨y, e1, rfl⟩ := e1
        obtain ⟨cs', k1, k2, k3⟩ := h3 i y e1
        obtain ⟨_, k4, k5⟩ := World.cells?_some k1
        obtain ⟨v, hv, hr⟩ := k2.get e2
        have hj : j < sz := by rw [← k4]; exact (List.getElem?_eq_some_iff.1 hv).1
        have := k5 j hj
        rw [Addr.add_lit, Addr.add_lit, hv] at this
        exact ⟨v, this, k3 v (List.mem_of_getElem? hv), hr⟩
      have key2 := Rel.sl (G := argG w) b o cap .no sz ((y0 :: ys0).map e) (fun i j => (w.cell? ⟨b, o + i * sz + j, none⟩).getD undef) (by rw [hl]; exact hlc) hcm hz (fun i z j u e1 e2 => by
        obtain ⟨v, k1, k2, k3⟩ := hcell i z j u e1 e2
        rw [k1]
        exact argG_fz k1 k2) (fun i z j u e1 e2 => by
        obtain ⟨v, k1, k2, k3⟩ := hcell i z j u e1 e2
        rw [k1]
        exact k3) trivial
      rw [hl] at key2
      exact key2
/-! ### structures -/
theorem rel_piece {G : Ghost} {cs : List Value} {o s : Nat} {a b : List AV} (h : RelL G ((cs.drop o).take s) a) (k : RelL G (cs.drop (o + s)) b) : RelL G (cs.drop o) (a ++ b) := by
  have := h.append k
  rw [← List.drop_drop, List.take_append_drop] at this
  exact this
theorem rel_end {G : Ghost} {cs : List Value} {n : Nat} (h : cs.length = n) : RelL G (cs.drop n) [] := by
  rw [List.drop_of_length_le (by omega)]; exact RelL.nil G
theorem one_piece {cs : List Value} {o s : Nat} (h : ∀ v ∈ (cs.drop o).take s, v.oneCell' = true) (k : ∀ v ∈ cs.drop (o + s), v.oneCell' = true) : ∀ v ∈ cs.drop o, v.oneCell' = true := by
  intro v hv
  rw [← List.take_append_drop s (cs.drop o), List.drop_drop] at hv
  rcases List.mem_append.1 hv with hv | hv
  · exact h v hv
  · exact k v hv
theorem one_end {cs : List Value} {n : Nat} (h : cs.length = n) : ∀ v ∈ cs.drop n, v.oneCell' = true := by
  rw [List.drop_of_length_le (by omega)]; intro v hv; cases hv
theorem opens_f {fs : Array Field} {α : Type} {e : α → AV} {wf : α → Prop} {H : Type} {enc : TypeId × Value → H} {w : World} {m : Nat} {cs : List Value} {xs : List (DataW H × List MemPlace)} (hx : ∀ (i : Nat) (f : Field), fs[i]? = some f → DataW.trod enc P w 0 (fun _ => true) true m f.type ((cs.drop f.offset).take (P.cellsOf f.type)) = xs[i]?) (hl : xs.length = fs.size)
    (i : Nat) {f : Field} {o s : Nat} (hf : fs[i]? = some f) (ht : Opens P f.type e wf) (ho : f.offset = o) (hs : P.cellsOf f.type = s) : ∃ y, wf y ∧ RelL (argG w) ((cs.drop o).take s) (e y).cells ∧ ∀ v ∈ (cs.drop o).take s, v.oneCell' = true := by
  subst ho; subst hs
  have h1 := hx i f hf
  have hi : i < fs.size := (Array.getElem?_eq_some_iff.1 hf).1
  rw [List.getElem?_eq_getElem (by omega)] at h1
  exact ht enc w m _ _ h1
/-- An argument, opened. -/
theorem Opens.arg {α : Type} {e : α → AV} {wf : α → Prop} (ho : Opens P t e wf) {sz : Nat} (he : Enc Ty t sz e) (hd : TdOk P t (tdOf Ty t)) {H : Type} {enc : TypeId × Value → H} {w : World} {r : Reach} {b0 : Nat} {v : Value} {d : DataW H} {ps : List MemPlace} (hval : Value.okWide P w r b0 t v) (h : DataW.Trod enc P w 0 (fun _ => true) true t v d ps) : ∃ y : α, wf y ∧ Rel (argG w) v (e y) := by
  obtain ⟨fuel, hf⟩ := h
  obtain ⟨y, h1, h2, _⟩ := ho enc w fuel _ _ hf
  refine ⟨y, h1, ?_⟩
  cases ha : isAggTD (tdOf Ty t) with
  | true =>
    have : ∃ cs, v = .agg cs := by
      cases htd : tdOf Ty t <;> rw [htd] at ha hd <;> simp [isAggTD] at ha
      · simp only [TdOk] at hd
        simp only [Value.okWide, hd] at hval
        obtain ⟨cs, h, _⟩ := hval; exact ⟨cs, h⟩
      · simp only [TdOk] at hd
        obtain ⟨fs, hd, _⟩ := hd
        simp only [Value.okWide, hd] at hval
        obtain ⟨cs, h, _⟩ := hval; exact ⟨cs, h⟩
    obtain ⟨cs, rfl⟩ := this
    rw [he.agg ha y]
    exact mkAgg (by simpa [Value.cells] using h2)
  | false =>
    rw [he.one ha y] at h2
    have hne : ∀ cs, v ≠ .agg cs := by
      rintro cs rfl
      have hl := h2.len
      simp only [Value.cells, List.length_singleton] at hl
      cases htd : tdOf Ty t <;> rw [htd] at ha hd <;> simp [isAggTD] at ha <;> simp only [TdOk] at hd
      case iface => obtain ⟨ms, hd⟩ := hd; simp [Value.okWide, hd, Cell.okWide, Cell.ok] at hval
      case func => obtain ⟨ps, rs, vv, hd⟩ := hd; simp [Value.okWide, hd, Cell.okWide, Cell.ok] at hval
      all_goals simp [Value.okWide, hd, Cell.okWide, Cell.ok] at hval
    have hc : v.cells.toList = [v] := by cases v <;> first | rfl | exact absurd rfl (hne _)
    rw [hc] at h2
    exact h2.at_ 0 v (e y) rfl rfl
end
end Go.Va
namespace Go.Va
open Go
set_option linter.unusedVariables false
set_option linter.unusedSimpArgs false

theorem loopO_up {S X : Type} {body : S → Option (S ⊕ X)} (g : Nat → S) (n : Nat) {x : X} (h : ∀ i, i < n → body (g i) = some (.inl (g (i + 1)))) (hx : body (g n) = some (.inr x)) : loopO body (g 0) = some x := by
  have key : ∀ k, k ≤ n → loopO body (g (n - k)) = some x := by
    intro k
    induction k with
    | zero => intro _; exact loopO_out hx
    | succ k ih =>
      intro hk
      rw [loopO_in (h (n - (k + 1)) (by omega)), show n - (k + 1) + 1 = n - k by omega]
      exact ih (by omega)
  have := key n (Nat.le_refl _)
  rwa [Nat.sub_self] at this
/-- What a round comes to that may leave. -/
def nx {S X : Type} (o : Option X) (s : S) : S ⊕ X := match o with | none => .inl s | some y => .inr y
/-- A loop that leaves early, at the first round that says so. -/
theorem loopO_find {S X : Type} {body : S → Option (S ⊕ X)} (g : Nat → S) (n : Nat) (f : Nat → Option X) {x : X} (h : ∀ i, i < n → body (g i) = some (nx (f i) (g (i + 1)))) (hx : body (g n) = some (.inr x)) : loopO body (g 0) = some (((List.range n).findSome? f).getD x) := by
  have key : ∀ k, k ≤ n → loopO body (g (n - k)) = some (((List.range' (n - k) k).findSome? f).getD x) := by
    intro k
    induction k with
    | zero => intro _; exact loopO_out hx
    | succ k ih =>
      intro hk
      rw [List.range'_succ, List.findSome?_cons]
      have h1 := h (n - (k + 1)) (by omega)
      cases hf : f (n - (k + 1)) with
      | none =>
        rw [hf] at h1
        rw [loopO_in (s' := g (n - (k + 1) + 1)) h1, show n - (k + 1) + 1 = n - k by omega]
        exact ih (by omega)
      | some y => rw [hf] at h1; exact loopO_out h1
  have := key n (Nat.le_refl _)
  rwa [Nat.sub_self, ← List.range_eq_range'] at this
theorem loopO_inv {S X : Type} {body : S → Option (S ⊕ X)} (I : S → Prop) (m : S → Nat) (Q : X → Prop) (h : ∀ s, I s → (∃ s', body s = some (.inl s') ∧ I s' ∧ m s' < m s) ∨ ∃ x, body s = some (.inr x) ∧ Q x) {s : S} (h0 : I s) : ∃ x, loopO body s = some x ∧ Q x := by
  generalize hk : m s = k
  induction k using Nat.strongRecOn generalizing s with
  | _ k ih =>
    rcases h s h0 with ⟨s', h1, h2, h3⟩ | ⟨x, h1, h2⟩
    · obtain ⟨x, k1, k2⟩ := ih (m s') (hk ▸ h3) h2 rfl
      exact ⟨x, by rw [loopO_in h1]; exact k1, k2⟩
    · exact ⟨x, loopO_out h1, h2⟩
/-- A loop that goes through a list. -/
theorem loopO_foldl {α σ X : Type} (l : List α) (f : σ → α → σ) (fin : σ → X) {body : σ × Int → Option ((σ × Int) ⊕ X)} (h1 : ∀ (s : σ) (i : Nat) (hi : i < l.length), body (s, (i : Int)) = some (.inl (f s l[i], ((i + 1 : Nat) : Int)))) (h2 : ∀ s, body (s, (l.length : Int)) = some (.inr (fin s))) (s0 : σ) : loopO body (s0, 0) = some (fin (l.foldl f s0)) := by
  have := loopO_up (body := body) (fun i => ((l.take i).foldl f s0, (i : Int))) l.length (x := fin (l.foldl f s0)) (fun i hi => by
    rw [h1 _ i hi, List.take_succ_eq_append_getElem hi, List.foldl_append]; rfl) (by rw [List.take_length]; exact h2 _)
  simpa using this
theorem loopO_foldl' {α σ X : Type} (l : List α) (f : σ → α → σ) (fin : σ → X) {body : Int × σ → Option ((Int × σ) ⊕ X)} (h1 : ∀ (s : σ) (i : Nat) (hi : i < l.length), body ((i : Int), s) = some (.inl (((i + 1 : Nat) : Int), f s l[i]))) (h2 : ∀ s, body ((l.length : Int), s) = some (.inr (fin s))) (s0 : σ) : loopO body (0, s0) = some (fin (l.foldl f s0)) := by
  have := loopO_up (body := body) (fun i => ((i : Int), (l.take i).foldl f s0)) l.length (x := fin (l.foldl f s0)) (fun i hi => by
    rw [h1 _ i hi, List.take_succ_eq_append_getElem hi, List.foldl_append]; rfl) (by rw [List.take_length]; exact h2 _)
  simpa using this
/-- A number of rounds. -/
theorem loopO_iter {σ X : Type} (n : Nat) (f : Nat → σ → σ) (fin : σ → X) {body : σ × Int → Option ((σ × Int) ⊕ X)} (h1 : ∀ (s : σ) (i : Nat), i < n → body (s, (i : Int)) = some (.inl (f i s, ((i + 1 : Nat) : Int)))) (h2 : ∀ s, body (s, (n : Int)) = some (.inr (fin s))) (s0 : σ) : loopO body (s0, 0) = some (fin ((List.range n).foldl (fun s i => f i s) s0)) := by
  have := loopO_up (body := body) (fun i => ((List.range i).foldl (fun s i => f i s) s0, (i : Int))) n (x := fin ((List.range n).foldl (fun s i => f i s) s0)) (fun i hi => by
    rw [h1 _ i hi, List.range_succ, List.foldl_append]; rfl) (h2 _)
  simpa using this

theorem ix_nat {α : Type} {l : List α} {i : Nat} (h : i < l.length) : ix l (i : Int) = some l[i] := by
  unfold ix
  rw [if_pos (by omega)]
  simp [h]
theorem ix_get {α : Type} (l : List α) (i : Nat) : ix l (i : Int) = l[i]? := by
  unfold ix
  rw [if_pos (by omega)]
  simp
theorem ix_none {α : Type} {l : List α} {i : Int} (h : i < 0 ∨ (l.length : Int) ≤ i) : ix l i = none := by
  unfold ix
  split
  · rw [List.getElem?_eq_none]; omega
  · rfl
theorem ixA_nat {α : Type} {l : List α} {n i : Nat} (hn : i < n) (h : i < l.length) : ixA n l (i : Int) = some l[i] := by
  unfold ixA
  rw [if_pos ⟨by omega, by omega⟩]
  simp [h]
theorem w64_nat {i : Nat} (h : i < 9223372036854775807) : w64 ((i : Int) + 1) = ((i + 1 : Nat) : Int) := by
  rw [w64_eq (by omega) (by omega)]; omega
theorem whole_eq {α : Type} {n : Nat} {l : List α} (h : l.length = n) : whole n l = some l := by simp [whole, h]
theorem stW_eq {α : Type} {n : Nat} {l y : List α} (h : l.length = n) (h2 : y.length = n) : stW n l y = some y := by simp [stW, whole, h, h2]
theorem app_eq {α : Type} {b : Nat} {l m : List α} (h : (l.length + m.length) * b ≤ 140737488355328) : app b l m = some (l ++ m) := by simp [app, h]
theorem cutTo_eq {α : Type} {l : List α} {n : Nat} (h : n ≤ l.length) : cutTo l (n : Int) = some (l.take n) := by
  unfold cutTo
  rw [if_pos ⟨by omega, by omega⟩]; simp
theorem cutFrom_eq {α : Type} {l : List α} {n : Nat} (h : n ≤ l.length) : cutFrom l (n : Int) = some (l.drop n) := by
  unfold cutFrom
  rw [if_pos ⟨by omega, by omega⟩]; simp
theorem cutO_eq {α : Type} {l : List α} {n m : Nat} (h : n ≤ m) (h2 : m ≤ l.length) : cutO l (n : Int) (m : Int) = some ((l.take m).drop n) := by
  unfold cutO
  rw [if_pos ⟨by omega, by omega, by omega⟩]; simp
theorem sc_eq {y : Int} (h : 0 ≤ y) : sc y = some y.toNat := by
  unfold sc; rw [if_neg (by omega)]
theorem dv_eq {y : Int} (h : y ≠ 0) : dv y = some y := by unfold dv; rw [if_neg h]
theorem dvU_eq {w : Nat} {y : BitVec w} (h : y ≠ 0#w) : dvU y = some y := by unfold dvU; rw [if_neg h]
theorem eqA_eq {α : Type} [DecidableEq α] {n : Nat} {x y : List α} (h : x.length = n) (h2 : y.length = n) : eqA n x y = some (x == y) := by simp [eqA, h, h2]
theorem map_len_foldl {α σ : Type} (P : σ → Prop) (f : σ → α → σ) (h : ∀ s a, P s → P (f s a)) : ∀ (l : List α) (s : σ), P s → P (l.foldl f s)
  | [], s, hs => hs
  | a :: l, s, hs => map_len_foldl P f h l _ (h s a hs)
end Go.Va
namespace Go.Proofs.Ytnjijefhnmnjgaa
open Go Go.Va
set_option linter.unusedVariables false
set_option linter.unusedSimpArgs false
set_option maxRecDepth 20000
noncomputable def butteryref07_fold (x0 : BitVec 64) : Option ((BitVec 64)) :=
  lt (x0 / 8589934592#64) fun v2 =>
  lt (x0 ^^^ v2) fun v4 =>
  some v4
end Go.Proofs.Ytnjijefhnmnjgaa
namespace Go.Proofs.Ytnjijefhnmnjgaa
open Go Go.Va
set_option linter.unusedVariables false
set_option linter.unusedSimpArgs false
set_option maxRecDepth 20000
noncomputable def butteryref07_Mix (x0 : BitVec 64) : Option ((BitVec 64)) :=
  (butteryref07_fold x0).bind fun v2 =>
  lt (v2 * 18397679294719823053#64) fun v4 =>
  (butteryref07_fold v4).bind fun v6 =>
  lt (v6 * 14181476777654086739#64) fun v8 =>
  (butteryref07_fold v8).bind fun v10 =>
  some v10
end Go.Proofs.Ytnjijefhnmnjgaa
namespace Go.Proofs.Ytnjijefhnmnjgaa
open Go Go.Va
set_option linter.unusedVariables false
set_option linter.unusedSimpArgs false
set_option maxRecDepth 20000
noncomputable def butteryref07_Hash_b0 (x0 : List (BitVec 8)) (c1 : BitVec 64) (c2 : Int) : Option (((BitVec 64) × Int) ⊕ ((BitVec 64))) :=
  lt (((x0).length : Int)) fun v13 =>
  lt (decide (c2 < v13)) fun v15 =>
  if v15 = true then
    (ix x0 c2).bind fun v18 =>
    lt (BitVec.setWidth 64 v18) fun v20 =>
    lt (c1 ^^^ v20) fun v22 =>
    lt (v22 * 1099511628211#64) fun v24 =>
    lt (w64 (c2 + (1 : Int))) fun v26 =>
    some (.inl (v24, v26))
  else
    some (.inr c1)
noncomputable def butteryref07_Hash_l0 (x0 : List (BitVec 8)) (s : (BitVec 64) × Int) : Option ((BitVec 64)) := loopO (fun s => butteryref07_Hash_b0 x0 s.1 s.2) s
noncomputable def butteryref07_Hash (x0 : List (BitVec 8)) : Option ((BitVec 64)) :=
  (butteryref07_Hash_l0 x0 (14695981039346656037#64, (0 : Int))).bind fun s10 =>
    (butteryref07_Mix s10).bind fun v29 =>
    some v29
end Go.Proofs.Ytnjijefhnmnjgaa
namespace Go.Proofs.Ytnjijefhnmnjgaa
open Go Go.Va
set_option linter.unusedVariables false
set_option linter.unusedSimpArgs false
set_option maxRecDepth 20000
noncomputable def butteryref07_Slot (x0 : BitVec 64) (x1 : Int) : Option (Int) :=
  lt (decide (x1 < (1 : Int))) fun v2 =>
  if v2 = true then
    some (0 : Int)
  else
    lt (BitVec.ofInt 64 x1) fun v5 =>
    ((dvU v5).map fun m => x0 % m).bind fun v7 =>
    lt (BitVec.toInt v7) fun v9 =>
    some v9
end Go.Proofs.Ytnjijefhnmnjgaa
namespace Go.Proofs.Ytnjijefhnmnjgaa
open Go Go.Va
set_option linter.unusedVariables false
set_option linter.unusedSimpArgs false
def fold (h : BitVec 64) : BitVec 64 := h ^^^ (h >>> 33)
def mix0 (h : BitVec 64) : BitVec 64 := fold (fold (fold h * 18397679294719823053#64) * 14181476777654086739#64)
/-- A name that nothing looks behind (a great product would be unfolded number by number). -/
theorem mix_ex : ∃ f : BitVec 64 → BitVec 64, ∀ h, f h = mix0 h := ⟨mix0, fun _ => rfl⟩
noncomputable def mix : BitVec 64 → BitVec 64 := Classical.choose mix_ex
theorem mix_def (h : BitVec 64) : mix h = mix0 h := Classical.choose_spec mix_ex h
theorem bloom_Mix_eq (h : BitVec 64) : bloom_Mix h = some (mix h) := by rw [mix_def]; simp only [bloom_Mix, lt_eq, mix0, fold]
theorem div33 (h : BitVec 64) : h / 8589934592#64 = h >>> 33 := by
  apply BitVec.eq_of_toNat_eq
  simp [Nat.shiftRight_eq_div_pow]
theorem fold_eq (h : BitVec 64) : butteryref07_fold h = some (fold h) := by simp only [butteryref07_fold, lt_eq, div33, fold]
theorem refMix_eq (h : BitVec 64) : butteryref07_Mix h = some (mix h) := by rw [mix_def]; simp only [butteryref07_Mix, lt_eq, fold_eq, Option.bind_some, mix0]
theorem fold_fold (h : BitVec 64) : fold (fold h) = h := by
  apply BitVec.eq_of_getLsbD_eq
  intro i hi
  simp only [fold, BitVec.getLsbD_xor, BitVec.getLsbD_ushiftRight]
  have : h.getLsbD (33 + (33 + i)) = false := BitVec.getLsbD_of_ge _ _ (by omega)
  rw [this]
  cases h.getLsbD i <;> cases h.getLsbD (33 + i) <;> rfl
theorem mul1 (h : BitVec 64) : h * 18397679294719823053#64 * 5725274745694666757#64 = h := by
  rw [BitVec.mul_assoc, show 18397679294719823053#64 * 5725274745694666757#64 = 1#64 by decide, BitVec.mul_one]
theorem mul2 (h : BitVec 64) : h * 14181476777654086739#64 * 11291846944257947611#64 = h := by
  rw [BitVec.mul_assoc, show 14181476777654086739#64 * 11291846944257947611#64 = 1#64 by decide, BitVec.mul_one]
def unmix (h : BitVec 64) : BitVec 64 := fold (fold (fold h * 11291846944257947611#64) * 5725274745694666757#64)
theorem unmix_mix (h : BitVec 64) : unmix (mix h) = h := by rw [mix_def]; simp only [unmix, mix0, fold_fold, mul1, mul2]
theorem mix_inj (a b : BitVec 64) : (mix a == mix b) = (a == b) := by
  rw [Bool.eq_iff_iff]
  simp only [beq_iff_eq]
  exact ⟨fun h => by rw [← unmix_mix a, h, unmix_mix], fun h => by rw [h]⟩

def stir (h : BitVec 64) (c : BitVec 8) : BitVec 64 := (h ^^^ c.setWidth 64) * 1099511628211#64
def hash0 (k : List (BitVec 8)) : BitVec 64 := mix0 (k.foldl stir 14695981039346656037#64)
theorem hash_ex : ∃ f : List (BitVec 8) → BitVec 64, ∀ h, f h = hash0 h := ⟨hash0, fun _ => rfl⟩
noncomputable def hash : List (BitVec 8) → BitVec 64 := Classical.choose hash_ex
theorem hash_def (h : List (BitVec 8)) : hash h = hash0 h := Classical.choose_spec hash_ex h
theorem bloom_Hash_eq (k : List (BitVec 8)) (hk : k.length ≤ 1000000) : bloom_Hash k = some (hash k) := by
  have h := loopO_foldl k stir id (body := fun s => bloom_Hash_b0 k k.length s.1 s.2) (fun s i hi => by
    simp only [bloom_Hash_b0, lt_eq, ix_nat hi, Option.bind_some, w64_nat (show i < 9223372036854775807 by omega)]
    rw [if_pos (by simpa using hi)]; rfl) (fun s => by simp [bloom_Hash_b0, lt_eq]) 14695981039346656037#64
  simp only [bloom_Hash, lt_eq, bloom_Hash_l0, h, Option.bind_some, bloom_Mix_eq, hash_def, hash0, mix_def, id]
theorem refHash_eq (k : List (BitVec 8)) (hk : k.length ≤ 1000000) : butteryref07_Hash k = some (hash k) := by
  have h := loopO_foldl k stir id (body := fun s => butteryref07_Hash_b0 k s.1 s.2) (fun s i hi => by
    simp only [butteryref07_Hash_b0, lt_eq, ix_nat hi, Option.bind_some, w64_nat (show i < 9223372036854775807 by omega)]
    rw [if_pos (by simpa using hi)]; rfl) (fun s => by simp [butteryref07_Hash_b0, lt_eq]) 14695981039346656037#64
  simp only [butteryref07_Hash, lt_eq, butteryref07_Hash_l0, h, Option.bind_some, refMix_eq, hash_def, hash0, mix_def, id]

/-! ### filters -/
def plc (h : BitVec 64) : List (BitVec 64) := [h &&& 127#64, (h >>> 21) &&& 127#64, (h >>> 42) &&& 127#64]
theorem toInt127 (h : BitVec 64) : (h &&& 127#64).toInt = ((h &&& 127#64).toNat : Int) := by
  have : (h &&& 127#64).toNat ≤ 127 := by rw [BitVec.toNat_and]; exact Nat.and_le_right
  rw [BitVec.toInt_eq_toNat_of_lt (by omega)]
def plN (h : BitVec 64) : List Nat := (plc h).map (·.toNat)
def plI (h : BitVec 64) : List Int := (plN h).map (fun n : Nat => (n : Int))
theorem plN_lt (h : BitVec 64) : ∀ n ∈ plN h, n < 128 := by
  have key : ∀ x : BitVec 64, (x &&& 127#64).toNat < 128 := fun x => by
    have : (x &&& 127#64).toNat ≤ 127 := by rw [BitVec.toNat_and]; exact Nat.and_le_right
    omega
  simp only [plN, plc, List.map_cons, List.map_nil, List.mem_cons, List.not_mem_nil, or_false]
  rintro n (rfl | rfl | rfl) <;> exact key _
theorem bits_eq (h : BitVec 64) : bloom_bits h = some (plI h) := by
  simp only [bloom_bits, lt_eq, toInt127]
  rw [stW_eq (by simp) (by simp), Option.bind_some, whole_eq (by simp)]; rfl
theorem shr6 {n : Nat} (h : n < 128) : shr64 (n : Int) 6 = ((n / 64 : Nat) : Int) := by
  unfold shr64
  rw [Int.fdiv_eq_ediv_of_nonneg _ (by decide)]
  show (n : Int) / 64 = _
  omega
theorem and63 {n : Nat} (h : n < 128) : and64 (n : Int) 63 = ((n % 64 : Nat) : Int) := by
  have : ∀ m : Fin 128, and64 (m.val : Int) 63 = ((m.val % 64 : Nat) : Int) := by decide
  exact this ⟨n, h⟩
/-- A filter with a place more; whether a place is set. -/
def putN (f : List (BitVec 64)) (n : Nat) : List (BitVec 64) := f.set (n / 64) (f.getD (n / 64) 0 ||| (1#64 <<< (n % 64)))
def hasN (f : List (BitVec 64)) (n : Nat) : Bool := !((f.getD (n / 64) 0 >>> (n % 64)) &&& 1#64 == 0#64)
def addF (f : List (BitVec 64)) (h : BitVec 64) : List (BitVec 64) := (plN h).foldl putN f
def mayF (f : List (BitVec 64)) (h : BitVec 64) : Bool := (plN h).all (hasN f)
noncomputable def ofF (l : List (List (BitVec 8))) : List (BitVec 64) := l.foldl (fun f k => addF f (hash k)) [0#64, 0#64]
def bothF (f g : List (BitVec 64)) : List (BitVec 64) := [f.getD 0 0 ||| g.getD 0 0, f.getD 1 0 ||| g.getD 1 0]
theorem putN_len (f : List (BitVec 64)) (n : Nat) : (putN f n).length = f.length := by simp [putN]
theorem addF_len {f : List (BitVec 64)} (hf : f.length = 2) (h : BitVec 64) : (addF f h).length = 2 :=
  map_len_foldl (fun f : List (BitVec 64) => f.length = 2) putN (fun s a hs => by rw [putN_len]; exact hs) _ _ hf
theorem ofF_len (l : List (List (BitVec 8))) : (ofF l).length = 2 := map_len_foldl (fun f : List (BitVec 64) => f.length = 2) _ (fun s a hs => addF_len hs _) _ _ rfl
theorem ixF {f : List (BitVec 64)} (hf : f.length = 2) {n : Nat} (h : n < 128) : ixA 2 f ((n / 64 : Nat) : Int) = some (f.getD (n / 64) 0) := by
  rw [ixA_nat (by omega) (by omega), List.getD_eq_getElem?_getD, List.getElem?_eq_getElem (by omega)]; rfl
theorem May_eq {f : List (BitVec 64)} (hf : f.length = 2) (h : BitVec 64) : bloom_Filter_May f h = some (mayF f h) := by
  have hl : (plI h).length = 3 := rfl
  have hb : ∀ i : Nat, i < 3 → bloom_Filter_May_b0 f (plI h) (i : Int) = some (nx (if hasN f ((plN h).getD i 0) then none else some (Sum.inr false : Unit ⊕ Bool)) ((i + 1 : Nat) : Int)) := fun i hi => by
    have hn : (plN h).getD i 0 < 128 := by
      rw [List.getD_eq_getElem?_getD, List.getElem?_eq_getElem (show i < (plN h).length from hi)]
      exact plN_lt h _ (List.getElem_mem _)
    have hx : ixA 3 (plI h) (i : Int) = some (((plN h).getD i 0 : Nat) : Int) := by
      rw [ixA_nat hi (by rw [hl]; exact hi)]
      simp only [plI, List.getElem_map, List.getD_eq_getElem?_getD, List.getElem?_eq_getElem (show i < (plN h).length from hi), Option.getD_some]
    simp only [bloom_Filter_May_b0, lt_eq]
    rw [if_pos (by simpa using (by omega : (i : Int) < 3)), hx, Option.bind_some, shr6 hn, ixF hf hn, Option.bind_some, and63 hn, sc_eq (by omega), Option.map_some, Option.bind_some, w64_nat (by omega)]
    simp only [hasN, Int.toNat_natCast]
    by_cases hc : (f.getD ((plN h).getD i 0 / 64) 0 >>> ((plN h).getD i 0 % 64) &&& 1#64 == 0#64) = true
    · simp only [hc, if_true, Bool.not_true, Bool.false_eq_true, if_false, nx]
    · simp only [hc, if_false, Bool.not_eq_true _ ▸ hc]; simp [nx]
  have := loopO_find (body := bloom_Filter_May_b0 f (plI h)) (fun i => (i : Int)) 3 _ hb (x := .inl ()) (by simp [bloom_Filter_May_b0, lt_eq])
  simp only [bloom_Filter_May, bits_eq, Option.bind_some, bloom_Filter_May_l0]
  have e0 : (0 : Int) = ((0 : Nat) : Int) := rfl
  rw [e0, this]
  simp only [Option.bind_some, mayF]
  rw [show plN h = [(plN h).getD 0 0, (plN h).getD 1 0, (plN h).getD 2 0] from rfl]
  simp only [show List.range 3 = [0, 1, 2] from rfl, List.findSome?_cons, List.findSome?_nil, List.all_cons, List.all_nil, List.getD_cons_zero, List.getD_cons_succ]
  cases hasN f ((plN h).getD 0 0) <;> cases hasN f ((plN h).getD 1 0) <;> cases hasN f ((plN h).getD 2 0) <;> rfl
theorem Add_eq {f : List (BitVec 64)} (hf : f.length = 2) (h : BitVec 64) : bloom_Filter_Add f h = some (addF f h) := by
  have hl : (plI h).length = 3 := rfl
  have hb : ∀ i : Nat, i < 3 → ∀ s : List (BitVec 64), s.length = 2 → bloom_Filter_Add_b0 (plI h) (i : Int) s = some (.inl (((i + 1 : Nat) : Int), putN s ((plN h).getD i 0))) := fun i hi s hs => by
    have hn : (plN h).getD i 0 < 128 := by
      rw [List.getD_eq_getElem?_getD, List.getElem?_eq_getElem (show i < (plN h).length from hi)]
      exact plN_lt h _ (List.getElem_mem _)
    have hx : ixA 3 (plI h) (i : Int) = some (((plN h).getD i 0 : Nat) : Int) := by
      rw [ixA_nat hi (by rw [hl]; exact hi)]
      simp only [plI, List.getElem_map, List.getD_eq_getElem?_getD, List.getElem?_eq_getElem (show i < (plN h).length from hi), Option.getD_some]
    have hc : chk 2 (((plN h).getD i 0 / 64 : Nat) : Int) = some () := by unfold chk; rw [if_pos (by omega)]
    simp only [bloom_Filter_Add_b0, lt_eq]
    rw [if_pos (by simpa using (by omega : (i : Int) < 3)), hx, Option.bind_some, shr6 hn, hc, Option.bind_some, ixF hs hn, Option.bind_some, and63 hn, sc_eq (by omega), Option.map_some, Option.bind_some, w64_nat (by omega)]
    simp only [hc, Option.bind_some, updA, ixF hs hn, Option.map_some, Int.toNat_natCast, putN]
  have := loopO_up (body := fun s => bloom_Filter_Add_b0 (plI h) s.1 s.2) (fun i => ((i : Int), ((plN h).take i).foldl putN f)) 3 (x := addF f h) (fun i hi => by
    have hlen : (((plN h).take i).foldl putN f).length = 2 := map_len_foldl (fun f : List (BitVec 64) => f.length = 2) putN (fun s a hs => by rw [putN_len]; exact hs) _ _ hf
    simp only [hb i hi _ hlen]
    have hi' : i < (plN h).length := hi
    rw [List.take_succ_eq_append_getElem hi', List.foldl_append]
    simp [List.getD_eq_getElem?_getD, List.getElem?_eq_getElem hi']) (by
    simp only [bloom_Filter_Add_b0, lt_eq]
    rw [if_neg (by simp)]
    rfl)
  simp only [bloom_Filter_Add, bits_eq, Option.bind_some, bloom_Filter_Add_l0]
  have e0 : ((0 : Int), f) = ((((0 : Nat) : Int)), ((plN h).take 0).foldl putN f) := rfl
  rw [e0, this, Option.bind_some, whole_eq (addF_len hf h), Option.bind_some, stW_eq (by simp) (addF_len hf h), Option.bind_some, whole_eq (addF_len hf h), Option.bind_some]
theorem Of_eq (l : List (List (BitVec 8))) (hl : l.length ≤ 1000000) (hk : ∀ k ∈ l, k.length ≤ 1000000) : bloom_Of l = some (ofF l) := by
  have := loopO_up (body := fun s => bloom_Of_b0 l l.length s.1 s.2) (fun i => ((i : Int), (l.take i).foldl (fun f k => addF f (hash k)) [0#64, 0#64])) l.length (x := ofF l) (fun i hi => by
    have hlen := ofF_len (l.take i)
    simp only [ofF] at hlen
    simp only [bloom_Of_b0, lt_eq]
    rw [if_pos (by simpa using hi), ix_nat hi, Option.bind_some, whole_eq hlen, Option.bind_some, bloom_Hash_eq _ (hk _ (List.getElem_mem hi)), Option.bind_some, Add_eq hlen, Option.bind_some, stW_eq hlen (addF_len hlen _), Option.bind_some, w64_nat (by omega), List.take_succ_eq_append_getElem hi, List.foldl_append]
    rfl) (by
    simp only [bloom_Of_b0, lt_eq]
    rw [if_neg (by simp), List.take_length]; rfl)
  simp only [bloom_Of, lt_eq, bloom_Of_l0]
  have e0 : ((0 : Int), List.replicate 2 0#64) = ((((0 : Nat) : Int)), (l.take 0).foldl (fun f k => addF f (hash k)) [0#64, 0#64]) := rfl
  rw [e0, this, Option.bind_some, whole_eq (ofF_len l), Option.bind_some, stW_eq (by simp) (ofF_len l), Option.bind_some, whole_eq (ofF_len l), Option.bind_some]
theorem Both_eq {f g : List (BitVec 64)} (hf : f.length = 2) (hg : g.length = 2) : bloom_Both f g = some (bothF f g) := by
  obtain ⟨a, b, rfl⟩ : ∃ a b, f = [a, b] := by match f, hf with | [a, b], _ => exact ⟨a, b, rfl⟩
  obtain ⟨c, d, rfl⟩ : ∃ a b, g = [a, b] := by match g, hg with | [a, b], _ => exact ⟨a, b, rfl⟩
  rfl
end Go.Proofs.Ytnjijefhnmnjgaa
namespace Go.Proofs.Ytnjijefhnmnjgaa
open Go Go.Va
set_option linter.unusedVariables false
set_option linter.unusedSimpArgs false
set_option maxRecDepth 20000
noncomputable def butteryref07_Places (x0 : BitVec 64) : Option ((List Int)) :=
  lt (x0 % 128#64) fun v2 =>
  lt (BitVec.toInt v2) fun v4 =>
  lt (x0 / 2097152#64) fun v6 =>
  lt (v6 % 128#64) fun v8 =>
  lt (BitVec.toInt v8) fun v10 =>
  lt (x0 / 4398046511104#64) fun v12 =>
  lt (v12 % 128#64) fun v14 =>
  lt (BitVec.toInt v14) fun v16 =>
  lt (([v4, v10, v16] : List Int)) fun v18 =>
  some v18
end Go.Proofs.Ytnjijefhnmnjgaa
namespace Go.Proofs.Ytnjijefhnmnjgaa
open Go Go.Va
set_option linter.unusedVariables false
set_option linter.unusedSimpArgs false
set_option maxRecDepth 20000
noncomputable def butteryref07_Set_b2 (x0 : List (BitVec 64)) (c2 : Int) (v21 : List Int) (c22 : List Int) (c23 : Int) (c36 : Bool) (c37 : Int) : Option ((Bool × Int) ⊕ (Bool)) :=
  lt (((c22).length : Int)) fun v48 =>
  lt (decide (c37 < v48)) fun v50 =>
  if v50 = true then
    if c36 = true then
      lt (w64 (c37 + (1 : Int))) fun v54 =>
      some (.inl (true, v54))
    else
      (ix c22 c37).bind fun v56 =>
      (ix v21 c23).bind fun v58 =>
      lt (v56 == v58) fun v60 =>
      lt (w64 (c37 + (1 : Int))) fun v62 =>
      some (.inl (v60, v62))
  else
    some (.inr c36)
noncomputable def butteryref07_Set_l2 (x0 : List (BitVec 64)) (c2 : Int) (v21 : List Int) (c22 : List Int) (c23 : Int) (s : Bool × Int) : Option (Bool) := loopO (fun s => butteryref07_Set_b2 x0 c2 v21 c22 c23 s.1 s.2) s
noncomputable def butteryref07_Set_b1 (x0 : List (BitVec 64)) (c2 : Int) (v21 : List Int) (c22 : List Int) (c23 : Int) : Option (((List Int) × Int) ⊕ ((List Int))) :=
  lt (decide (c23 < (3 : Int))) fun v34 =>
  if v34 = true then
    (butteryref07_Set_l2 x0 c2 v21 c22 c23 (false, (0 : Int))).bind fun s45 =>
      lt (!s45) fun v65 =>
      if v65 = true then
        (ix v21 c23).bind fun v68 =>
        lt (([v68] : List Int)) fun v70 =>
        (app 8 c22 v70).bind fun v72 =>
        lt (w64 (c23 + (1 : Int))) fun v76 =>
        some (.inl (v72, v76))
      else
        lt (w64 (c23 + (1 : Int))) fun v78 =>
        some (.inl (c22, v78))
  else
    some (.inr c22)
noncomputable def butteryref07_Set_l1 (x0 : List (BitVec 64)) (c2 : Int) (v21 : List Int) (s : (List Int) × Int) : Option ((List Int)) := loopO (fun s => butteryref07_Set_b1 x0 c2 v21 s.1 s.2) s
noncomputable def butteryref07_Set_b0 (x0 : List (BitVec 64)) (c1 : List Int) (c2 : Int) : Option (((List Int) × Int) ⊕ ((List Int))) :=
  lt (((x0).length : Int)) fun v14 =>
  lt (decide (c2 < v14)) fun v16 =>
  if v16 = true then
    (ix x0 c2).bind fun v19 =>
    (butteryref07_Places v19).bind fun v21 =>
    (butteryref07_Set_l1 x0 c2 v21 (c1, (0 : Int))).bind fun s31 =>
      lt (w64 (c2 + (1 : Int))) fun v81 =>
      some (.inl (s31, v81))
  else
    some (.inr c1)
noncomputable def butteryref07_Set_l0 (x0 : List (BitVec 64)) (s : (List Int) × Int) : Option ((List Int)) := loopO (fun s => butteryref07_Set_b0 x0 s.1 s.2) s
noncomputable def butteryref07_Set (x0 : List (BitVec 64)) : Option ((List Int)) :=
  (butteryref07_Set_l0 x0 ([], (0 : Int))).bind fun s11 =>
    some s11
end Go.Proofs.Ytnjijefhnmnjgaa
namespace Go.Proofs.Ytnjijefhnmnjgaa
open Go Go.Va
set_option linter.unusedVariables false
set_option linter.unusedSimpArgs false
set_option maxRecDepth 20000
noncomputable def butteryref07_May_b1 (v2 : List Int) (v4 : List Int) (c5 : Int) (c18 : Bool) (c19 : Int) : Option ((Bool × Int) ⊕ (Bool)) :=
  lt (((v2).length : Int)) fun v30 =>
  lt (decide (c19 < v30)) fun v32 =>
  if v32 = true then
    if c18 = true then
      lt (w64 (c19 + (1 : Int))) fun v36 =>
      some (.inl (true, v36))
    else
      (ix v2 c19).bind fun v38 =>
      (ix v4 c5).bind fun v40 =>
      lt (v38 == v40) fun v42 =>
      lt (w64 (c19 + (1 : Int))) fun v44 =>
      some (.inl (v42, v44))
  else
    some (.inr c18)
noncomputable def butteryref07_May_l1 (v2 : List Int) (v4 : List Int) (c5 : Int) (s : Bool × Int) : Option (Bool) := loopO (fun s => butteryref07_May_b1 v2 v4 c5 s.1 s.2) s
noncomputable def butteryref07_May_b0 (v2 : List Int) (v4 : List Int) (c5 : Int) : Option ((Int) ⊕ (Unit ⊕ (Bool))) :=
  lt (decide (c5 < (3 : Int))) fun v16 =>
  if v16 = true then
    (butteryref07_May_l1 v2 v4 c5 (false, (0 : Int))).bind fun s27 =>
      lt (!s27) fun v47 =>
      if v47 = true then
        some (.inr (.inr false))
      else
        lt (w64 (c5 + (1 : Int))) fun v51 =>
        some (.inl v51)
  else
    some (.inr (.inl ()))
noncomputable def butteryref07_May_l0 (v2 : List Int) (v4 : List Int) (s : Int) : Option (Unit ⊕ (Bool)) := loopO (fun s => butteryref07_May_b0 v2 v4 s) s
noncomputable def butteryref07_May (x0 : List (BitVec 64)) (x1 : BitVec 64) : Option (Bool) :=
  (butteryref07_Set x0).bind fun v2 =>
  (butteryref07_Places x1).bind fun v4 =>
  (butteryref07_May_l0 v2 v4 (0 : Int)).bind fun o6 =>
    Sum.elim (fun s13 : Unit =>
      some true
      ) (fun y => some y) o6
end Go.Proofs.Ytnjijefhnmnjgaa
namespace Go.Proofs.Ytnjijefhnmnjgaa
open Go Go.Va
set_option linter.unusedVariables false
set_option linter.unusedSimpArgs false
set_option maxRecDepth 20000
noncomputable def butteryref07_Keys_b0 (x0 : List (List (BitVec 8))) (c1 : List (BitVec 64)) (c2 : Int) : Option (((List (BitVec 64)) × Int) ⊕ ((List (BitVec 64)))) :=
  lt (((x0).length : Int)) fun v14 =>
  lt (decide (c2 < v14)) fun v16 =>
  if v16 = true then
    (ix x0 c2).bind fun v19 =>
    (butteryref07_Hash v19).bind fun v21 =>
    lt (([v21] : List (BitVec 64))) fun v23 =>
    (app 8 c1 v23).bind fun v25 =>
    lt (w64 (c2 + (1 : Int))) fun v29 =>
    some (.inl (v25, v29))
  else
    some (.inr c1)
noncomputable def butteryref07_Keys_l0 (x0 : List (List (BitVec 8))) (s : (List (BitVec 64)) × Int) : Option ((List (BitVec 64))) := loopO (fun s => butteryref07_Keys_b0 x0 s.1 s.2) s
noncomputable def butteryref07_Keys (x0 : List (List (BitVec 8))) : Option ((List (BitVec 64))) :=
  (butteryref07_Keys_l0 x0 ([], (0 : Int))).bind fun s11 =>
    some s11
end Go.Proofs.Ytnjijefhnmnjgaa
namespace Go.Proofs.Ytnjijefhnmnjgaa
open Go Go.Va
set_option linter.unusedVariables false
set_option linter.unusedSimpArgs false
theorem less (w : BitVec 64) (h : w ≠ 0#64) : (w &&& (w - 1#64)).toNat < w.toNat := by
  have h0 : 0 < w.toNat := by
    rcases Nat.eq_zero_or_pos w.toNat with h0 | h0
    · exact absurd (BitVec.eq_of_toNat_eq (by simpa using h0)) h
    · exact h0
  have h1 : (w - 1#64).toNat = w.toNat - 1 := by
    have := w.isLt
    rw [BitVec.toNat_sub]
    show (18446744073709551616 - 1 + w.toNat) % 18446744073709551616 = w.toNat - 1
    omega
  rw [BitVec.toNat_and, h1]
  have := Nat.and_le_right (n := w.toNat) (m := w.toNat - 1)
  omega
/-- The bits of a word, one after the other. -/
def pop (w : BitVec 64) : Nat := if h : w = 0#64 then 0 else pop (w &&& (w - 1#64)) + 1
termination_by w.toNat
decreasing_by exact less w h
theorem pop_zero : pop 0#64 = 0 := by rw [pop, dif_pos rfl]
theorem pop_step (w : BitVec 64) (h : w ≠ 0#64) : pop w = pop (w &&& (w - 1#64)) + 1 := by rw [pop, dif_neg h]
/-- A number above 0 without its lowest bit. -/
theorem low_nat : ∀ (n : Nat), 0 < n → ∃ k, n.testBit k = true ∧ ∀ i, (n &&& (n - 1)).testBit i = (n.testBit i && decide (i ≠ k)) := by
  intro n
  induction n using Nat.strongRecOn with
  | _ n ih =>
    intro h
    rcases Nat.mod_two_eq_zero_or_one n with h0 | h1
    · obtain ⟨k, h2, h3⟩ := ih (n / 2) (by omega) (by omega)
      refine ⟨k + 1, by rw [Nat.testBit_succ]; exact h2, fun i => ?_⟩
      cases i with
      | zero => simp [Nat.testBit_zero, h0]
      | succ i =>
        have e : (n - 1) / 2 = n / 2 - 1 := by omega
        have := h3 i
        rw [Nat.testBit_and] at this
        rw [Nat.testBit_and, Nat.testBit_succ, Nat.testBit_succ, e, this]
        simp
    · refine ⟨0, by simp [Nat.testBit_zero, h1], fun i => ?_⟩
      cases i with
      | zero => 
        have e : (n - 1) % 2 = 0 := by omega
        simp [Nat.testBit_and, Nat.testBit_zero, e]
      | succ i =>
        have e : (n - 1) / 2 = n / 2 := by omega
        rw [Nat.testBit_and, Nat.testBit_succ, Nat.testBit_succ, e]
        simp
theorem low_bit (w : BitVec 64) (h : w ≠ 0#64) : ∃ k, k < 64 ∧ w.getLsbD k = true ∧ ∀ i, (w &&& (w - 1#64)).getLsbD i = (w.getLsbD i && decide (i ≠ k)) := by
  have h0 : 0 < w.toNat := by
    rcases Nat.eq_zero_or_pos w.toNat with h0 | h0
    · exact absurd (BitVec.eq_of_toNat_eq (by simpa using h0)) h
    · exact h0
  have h1 : (w - 1#64).toNat = w.toNat - 1 := by
    have := w.isLt
    rw [BitVec.toNat_sub]
    show (18446744073709551616 - 1 + w.toNat) % 18446744073709551616 = w.toNat - 1
    omega
  obtain ⟨k, h2, h3⟩ := low_nat w.toNat h0
  refine ⟨k, ?_, h2, fun i => ?_⟩
  · rcases Nat.lt_or_ge k 64 with hk | hk
    · exact hk
    · have := BitVec.getLsbD_of_ge w k hk
      rw [BitVec.getLsbD] at this
      rw [this] at h2; cases h2
  · rw [BitVec.getLsbD, BitVec.toNat_and, h1, h3 i]
    rfl
theorem filter_less (p : Nat → Bool) (k : Nat) (hp : p k = true) : ∀ (l : List Nat), l.Nodup → k ∈ l → (l.filter p).length = (l.filter fun i => p i && decide (i ≠ k)).length + 1
  | [], _, h => by simp at h
  | x :: l, hn, h => by
    have hn' : x ∉ l ∧ l.Nodup := by simpa using hn
    by_cases hx : x = k
    · subst hx
      have e : l.filter (fun i => p i && decide (i ≠ x)) = l.filter p := by
        apply List.filter_congr
        intro i hi
        have : i ≠ x := fun he => hn'.1 (he ▸ hi)
        simp [this]
      rw [List.filter_cons_of_pos hp, List.filter_cons_of_neg (by simp), e]
      rfl
    · have hk : k ∈ l := by
        rcases List.mem_cons.1 h with h | h
        · exact absurd h.symm hx
        · exact h
      have ih := filter_less p k hp l hn'.2 hk
      by_cases hpx : p x = true
      · rw [List.filter_cons_of_pos hpx, List.filter_cons_of_pos (by simp [hpx, hx])]
        simp [ih]
      · rw [List.filter_cons_of_neg hpx, List.filter_cons_of_neg (by simp [hpx])]
        exact ih
/-- A word's bits. -/
def bits_ (w : BitVec 64) : List Nat := (List.range 64).filter fun i => w.getLsbD i
theorem pop_bits (w : BitVec 64) : pop w = (bits_ w).length := by
  by_cases h : w = 0#64
  · rw [h, pop_zero]; rfl
  · have hl := less w h
    obtain ⟨k, h1, h2, h3⟩ := low_bit w h
    rw [pop_step w h, pop_bits (w &&& (w - 1#64))]
    unfold bits_
    rw [filter_less (fun i => w.getLsbD i) k h2 _ List.nodup_range (by simpa using h1)]
    congr 2
    apply List.filter_congr
    intro i _
    exact h3 i
termination_by w.toNat
decreasing_by exact hl
theorem pop_64 (w : BitVec 64) : pop w ≤ 64 := by
  rw [pop_bits]
  exact Nat.le_trans (List.length_filter_le _ _) (by simp)

theorem Count_b1 (v : List (BitVec 64)) (c n : Int) : ∀ (w : BitVec 64), 0 ≤ n → n ≤ 1000 → loopO (fun s : Int × BitVec 64 => bloom_Filter_Count_b1 v c s.1 s.2) (n, w) = some (n + pop w) := by
  intro w h0 h1
  have hp := pop_64 w
  have key : ∀ (k : Nat) (n : Int) (w : BitVec 64), pop w = k → 0 ≤ n → n + k ≤ 2000 → loopO (fun s : Int × BitVec 64 => bloom_Filter_Count_b1 v c s.1 s.2) (n, w) = some (n + k) := by
    intro k
    induction k with
    | zero =>
      intro n w hw hn hk
      have hz : w = 0#64 := by
        by_cases h : w = 0#64
        · exact h
        · rw [pop_step w h] at hw; omega
      subst hz
      rw [loopO_out (x := n) (by simp [bloom_Filter_Count_b1, lt_eq])]; simp
    | succ k ih =>
      intro n w hw hn hk
      have hz : w ≠ 0#64 := by rintro rfl; rw [pop_zero] at hw; omega
      have hpos : 0#64 < w := by
        rw [BitVec.lt_def]
        rcases Nat.eq_zero_or_pos w.toNat with h0 | h0
        · exact absurd (BitVec.eq_of_toNat_eq (by simpa using h0)) hz
        · simpa using h0
      rw [loopO_in (s' := (n + 1, w &&& (w - 1#64))) (by
        simp only [bloom_Filter_Count_b1, lt_eq]
        rw [if_pos (by simpa using hpos), w64_eq (by omega) (by omega)])]
      rw [ih (n + 1) _ (by rw [pop_step w hz] at hw; omega) (by omega) (by omega)]
      congr 1; omega
  exact key (pop w) n w rfl h0 (by omega)
theorem Count_eq {f : List (BitVec 64)} (hf : f.length = 2) : bloom_Filter_Count f = some (((pop (f.getD 0 0) + pop (f.getD 1 0) : Nat)) : Int) := by
  obtain ⟨a, b, rfl⟩ : ∃ a b, f = [a, b] := by match f, hf with | [a, b], _ => exact ⟨a, b, rfl⟩
  have ha := pop_64 a
  have hb := pop_64 b
  simp only [bloom_Filter_Count, whole_eq hf, Option.bind_some, bloom_Filter_Count_l0]
  rw [loopO_in (s' := ((pop a : Int), 1)) (by
    simp only [bloom_Filter_Count_b0, lt_eq, bloom_Filter_Count_l1]
    rw [if_pos (show decide ((0 : Int) < 2) = true from rfl), show ixA 2 [a, b] 0 = some a from rfl, Option.bind_some, Count_b1 _ _ _ _ (by omega) (by omega)]
    simp only [Option.bind_some, Int.zero_add]
    rfl)]
  rw [loopO_in (s' := ((((pop a + pop b : Nat)) : Int), 2)) (by
    simp only [bloom_Filter_Count_b0, lt_eq, bloom_Filter_Count_l1]
    rw [if_pos (show decide ((1 : Int) < 2) = true from rfl), show ixA 2 [a, b] 1 = some b from rfl, Option.bind_some, Count_b1 _ _ _ _ (by omega) (by omega)]
    simp only [Option.bind_some]
    rw [show w64 (1 + 1) = 2 from rfl]
    rfl)]
  rw [loopO_out (x := (((pop a + pop b : Nat)) : Int)) (by simp [bloom_Filter_Count_b0, lt_eq])]
  rfl
/-! ### which places are set -/
theorem bit1 (w : BitVec 64) (k : Nat) : (!((w >>> k) &&& 1#64 == 0#64)) = w.getLsbD k := by
  have e : ((w >>> k) &&& 1#64) = if w.getLsbD k then 1#64 else 0#64 := by
    apply BitVec.eq_of_getLsbD_eq
    intro i hi
    rw [BitVec.getLsbD_and, BitVec.getLsbD_ushiftRight, BitVec.getLsbD_one]
    cases i with
    | zero => simp; cases w.getLsbD k <;> rfl
    | succ i => simp; split <;> simp
  rw [e]
  cases w.getLsbD k <;> rfl
theorem hasN_bit (f : List (BitVec 64)) (n : Nat) : hasN f n = (f.getD (n / 64) 0).getLsbD (n % 64) := bit1 _ _
theorem has_put {f : List (BitVec 64)} (hf : f.length = 2) {n m : Nat} (hn : n < 128) (hm : m < 128) : hasN (putN f n) m = (hasN f m || decide (m = n)) := by
  rw [hasN_bit, hasN_bit, putN]
  by_cases h : n / 64 = m / 64
  · rw [h, List.getD_eq_getElem?_getD, List.getElem?_set_self (by omega), Option.getD_some, BitVec.getLsbD_or]
    congr 1
    rw [BitVec.getLsbD_shiftLeft]
    have : decide (m % 64 < 64) = true := by simp; omega
    rw [this]
    simp only [Bool.true_and, BitVec.getLsbD_one]
    by_cases h2 : m = n
    · subst h2; simp
    · have : ¬ m % 64 = n % 64 := by omega
      by_cases h3 : m % 64 < n % 64
      · simp [h3, h2]
      · have : ¬ m % 64 - n % 64 = 0 := by omega
        simp [h3, h2, this]
  · rw [List.getD_eq_getElem?_getD, List.getElem?_set_ne h, ← List.getD_eq_getElem?_getD]
    have : ¬ m = n := by omega
    simp [this]
theorem has_puts : ∀ (l : List Nat) {f : List (BitVec 64)} (hf : f.length = 2) (hl : ∀ n ∈ l, n < 128) {m : Nat} (hm : m < 128), hasN (l.foldl putN f) m = (hasN f m || decide (m ∈ l))
  | [], f, hf, hl, m, hm => by simp
  | n :: l, f, hf, hl, m, hm => by
    rw [List.foldl_cons, has_puts l (by rw [putN_len]; exact hf) (fun x hx => hl x (List.mem_cons_of_mem _ hx)) hm, has_put hf (hl n List.mem_cons_self) hm, Bool.or_assoc]
    congr 1
    rw [Bool.eq_iff_iff]; simp
/-- The filter of hashes; their places. -/
def hashF (a : List (BitVec 64)) : List (BitVec 64) := a.foldl addF [0#64, 0#64]
def plS (a : List (BitVec 64)) : List Nat := a.flatMap plN
theorem plS_lt (a : List (BitVec 64)) : ∀ n ∈ plS a, n < 128 := fun n hn => by
  obtain ⟨h, _, hn⟩ := List.mem_flatMap.1 hn
  exact plN_lt h n hn
theorem ofF_hashF (l : List (List (BitVec 8))) : ofF l = hashF (l.map hash) := by simp only [ofF, hashF, List.foldl_map]
theorem fold_plS (a : List (BitVec 64)) : ∀ f, a.foldl addF f = (plS a).foldl putN f := by
  induction a with
  | nil => intro f; rfl
  | cons h a ih => intro f; rw [List.foldl_cons, ih, addF, plS, plS, List.flatMap_cons, List.foldl_append]
theorem hashF_len (a : List (BitVec 64)) : (hashF a).length = 2 := map_len_foldl (fun f : List (BitVec 64) => f.length = 2) _ (fun s a hs => addF_len hs _) _ _ rfl
theorem has_zero (m : Nat) : hasN [0#64, 0#64] m = false := by
  rw [hasN_bit]
  have : ([0#64, 0#64] : List (BitVec 64)).getD (m / 64) 0 = 0#64 := by
    rcases Nat.lt_or_ge (m / 64) 2 with h | h
    · have : m / 64 = 0 ∨ m / 64 = 1 := by omega
      rcases this with h | h <;> rw [h] <;> rfl
    · rw [List.getD_eq_getElem?_getD, List.getElem?_eq_none (by simpa using h)]; rfl
  rw [this]; simp
theorem has_hashF (a : List (BitVec 64)) {m : Nat} (hm : m < 128) : hasN (hashF a) m = decide (m ∈ plS a) := by
  rw [hashF, fold_plS, has_puts _ rfl (plS_lt a) hm, has_zero, Bool.false_or]
theorem may_hashF (a : List (BitVec 64)) (h : BitVec 64) : mayF (hashF a) h = (plN h).all fun p => decide (p ∈ plS a) := by
  unfold mayF
  rw [Bool.eq_iff_iff, List.all_eq_true, List.all_eq_true]
  exact ⟨fun hh p hp => by rw [← has_hashF a (plN_lt h p hp)]; exact hh p hp, fun hh p hp => by rw [has_hashF a (plN_lt h p hp)]; exact hh p hp⟩
theorem f_ext {f g : List (BitVec 64)} (hf : f.length = 2) (hg : g.length = 2) (h : ∀ m, m < 128 → hasN f m = hasN g m) : f = g := by
  obtain ⟨a, b, rfl⟩ : ∃ a b, f = [a, b] := by match f, hf with | [a, b], _ => exact ⟨a, b, rfl⟩
  obtain ⟨c, d, rfl⟩ : ∃ a b, g = [a, b] := by match g, hg with | [a, b], _ => exact ⟨a, b, rfl⟩
  have h1 : a = c := BitVec.eq_of_getLsbD_eq fun i hi => by
    have := h i (by omega)
    rw [hasN_bit, hasN_bit, Nat.div_eq_of_lt hi, Nat.mod_eq_of_lt hi] at this
    exact this
  have h2 : b = d := BitVec.eq_of_getLsbD_eq fun i hi => by
    have := h (64 + i) (by omega)
    rw [hasN_bit, hasN_bit, show (64 + i) / 64 = 1 by omega, show (64 + i) % 64 = i by omega] at this
    exact this
  rw [h1, h2]
theorem has_both {f g : List (BitVec 64)} (hf : f.length = 2) (hg : g.length = 2) {m : Nat} (hm : m < 128) : hasN (bothF f g) m = (hasN f m || hasN g m) := by
  rw [hasN_bit, hasN_bit, hasN_bit]
  have : m / 64 = 0 ∨ m / 64 = 1 := by omega
  rcases this with h | h <;> rw [h] <;> simp [bothF, BitVec.getLsbD_or]
theorem both_hashF (a b : List (BitVec 64)) : bothF (hashF a) (hashF b) = hashF (a ++ b) := by
  refine f_ext rfl (hashF_len _) (fun m hm => ?_)
  rw [has_both (hashF_len _) (hashF_len _) hm, has_hashF _ hm, has_hashF _ hm, has_hashF _ hm, Bool.eq_iff_iff]
  simp [plS, List.flatMap_append]
theorem count_128 {f : List (BitVec 64)} (hf : f.length = 2) : pop (f.getD 0 0) + pop (f.getD 1 0) = ((List.range 128).filter (hasN f)).length := by
  obtain ⟨a, b, rfl⟩ : ∃ a b, f = [a, b] := by match f, hf with | [a, b], _ => exact ⟨a, b, rfl⟩
  have e : List.range 128 = List.range 64 ++ (List.range 64).map (64 + ·) := by decide
  rw [e, List.filter_append, List.length_append, pop_bits, pop_bits, bits_, bits_, List.filter_map, List.length_map]
  congr 2
  · apply List.filter_congr
    intro i hi
    have hi : i < 64 := by simpa using hi
    rw [hasN_bit, Nat.div_eq_of_lt hi, Nat.mod_eq_of_lt hi]
    try rfl
  · apply List.filter_congr
    intro i hi
    have hi : i < 64 := by simpa using hi
    rw [Function.comp, hasN_bit, show (64 + i) / 64 = 1 by omega, show (64 + i) % 64 = i by omega]
    try rfl
/-- So many places that are each there once. -/
theorem nodup_128 {s : List Nat} (hn : s.Nodup) (hl : ∀ n ∈ s, n < 128) : s.length = ((List.range 128).filter fun n => decide (n ∈ s)).length := by
  apply List.Perm.length_eq
  rw [List.perm_ext_iff_of_nodup hn (List.nodup_range.filter _)]
  intro n
  simp only [List.mem_filter, List.mem_range, decide_eq_true_eq]
  exact ⟨fun h => ⟨hl n h, h⟩, fun h => h.2⟩
/-! ### the document's -/
theorem Places_eq (h : BitVec 64) : butteryref07_Places h = some (plI h) := by
  have m127 : ∀ x : BitVec 64, x % 128#64 = x &&& 127#64 := fun x => by
    apply BitVec.eq_of_toNat_eq
    rw [BitVec.toNat_umod, BitVec.toNat_and]
    exact (Nat.and_two_pow_sub_one_eq_mod x.toNat 7).symm
  have d21 : h / 2097152#64 = h >>> 21 := by apply BitVec.eq_of_toNat_eq; simp [Nat.shiftRight_eq_div_pow]
  have d42 : h / 4398046511104#64 = h >>> 42 := by apply BitVec.eq_of_toNat_eq; simp [Nat.shiftRight_eq_div_pow]
  simp only [butteryref07_Places, lt_eq, m127, d21, d42, toInt127]; rfl
def ins (s : List Int) (p : Int) : List Int := if s.any (· == p) then s else s ++ [p]
def setI (a : List (BitVec 64)) : List Int := a.foldl (fun s h => (plI h).foldl ins s) []
theorem any_fold (p : Int) : ∀ (l : List Int) (b : Bool), l.foldl (fun m c => if m = true then true else c == p) b = (b || l.any (· == p))
  | [], b => by simp
  | c :: l, b => by rw [List.foldl_cons, any_fold p l]; cases b <;> simp
theorem ins_len (s : List Int) (p : Int) : (ins s p).length ≤ s.length + 1 := by unfold ins; split <;> simp
theorem Set_l2 (x0 : List (BitVec 64)) (c2 : Int) (v : List Int) (s : List Int) (i : Nat) (hi : i < v.length) (hs : s.length ≤ 1000000) : butteryref07_Set_l2 x0 c2 v s i (false, 0) = some (s.any (· == v[i])) := by
  have := loopO_foldl s (fun m c => if m = true then true else c == v[i]) id (body := fun t => butteryref07_Set_b2 x0 c2 v s i t.1 t.2) (fun m j hj => by
    simp only [butteryref07_Set_b2, lt_eq]
    rw [if_pos (by simpa using hj), w64_nat (by omega)]
    split
    · rename_i h; simp [h]
    · rename_i h; rw [ix_nat hj, ix_nat hi]; simp [h]) (fun m => by simp [butteryref07_Set_b2, lt_eq]) false
  rw [butteryref07_Set_l2, this, any_fold]; simp
theorem Set_l1 (x0 : List (BitVec 64)) (c2 : Int) (h : BitVec 64) (s : List Int) (hs : s.length ≤ 900000) : butteryref07_Set_l1 x0 c2 (plI h) (s, 0) = some ((plI h).foldl ins s) := by
  have hl : (plI h).length = 3 := rfl
  have step : ∀ (i : Nat) (t : List Int), i < 3 → t.length ≤ 900000 + i → butteryref07_Set_b1 x0 c2 (plI h) t i = some (.inl (ins t ((plI h).getD i 0), ((i + 1 : Nat) : Int))) := fun i t hi ht => by
    have hi' : i < (plI h).length := hi
    simp only [butteryref07_Set_b1, lt_eq]
    rw [if_pos (by simpa using (by omega : (i : Int) < 3)), Set_l2 _ _ _ _ _ hi' (by omega), Option.bind_some, w64_nat (by omega), ix_nat hi', Option.bind_some, app_eq (by simp; omega), Option.bind_some]
    have e : (plI h).getD i 0 = (plI h)[i] := by rw [List.getD_eq_getElem?_getD, List.getElem?_eq_getElem hi']; rfl
    rw [e, ins]
    cases hx : t.any (· == (plI h)[i]) <;> simp
  have := loopO_up (body := fun t => butteryref07_Set_b1 x0 c2 (plI h) t.1 t.2) (fun i => (((plI h).take i).foldl ins s, (i : Int))) 3 (x := (plI h).foldl ins s) (fun i hi => by
    have hb : ∀ j : Nat, j ≤ 3 → (((plI h).take j).foldl ins s).length ≤ 900000 + j := by
      intro j
      induction j with
      | zero => intro _; simpa using hs
      | succ j ih =>
        intro hj
        have hj' : j < (plI h).length := by rw [hl]; omega
        rw [List.take_succ_eq_append_getElem hj', List.foldl_append]
        have := ins_len (((plI h).take j).foldl ins s) (plI h)[j]
        have := ih (by omega)
        simp only [List.foldl_cons, List.foldl_nil]
        omega
    simp only [step i _ hi (hb i (by omega))]
    have hi' : i < (plI h).length := hi
    rw [List.take_succ_eq_append_getElem hi', List.foldl_append]
    simp [List.getD_eq_getElem?_getD, List.getElem?_eq_getElem hi']) (by
    simp only [butteryref07_Set_b1, lt_eq]
    rw [if_neg (by simp)]
    rfl)
  exact this
theorem setI_len (a : List (BitVec 64)) : (setI a).length ≤ 3 * a.length := by
  have : ∀ (a : List (BitVec 64)) (s : List Int), (a.foldl (fun s h => (plI h).foldl ins s) s).length ≤ s.length + 3 * a.length := by
    intro a
    induction a with
    | nil => intro s; simp
    | cons h a ih =>
      intro s
      rw [List.foldl_cons]
      have h1 := ih ((plI h).foldl ins s)
      have h2 : ((plI h).foldl ins s).length ≤ s.length + 3 := by
        rw [show plI h = [(plI h).getD 0 0, (plI h).getD 1 0, (plI h).getD 2 0] from rfl]
        simp only [List.foldl_cons, List.foldl_nil]
        have k1 := ins_len s ((plI h).getD 0 0)
        have k2 := ins_len (ins s ((plI h).getD 0 0)) ((plI h).getD 1 0)
        have k3 := ins_len (ins (ins s ((plI h).getD 0 0)) ((plI h).getD 1 0)) ((plI h).getD 2 0)
        omega
      simp only [List.length_cons]
      omega
  have := this a []
  simp only [List.length_nil, Nat.zero_add] at this
  exact this
theorem Set_eq (a : List (BitVec 64)) (ha : a.length ≤ 10000) : butteryref07_Set a = some (setI a) := by
  have := loopO_up (body := fun s => butteryref07_Set_b0 a s.1 s.2) (fun i => (setI (a.take i), (i : Int))) a.length (x := setI a) (fun i hi => by
    have hl := setI_len (a.take i)
    have hl2 : (a.take i).length ≤ i := by simp; omega
    simp only [butteryref07_Set_b0, lt_eq]
    rw [if_pos (by simpa using hi), ix_nat hi, Option.bind_some, Places_eq, Option.bind_some, Set_l1 _ _ _ _ (by omega), Option.bind_some, w64_nat (by omega)]
    simp only [setI]
    rw [List.take_succ_eq_append_getElem hi, List.foldl_append]
    rfl) (by
    simp only [butteryref07_Set_b0, lt_eq]
    rw [if_neg (by simp), List.take_length])
  simp only [butteryref07_Set, butteryref07_Set_l0]
  have e0 : (([] : List Int), (0 : Int)) = (setI (a.take 0), ((0 : Nat) : Int)) := rfl
  rw [e0, this]; rfl
theorem mem_ins (s : List Int) (p x : Int) : x ∈ ins s p ↔ x ∈ s ∨ x = p := by
  unfold ins
  split
  · rename_i h
    obtain ⟨y, h1, h2⟩ := List.any_eq_true.1 h
    have : y = p := by simpa using h2
    subst this
    exact ⟨fun h => .inl h, fun h => h.elim id (fun h => h ▸ h1)⟩
  · simp
theorem nodup_ins {s : List Int} (p : Int) (h : s.Nodup) : (ins s p).Nodup := by
  unfold ins
  split
  · exact h
  · rename_i hx
    rw [List.nodup_append]
    refine ⟨h, by simp, fun a ha b hb => ?_⟩
    simp at hb
    subst hb
    rintro rfl
    exact hx (List.any_eq_true.2 ⟨a, ha, by simp⟩)
theorem mem_inss (x : Int) : ∀ (l s : List Int), x ∈ l.foldl ins s ↔ x ∈ s ∨ x ∈ l
  | [], s => by simp
  | p :: l, s => by rw [List.foldl_cons, mem_inss x l, mem_ins, List.mem_cons, or_assoc]
theorem nodup_inss : ∀ (l : List Int) {s : List Int}, s.Nodup → (l.foldl ins s).Nodup
  | [], s, h => h
  | p :: l, s, h => nodup_inss l (nodup_ins p h)
theorem setI_spec (a : List (BitVec 64)) : (setI a).Nodup ∧ ∀ x, x ∈ setI a ↔ x ∈ (plS a).map fun n : Nat => (n : Int) := by
  have : ∀ (a : List (BitVec 64)) (s : List Int), s.Nodup → (a.foldl (fun s h => (plI h).foldl ins s) s).Nodup ∧ ∀ x, x ∈ a.foldl (fun s h => (plI h).foldl ins s) s ↔ x ∈ s ∨ x ∈ (plS a).map fun n : Nat => (n : Int) := by
    intro a
    induction a with
    | nil => intro s hs; exact ⟨hs, fun x => by simp [plS]⟩
    | cons h a ih =>
      intro s hs
      obtain ⟨h1, h2⟩ := ih ((plI h).foldl ins s) (nodup_inss _ hs)
      refine ⟨h1, fun x => ?_⟩
      rw [List.foldl_cons, h2 x, mem_inss, plS, plS, List.flatMap_cons, List.map_append, List.mem_append, or_assoc]
      rfl
  obtain ⟨h1, h2⟩ := this a [] (by simp)
  exact ⟨h1, fun x => by rw [setI, h2 x]; simp⟩
theorem setI_count (a : List (BitVec 64)) : (setI a).length = ((List.range 128).filter (hasN (hashF a))).length := by
  obtain ⟨h1, h2⟩ := setI_spec a
  have hback : ∀ x ∈ setI a, ((x.toNat : Nat) : Int) = x := fun x hx => by
    obtain ⟨n, _, rfl⟩ := List.mem_map.1 ((h2 x).1 hx); rfl
  have e : (setI a).length = ((setI a).map Int.toNat).length := by simp
  have hn : ((setI a).map Int.toNat).Nodup := by
    rw [List.Nodup, List.pairwise_map]
    exact h1.imp_of_mem (fun hx hy hne he => hne (by rw [← hback _ hx, ← hback _ hy, he]))
  have hm : ∀ n, n ∈ (setI a).map Int.toNat ↔ n ∈ plS a := fun n => by
    constructor
    · intro hn
      obtain ⟨x, hx, rfl⟩ := List.mem_map.1 hn
      obtain ⟨m, hm, rfl⟩ := List.mem_map.1 ((h2 x).1 hx)
      exact hm
    · intro hn
      exact List.mem_map.2 ⟨(n : Int), (h2 _).2 (List.mem_map.2 ⟨n, hn, rfl⟩), rfl⟩
  rw [e, nodup_128 hn (fun n hx => plS_lt a n ((hm n).1 hx))]
  congr 1
  apply List.filter_congr
  intro n hn
  rw [has_hashF a (by simpa using hn)]
  simp only [hm]
theorem May_l1 (v w : List Int) (i : Nat) (hi : i < w.length) (hv : v.length ≤ 1000000) : butteryref07_May_l1 v w i (false, 0) = some (v.any (· == w[i])) := by
  have := loopO_foldl v (fun m c => if m = true then true else c == w[i]) id (body := fun t => butteryref07_May_b1 v w i t.1 t.2) (fun m j hj => by
    simp only [butteryref07_May_b1, lt_eq]
    rw [if_pos (by simpa using hj), w64_nat (by omega)]
    split
    · rename_i h; simp [h]
    · rename_i h; rw [ix_nat hj, ix_nat hi]; simp [h]) (fun m => by simp [butteryref07_May_b1, lt_eq]) false
  rw [butteryref07_May_l1, this, any_fold]; simp
theorem refMay_eq (a : List (BitVec 64)) (h : BitVec 64) (ha : a.length ≤ 10000) : butteryref07_May a h = some (mayF (hashF a) h) := by
  have hl := setI_len a
  have hw : (plI h).length = 3 := rfl
  have := loopO_find (body := butteryref07_May_b0 (setI a) (plI h)) (fun i => (i : Int)) 3 (fun i => if (setI a).any (· == (plI h).getD i 0) then none else some (Sum.inr false : Unit ⊕ Bool)) (x := .inl ()) (fun i hi => by
    have hi' : i < (plI h).length := hi
    have e : (plI h).getD i 0 = (plI h)[i] := by rw [List.getD_eq_getElem?_getD, List.getElem?_eq_getElem hi']; rfl
    simp only [butteryref07_May_b0, lt_eq]
    rw [if_pos (by simpa using (by omega : (i : Int) < 3)), May_l1 _ _ _ hi' (by omega), Option.bind_some, w64_nat (by omega), e]
    cases (setI a).any (· == (plI h)[i]) <;> simp [nx]) (by simp [butteryref07_May_b0, lt_eq])
  simp only [butteryref07_May, Set_eq a ha, Places_eq, Option.bind_some, butteryref07_May_l0]
  have e0 : (0 : Int) = ((0 : Nat) : Int) := rfl
  rw [e0, this, may_hashF]
  have hany : ∀ n : Nat, (setI a).any (· == (n : Int)) = decide (n ∈ plS a) := fun n => by
    rw [Bool.eq_iff_iff, List.any_eq_true, decide_eq_true_iff]
    constructor
    · rintro ⟨x, hx, he⟩
      obtain ⟨m, hm, rfl⟩ := List.mem_map.1 (((setI_spec a).2 x).1 hx)
      have : m = n := by
        have : (m : Int) = n := by simpa using he
        omega
      rw [← this]; exact hm
    · intro hn
      exact ⟨(n : Int), ((setI_spec a).2 _).2 (List.mem_map.2 ⟨n, hn, rfl⟩), by simp⟩
  have e1 : ∀ i, (plI h).getD i 0 = (((plN h).getD i 0 : Nat) : Int) := fun i => by
    simp only [plI, List.getD_eq_getElem?_getD, List.getElem?_map]
    cases (plN h)[i]? <;> rfl
  rw [show plN h = [(plN h).getD 0 0, (plN h).getD 1 0, (plN h).getD 2 0] from rfl]
  simp only [show List.range 3 = [0, 1, 2] from rfl, List.findSome?_cons, List.findSome?_nil, List.all_cons, List.all_nil, e1, hany]
  cases decide ((plN h).getD 0 0 ∈ plS a) <;> cases decide ((plN h).getD 1 0 ∈ plS a) <;> cases decide ((plN h).getD 2 0 ∈ plS a) <;> rfl
theorem Keys_eq (l : List (List (BitVec 8))) (hl : l.length ≤ 1000) (hk : ∀ k ∈ l, k.length ≤ 1000000) : butteryref07_Keys l = some (l.map hash) := by
  have := loopO_up (body := fun s => butteryref07_Keys_b0 l s.1 s.2) (fun i => ((l.take i).map hash, (i : Int))) l.length (x := l.map hash) (fun i hi => by
    simp only [butteryref07_Keys_b0, lt_eq]
    rw [if_pos (by simpa using hi), ix_nat hi, Option.bind_some, refHash_eq _ (hk _ (List.getElem_mem hi)), Option.bind_some, app_eq (by simp; omega), Option.bind_some, w64_nat (by omega), List.take_succ_eq_append_getElem hi, List.map_append]
    rfl) (by
    simp only [butteryref07_Keys_b0, lt_eq]
    rw [if_neg (by simp), List.take_length])
  simp only [butteryref07_Keys, butteryref07_Keys_l0]
  have e0 : (([] : List (BitVec 64)), (0 : Int)) = ((l.take 0).map hash, ((0 : Nat) : Int)) := rfl
  rw [e0, this]; rfl
def shortB (l : List (List (BitVec 8))) : Bool := decide (l.length ≤ 60) && l.all fun k => decide (k.length ≤ 200)
theorem short_eq (l : List (List (BitVec 8))) : butterylaw07_short l = some (shortB l) := by
  simp only [butterylaw07_short, lt_eq]
  by_cases h : l.length ≤ 60
  · rw [if_neg (by simp; omega)]
    have := loopO_find (body := butterylaw07_short_b0 l) (fun i => (i : Int)) l.length (fun i => if (l.getD i []).length ≤ 200 then none else some (Sum.inr false : Unit ⊕ Bool)) (x := .inl ()) (fun i hi => by
      have e : l.getD i [] = l[i] := by rw [List.getD_eq_getElem?_getD, List.getElem?_eq_getElem hi]; rfl
      simp only [butterylaw07_short_b0, lt_eq]
      rw [if_pos (by simpa using hi), ix_nat hi, Option.bind_some, w64_nat (by omega), e]
      by_cases hx : l[i].length ≤ 200
      · rw [if_neg (by simp; omega), if_pos hx]; rfl
      · rw [if_pos (by simp; omega), if_neg hx]; rfl) (by simp [butterylaw07_short_b0, lt_eq])
    have e0 : (0 : Int) = ((0 : Nat) : Int) := rfl
    rw [butterylaw07_short_l0, e0, this]
    cases hf : (List.range l.length).findSome? (fun i => if (l.getD i []).length ≤ 200 then none else some (Sum.inr false : Unit ⊕ Bool)) with
    | none =>
      have hall : l.all (fun k => decide (k.length ≤ 200)) = true := by
        rw [List.all_eq_true]
        intro k hk
        obtain ⟨i, hi, rfl⟩ := List.mem_iff_getElem.1 hk
        have := List.findSome?_eq_none_iff.1 hf i (by simpa using hi)
        rw [List.getD_eq_getElem?_getD, List.getElem?_eq_getElem hi, Option.getD_some] at this
        by_cases hx : l[i].length ≤ 200
        · simpa using hx
        · rw [if_neg hx] at this; cases this
      simp [shortB, h, hall]
    | some y =>
      obtain ⟨i, hi, hy⟩ := List.exists_of_findSome?_eq_some hf
      have hi : i < l.length := by simpa using hi
      rw [List.getD_eq_getElem?_getD, List.getElem?_eq_getElem hi, Option.getD_some] at hy
      split at hy
      · cases hy
      · rename_i hx
        cases hy
        have hall : l.all (fun k => decide (k.length ≤ 200)) = false := by
          rw [List.all_eq_false]
          exact ⟨l[i], List.getElem_mem hi, by simpa using hx⟩
        simp [shortB, hall]
  · rw [if_pos (by simp; omega)]
    simp [shortB, h]
theorem shortB_spec {l : List (List (BitVec 8))} (h : shortB l = true) : l.length ≤ 60 ∧ ∀ k ∈ l, k.length ≤ 200 := by
  simpa [shortB] using h
/-! ### the examples -/
def of0 (l : List (List (BitVec 8))) : List (BitVec 64) := l.foldl (fun f k => addF f (hash0 k)) [0#64, 0#64]
theorem of_of0 (l : List (List (BitVec 8))) : ofF l = of0 l := by simp only [ofF, of0, hash_def]
theorem works07 : butterylaw07_works = some true := by
  have hof : bloom_Of [[97#8], [98#8]] = some (of0 [[97#8], [98#8]]) := by rw [← of_of0]; exact Of_eq _ (by decide) (by decide)
  obtain ⟨F, hF⟩ : ∃ F, F = of0 [[97#8], [98#8]] := ⟨_, rfl⟩
  have hl : F.length = 2 := by rw [hF, ← of_of0]; exact ofF_len _
  have h0 : bloom_Hash [97#8] = some (hash [97#8]) := bloom_Hash_eq _ (by decide)
  have h1 : mayF F (hash [97#8]) = true := by rw [hF, hash_def]; decide +kernel
  have h3 : ((List.range 128).filter (hasN F)).length = 6 := by rw [hF]; decide +kernel
  have h2 : bloom_Filter_Count F = some ((6 : Nat) : Int) := by rw [Count_eq hl, count_128 hl, h3]
  have h4 : mayF [0#64, 0#64] 7#64 = false := by decide +kernel
  have h5 : bloom_Slot 10#64 7 = some 3 := by decide +kernel
  have h6 : (mix 1#64 != mix 2#64) = true := by rw [mix_def, mix_def]; decide +kernel
  have h7 : (bothF F [0#64, 0#64] == F) = true := by rw [hF]; decide +kernel
  rw [← hF] at hof
  clear hF
  simp only [butterylaw07_works, hof, Option.bind_some, stW_eq (show (List.replicate 2 0#64).length = 2 by simp) hl, whole_eq hl, h0, May_eq hl, h1, if_true, h2, lt_eq, May_eq (show ([0#64, 0#64] : List (BitVec 64)).length = 2 from rfl), h4, h5, bloom_Mix_eq, h6, Both_eq hl (show ([0#64, 0#64] : List (BitVec 64)).length = 2 from rfl), eqA_eq (show (bothF F [0#64, 0#64]).length = 2 from rfl) hl, h7]
  decide
end Go.Proofs.Ytnjijefhnmnjgaa
namespace Go.Proofs.Ytnjijefhnmnjgaa
open Go Go.Va
set_option linter.unusedVariables false
set_option linter.unusedSimpArgs false
def turn (l : List (List (BitVec 8))) : List (List (BitVec 8)) := l.reverse.flatMap fun k => [k, k]
theorem BloomOrder_pure (l : List (List (BitVec 8))) (_ : wfL wfS l) : butterylaw07_BloomOrder l = some true := by
  cases hs : shortB l with
  | false => simp [butterylaw07_BloomOrder, short_eq, hs, lt_eq, works07]
  | true =>
    obtain ⟨l1, l2⟩ := shortB_spec hs
    have hloop : ∀ (n : Nat) (c : List (List (BitVec 8))), n ≤ l.length → c.length + 2 * n ≤ 1000 → loopO (fun s : List (List (BitVec 8)) × Int => butterylaw07_BloomOrder_b0 l s.1 s.2) (c, (n : Int) - 1) = some (c ++ turn (l.take n)) := by
      intro n
      induction n with
      | zero => intro c _ _; rw [loopO_out (x := c) (by simp [butterylaw07_BloomOrder_b0, lt_eq])]; simp [turn]
      | succ n ih =>
        intro c hn hc
        have hn' : n < l.length := by omega
        rw [loopO_in (s' := (c ++ [l[n], l[n]], (n : Int) - 1)) (by
          simp only [butterylaw07_BloomOrder_b0, lt_eq]
          rw [show ((n + 1 : Nat) : Int) - 1 = (n : Int) by omega, if_pos (by simp), ix_nat hn', Option.bind_some, Option.bind_some, app_eq (by simp; omega), Option.bind_some, w64_eq (by omega) (by omega)])]
        rw [ih _ (by omega) (by simp; omega), List.take_succ_eq_append_getElem hn']
        simp only [turn, List.reverse_append, List.flatMap_append, List.append_assoc]
        rfl
    have h1 := hloop l.length [] (Nat.le_refl _) (by simp; omega)
    rw [List.take_length, List.nil_append] at h1
    have k1 : ∀ k ∈ l, k.length ≤ 1000000 := fun k hk => by have := l2 k hk; omega
    have htl : (turn l).length = 2 * l.length := by
      simp only [turn, List.length_flatMap, List.length_cons, List.length_nil]
      rw [show (fun _ : List (BitVec 8) => 0 + 1 + 1) = Function.const _ 2 from rfl, List.map_const]
      simp; omega
    have hmem : ∀ k, k ∈ turn l ↔ k ∈ l := fun k => by simp [turn]
    have k2 : ∀ k ∈ turn l, k.length ≤ 1000000 := fun k hk => k1 k ((hmem k).1 hk)
    have n1 := ofF_len l
    have n2 := ofF_len (turn l)
    have he : ofF (turn l) = ofF l := by
      refine f_ext n2 n1 (fun m hm => ?_)
      rw [ofF_hashF, ofF_hashF, has_hashF _ hm, has_hashF _ hm, Bool.eq_iff_iff]
      simp [plS, hmem]
    have hb : bothF (ofF l) (ofF l) = ofF l := by
      refine f_ext rfl n1 (fun m hm => ?_)
      rw [has_both n1 n1 hm]; simp
    have z2 : (List.replicate 2 0#64).length = 2 := by simp
    simp only [butterylaw07_BloomOrder, short_eq, hs, Option.bind_some, lt_eq, Bool.not_true, Bool.false_eq_true, if_false, butterylaw07_BloomOrder_l0]
    rw [w64_eq (by omega) (by omega), h1, Option.bind_some, Of_eq l (by omega) k1, Option.bind_some, stW_eq z2 n1, Option.bind_some, whole_eq n1, Option.bind_some, Of_eq _ (by omega) k2, Option.bind_some, he, eqA_eq n1 n1, Option.bind_some]
    rw [if_pos (by simp), Option.bind_some, Option.bind_some, Both_eq n1 n1, Option.bind_some, hb, Option.bind_some, eqA_eq n1 n1, Option.bind_some]
    rw [if_pos (by simp), works07]; rfl
end Go.Proofs.Ytnjijefhnmnjgaa
namespace Go.Proofs.Ytnjijefhnmnjgaa
open Go Go.Va
set_option linter.unusedSimpArgs false
set_option linter.unusedVariables false
def wf_runtime_boundsError (x : runtime_boundsError) : Prop := (wfI .i64) x.x ∧ (wfI .i64) x.y ∧ wfT x.signed ∧ wfT x.code
theorem opens7 : Opens Try.prog 7 e_runtime_boundsError wf_runtime_boundsError := by
  intro H enc w fuel cs x hx
  obtain ⟨xs, m, _, _, hl, hn, hx⟩ := DataW.trod_struct Try.underlying7 hx
  rw [cellsOf_sz tk sz7 (by decide)] at hl
  obtain ⟨y0, w0, r0, o0⟩ := opens_f hx hn 0 (o := 0) (s := 1) rfl (opens_i64 Try.underlying2) rfl (cellsOf_sz tk sz2 (by decide))
  obtain ⟨y1, w1, r1, o1⟩ := opens_f hx hn 1 (o := 1) (s := 1) rfl (opens_i64 Try.underlying3) rfl (cellsOf_sz tk sz3 (by decide))
  obtain ⟨y2, w2, r2, o2⟩ := opens_f hx hn 2 (o := 2) (s := 1) rfl (opens_b Try.underlying4) rfl (cellsOf_sz tk sz4 (by decide))
  obtain ⟨y3, w3, r3, o3⟩ := opens_f hx hn 3 (o := 3) (s := 1) rfl (opens_u rfl rfl Try.underlying6) rfl (cellsOf_sz tk sz6 (by decide))
  refine ⟨⟨y0, y1, y2, y3⟩, ⟨w0, w1, w2, w3⟩, ?_, ?_⟩
  · have h := (rel_piece r0 (rel_piece r1 (rel_piece r2 (rel_piece r3 (rel_end hl)))))
    rw [List.drop_zero] at h
    first | exact h | (simp only [List.append_nil, List.append_assoc] at h ⊢; exact h) | (simpa [AV.cells, e_runtime_boundsError, c_runtime_boundsError] using h)
  · have h := (one_piece o0 (one_piece o1 (one_piece o2 (one_piece o3 (one_end hl)))))
    rw [List.drop_zero] at h
    exact h
theorem opens8 : Opens Try.prog 8 e_runtime_boundsError wf_runtime_boundsError := by
  intro H enc w fuel cs x hx
  obtain ⟨xs, m, _, _, hl, hn, hx⟩ := DataW.trod_struct Try.underlying8 hx
  rw [cellsOf_sz tk sz8 (by decide)] at hl
  obtain ⟨y0, w0, r0, o0⟩ := opens_f hx hn 0 (o := 0) (s := 1) rfl (opens_i64 Try.underlying2) rfl (cellsOf_sz tk sz2 (by decide))
  obtain ⟨y1, w1, r1, o1⟩ := opens_f hx hn 1 (o := 1) (s := 1) rfl (opens_i64 Try.underlying3) rfl (cellsOf_sz tk sz3 (by decide))
  obtain ⟨y2, w2, r2, o2⟩ := opens_f hx hn 2 (o := 2) (s := 1) rfl (opens_b Try.underlying4) rfl (cellsOf_sz tk sz4 (by decide))
  obtain ⟨y3, w3, r3, o3⟩ := opens_f hx hn 3 (o := 3) (s := 1) rfl (opens_u rfl rfl Try.underlying6) rfl (cellsOf_sz tk sz6 (by decide))
  refine ⟨⟨y0, y1, y2, y3⟩, ⟨w0, w1, w2, w3⟩, ?_, ?_⟩
  · have h := (rel_piece r0 (rel_piece r1 (rel_piece r2 (rel_piece r3 (rel_end hl)))))
    rw [List.drop_zero] at h
    first | exact h | (simp only [List.append_nil, List.append_assoc] at h ⊢; exact h) | (simpa [AV.cells, e_runtime_boundsError, c_runtime_boundsError] using h)
  · have h := (one_piece o0 (one_piece o1 (one_piece o2 (one_piece o3 (one_end hl)))))
    rw [List.drop_zero] at h
    exact h
def wf_runtime_errorAddressString (x : runtime_errorAddressString) : Prop := wfS x.msg ∧ wfT x.addr
theorem opens13 : Opens Try.prog 13 e_runtime_errorAddressString wf_runtime_errorAddressString := by
  intro H enc w fuel cs x hx
  obtain ⟨xs, m, _, _, hl, hn, hx⟩ := DataW.trod_struct Try.underlying13 hx
  rw [cellsOf_sz tk sz13 (by decide)] at hl
  obtain ⟨y0, w0, r0, o0⟩ := opens_f hx hn 0 (o := 0) (s := 1) rfl (opens_s Try.underlying9) rfl (cellsOf_sz tk sz9 (by decide))
  obtain ⟨y1, w1, r1, o1⟩ := opens_f hx hn 1 (o := 1) (s := 1) rfl (opens_u rfl rfl Try.underlying12) rfl (cellsOf_sz tk sz12 (by decide))
  refine ⟨⟨y0, y1⟩, ⟨w0, w1⟩, ?_, ?_⟩
  · have h := (rel_piece r0 (rel_piece r1 (rel_end hl)))
    rw [List.drop_zero] at h
    first | exact h | (simp only [List.append_nil, List.append_assoc] at h ⊢; exact h) | (simpa [AV.cells, e_runtime_errorAddressString, c_runtime_errorAddressString] using h)
  · have h := (one_piece o0 (one_piece o1 (one_end hl)))
    rw [List.drop_zero] at h
    exact h
theorem opens14 : Opens Try.prog 14 e_runtime_errorAddressString wf_runtime_errorAddressString := by
  intro H enc w fuel cs x hx
  obtain ⟨xs, m, _, _, hl, hn, hx⟩ := DataW.trod_struct Try.underlying14 hx
  rw [cellsOf_sz tk sz14 (by decide)] at hl
  obtain ⟨y0, w0, r0, o0⟩ := opens_f hx hn 0 (o := 0) (s := 1) rfl (opens_s Try.underlying9) rfl (cellsOf_sz tk sz9 (by decide))
  obtain ⟨y1, w1, r1, o1⟩ := opens_f hx hn 1 (o := 1) (s := 1) rfl (opens_u rfl rfl Try.underlying12) rfl (cellsOf_sz tk sz12 (by decide))
  refine ⟨⟨y0, y1⟩, ⟨w0, w1⟩, ?_, ?_⟩
  · have h := (rel_piece r0 (rel_piece r1 (rel_end hl)))
    rw [List.drop_zero] at h
    first | exact h | (simp only [List.append_nil, List.append_assoc] at h ⊢; exact h) | (simpa [AV.cells, e_runtime_errorAddressString, c_runtime_errorAddressString] using h)
  · have h := (one_piece o0 (one_piece o1 (one_end hl)))
    rw [List.drop_zero] at h
    exact h
end Go.Proofs.Ytnjijefhnmnjgaa
