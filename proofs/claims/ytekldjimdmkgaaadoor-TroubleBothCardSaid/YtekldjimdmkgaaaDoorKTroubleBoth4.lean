/- TWO FAULTS TOGETHER ARE OF THE CODES OF BOTH: and of no others; with none it is the other one. (part 4 of 5) -/
import Derived.Test.YtekldjimdmkgaaaDoorKTroubleBoth3
import Derived.ChangeSame
import Derived.ChangeVars
import Derived.JoinedOf
import Derived.LaidHandle
import Derived.LaidLaws
import Derived.RowKit
import Derived.RowKitTokens
import Derived.Stop.Joined
import Derived.Test.YtekldjimdmkgaaaDoorRows
namespace Go.Proofs.YtekldjimdmkgaaaDoor
open Go Go.Va
set_option linter.unusedVariables false
set_option linter.unusedSimpArgs false
set_option maxRecDepth 20000
theorem trouble_digits_ok {x0 : Int} {r : (List (BitVec 8))} (H : trouble_digits x0 = some r) (σ : St)  : ACall Tryd.prog 24 [(eI x0)] σ (fun a τ => a = eS r ∧ τ = σ) := by
  unfold trouble_digits at H
  refine ACall.pure (acall_start tk Tryd.func24 (by decide) rfl (Nat.le_of_ble_eq_true rfl) ?_)
  have hH := Holds.init σ
  refine awp_seq ?_
  refine awp_region rfl ?_
  refine wpo_mv (a := (eS ([] : List (BitVec 8)))) rfl rfl rfl (o_as tk rfl (Wk.refl _)) ?_
  refine wpo_nil ?_
  refine awp_seq ?_
  refine awp_seq ?_
  refine awp_region rfl ?_
  refine wpo_mv (a := (eI x0)) rfl rfl rfl (o_mv tk rfl (Wk.refl _)) ?_
  refine wpo_lt H eB rfl rfl rfl (o_ar tk rfl rfl rfl) fun v2 H1 => ?_
  refine wpo_nil ?_
  refine awp_if H1 rfl (fun H3 => ?_) (fun H3 => ?_)
  · refine awp_seq ?_
    refine awp_region rfl ?_
    refine wpo_mv (a := (eS ([63#8] : List (BitVec 8)))) rfl rfl rfl (o_as tk rfl (Wk.refl _)) ?_
    refine wpo_nil ?_
    refine awp_ret ?_
    obtain rfl := Option.some.inj H3
    exact ⟨_, (eS ([63#8] : List (BitVec 8))), rfl, (.of_eq rfl), .of_eq ((enc_s td9 sz9).cut _ _ _), hH.noT⟩
  · refine awp_skip ?_
    refine awp_seq ?_
    refine awp_region rfl ?_
    refine wpo_mv (a := (eS ([] : List (BitVec 8)))) rfl rfl rfl (o_as tk rfl (Wk.refl _)) ?_
    refine wpo_nil ?_
    refine awp_seq ?_
    refine awp_block ?_
    obtain ⟨s13, hs7, hj8⟩ := Option.bind_eq_some_iff.1 H3
    refine awp_cutx 0 (fun fr τ => WkF fr (fm [(0, (eI s13.1)), (3, (eS s13.2))]) ∧ Holds σ [] [] τ) ?_ ?_
    · rintro fr τ ⟨hfr, hH⟩
      have H30 := hj8
      refine AWP.fm [(0, (eI s13.1)), (3, (eS s13.2))] hfr ?_
      refine awp_seq ?_
      refine awp_region rfl ?_
      refine wpo_mv (a := (eI s13.1)) rfl rfl rfl (o_mv tk rfl (Wk.refl _)) ?_
      refine wpo_lt H30 eI rfl rfl rfl (o_ar tk rfl rfl rfl) fun v32 H31 => ?_
      refine wpo_lt H31 (@eU .u8 8) rfl rfl rfl (o_cv_iu tk td3 td5 rfl rfl) fun v34 H33 => ?_
      refine wpo_bd H33 eS rfl rfl rfl (fun v36 hv => o_chr tk hv td5 td9 rfl) fun v36 hv36 H35 => ?_
      refine wpo_mv (a := (eS s13.2)) rfl rfl rfl (o_mv tk rfl (Wk.refl _)) ?_
      refine wpo_bd H35 eS rfl rfl rfl (fun v38 hv => o_cat tk hv rfl rfl) fun v38 hv38 H37 => ?_
      refine wpo_mv (a := (eS v38)) rfl rfl rfl (o_as tk rfl (Wk.refl _)) ?_
      refine wpo_nil ?_
      refine awp_ret ?_
      obtain rfl := Option.some.inj H37
      exact ⟨_, (eS v38), rfl, (.of_eq rfl), .of_eq ((enc_s td9 sz9).cut _ _ _), hH.noT⟩
    · refine awp_loopO (body := fun s => trouble_digits_b0 s.1 s.2) hs7 (fun (s : Int × (List (BitVec 8))) fr τ => WkF fr (fm [(0, (eI s.1)), (3, (eS s.2))]) ∧ Holds σ [] [] τ) ⟨(wkf_cons (.of_eq rfl) (wkf_cons (.of_eq rfl) (wkf_nil _))), hH⟩ ?_
      rintro ⟨c4, c5⟩ fr τ y9 ⟨hfr, hH⟩ hb11 hy12
      have H14 : trouble_digits_b0 c4 c5 = some y9 := hb11
      unfold trouble_digits_b0 at H14
      refine AWP.fm [(0, (eI c4)), (3, (eS c5))] hfr ?_
      have hH : Holds σ [] [] τ := hH
      refine awp_seq ?_
      refine awp_seq ?_
      refine awp_region rfl ?_
      refine wpo_mv (a := (eI c4)) rfl rfl rfl (o_mv tk rfl (Wk.refl _)) ?_
      refine wpo_lt H14 eB rfl rfl rfl (o_ar tk rfl rfl rfl) fun v16 H15 => ?_
      refine wpo_nil ?_
      refine awp_if H15 rfl (fun H17 => ?_) (fun H17 => ?_)
      · refine awp_skip ?_
        refine awp_block ?_
        refine awp_seq ?_
        refine awp_region rfl ?_
        refine wpo_mv (a := (eI c4)) rfl rfl rfl (o_mv tk rfl (Wk.refl _)) ?_
        refine wpo_lt H17 eI rfl rfl rfl (o_rem tk (z := (10 : Int)) rfl rfl rfl) fun v19 H18 => ?_
        refine wpo_lt H18 eI rfl rfl rfl (o_ar tk rfl rfl rfl) fun v21 H20 => ?_
        refine wpo_lt H20 (@eU .u8 8) rfl rfl rfl (o_cv_iu tk td3 td5 rfl rfl) fun v23 H22 => ?_
        refine wpo_bd H22 eS rfl rfl rfl (fun v25 hv => o_chr tk hv td5 td9 rfl) fun v25 hv25 H24 => ?_
        refine wpo_mv (a := (eS c5)) rfl rfl rfl (o_mv tk rfl (Wk.refl _)) ?_
        refine wpo_bd H24 eS rfl rfl rfl (fun v27 hv => o_cat tk hv rfl rfl) fun v27 hv27 H26 => ?_
        refine wpo_mv (a := (eS v27)) rfl rfl rfl (o_as tk rfl (Wk.refl _)) ?_
        refine wpo_nil ?_
        refine awp_region rfl ?_
        refine wpo_mv (a := (eI c4)) rfl rfl rfl (o_mv tk rfl (Wk.refl _)) ?_
        refine wpo_lt H26 eI rfl rfl rfl (o_quo tk (z := (10 : Int)) rfl rfl rfl) fun v29 H28 => ?_
        refine wpo_mv (a := (eI v29)) rfl rfl rfl (o_as tk rfl (Wk.refl _)) ?_
        refine wpo_nil ?_
        exact ⟨(v29, v27), inj_inl H28, (wkf_cons (.of_eq rfl) (wkf_cons (.of_eq rfl) (wkf_nil _))), hH⟩
      · refine awp_exit ?_
        have hz := hy12 _ (inj_inr H17)
        subst hz
        exact ⟨⟨_, inj_inr H17⟩, (wkf_cons (.of_eq rfl) (wkf_cons (.of_eq rfl) (wkf_nil _))), hH⟩
end Go.Proofs.YtekldjimdmkgaaaDoor
namespace Go.Proofs.YtekldjimdmkgaaaDoor
open Go Go.Va
set_option linter.unusedVariables false
set_option linter.unusedSimpArgs false
set_option maxRecDepth 20000
theorem trouble_Text_ok {x0 : Err} {r : (List (BitVec 8))} (H : trouble_Text x0 = some r) (σ : St)  (hg : σ.gl = gls) : ACall Tryd.prog 16 [(eErr x0)] σ (fun a τ => a = eS r ∧ τ = σ) := by
  unfold trouble_Text at H
  refine ACall.pure (acall_start tk Tryd.func16 (by decide) rfl (Nat.le_of_ble_eq_true rfl) ?_)
  have hH := Holds.init σ
  refine awp_seq ?_
  refine awp_region rfl ?_
  refine wpo_mv (a := (eS ([] : List (BitVec 8)))) rfl rfl rfl (o_as tk rfl (Wk.refl _)) ?_
  refine wpo_nil ?_
  refine awp_seq ?_
  refine awp_region rfl ?_
  refine wpo_mv (a := (eS ([] : List (BitVec 8)))) rfl rfl rfl (o_as tk rfl (Wk.refl _)) ?_
  refine wpo_nil ?_
  refine awp_seq ?_
  refine awp_seq ?_
  refine awp_region rfl ?_
  refine wpo_mv (a := (eErr x0)) rfl rfl rfl (o_mv tk rfl (Wk.refl _)) ?_
  refine wpo_bdr H (eL 3 e_api_Step) rfl rfl rfl (fun v2 hv => h_callr rfl rfl (.cons (.of_eq rfl) .nil) (trouble_Chain_ok hv _ (hH.gl.trans hg))) fun v2 hv2 H1 => ?_
  refine wpo_lt H1 eI rfl rfl rfl (o_len tk td23 rfl) fun v4 H3 => ?_
  refine wpo_mv (a := (eI (0 : Int))) rfl rfl rfl (o_mv tk rfl (Wk.refl _)) ?_
  refine wpo_nil ?_
  refine awp_block ?_
  obtain ⟨s14, hs8, hj9⟩ := Option.bind_eq_some_iff.1 H3
  refine awp_cutx 0 (fun fr τ => WkF fr (fm [(3, (eS s14))]) ∧ Holds σ [] [] τ) ?_ ?_
  · rintro fr τ ⟨hfr, hH⟩
    have H65 := hj9
    refine AWP.fm [(3, (eS s14))] hfr ?_
    refine awp_seq ?_
    refine awp_region rfl ?_
    refine wpo_mv (a := (eS s14)) rfl rfl rfl (o_mv tk rfl (Wk.refl _)) ?_
    refine wpo_mv (a := (eS s14)) rfl rfl rfl (o_as tk rfl (Wk.refl _)) ?_
    refine wpo_nil ?_
    refine awp_ret ?_
    obtain rfl := Option.some.inj H65
    exact ⟨_, (eS s14), rfl, (.of_eq rfl), .of_eq ((enc_s td9 sz9).cut _ _ _), hH.noT⟩
  · refine awp_loopO (body := fun s => trouble_Text_b0 v2 v4 s.1 s.2) hs8 (fun (s : (List (BitVec 8)) × Int) fr τ => WkF fr (fm [(3, (eS s.1)), (7, ((eL 3 e_api_Step) v2)), (8, (eI v4)), (9, (eI s.2))]) ∧ Holds σ [] [] τ) ⟨(wkf_cons (.of_eq rfl) (wkf_cons (.of_eq rfl) (wkf_cons (.of_eq rfl) (wkf_cons (.of_eq rfl) (wkf_nil _))))), hH⟩ ?_
    rintro ⟨c5, c6⟩ fr τ y10 ⟨hfr, hH⟩ hb12 hy13
    have H15 : trouble_Text_b0 v2 v4 c5 c6 = some y10 := hb12
    unfold trouble_Text_b0 at H15
    refine AWP.fm [(3, (eS c5)), (7, ((eL 3 e_api_Step) v2)), (8, (eI v4)), (9, (eI c6))] hfr ?_
    have hH : Holds σ [] [] τ := hH
    refine awp_seq ?_
    refine awp_region rfl ?_
    refine wpo_lt H15 eB rfl rfl rfl (o_ar tk rfl rfl rfl) fun v17 H16 => ?_
    refine wpo_nil ?_
    refine awp_seq ?_
    refine awp_if H16 rfl (fun H18 => ?_) (fun H18 => ?_)
    · refine awp_skip ?_
      refine awp_seq ?_
      refine awp_block ?_
      refine awp_seq ?_
      refine awp_region rfl ?_
      refine wpo_mv (a := (eI c6)) rfl rfl rfl (o_mv tk rfl (Wk.refl _)) ?_
      refine wpo_bd H18 (fun y => .fptr (e_api_Step y).cells 0) rfl rfl rfl (fun v20 hv => o_ixa tk hv td23 enc32 rfl rfl) fun v20 hv20 H19 => ?_
      refine wpo_mv (a := (e_api_Step v20)) rfl rfl rfl (o_ld_e tk enc32 rfl rfl) ?_
      refine wpo_a (av := fun id => .ref id 0) rfl rfl rfl (h_alloc tk hH ty32 (c_api_Step z_api_Step) rfl) fun id21 τ ⟨hH, n22⟩ => ?_
      refine wpo_mv (a := (eI c6)) rfl rfl rfl (o_as tk rfl (Wk.refl _)) ?_
      obtain ⟨c24, hc25, H23⟩ := lt_ex H19
      refine wpo_z rfl rfl (h_st tk hH 0 rfl ty32 (by simp) rfl rfl (.of_eq rfl) (b := (e_api_Step v20)) (enc32.flat _) rfl (Nat.le_of_ble_eq_true rfl) (c_api_Step c24) (by rw [← hc25]; rfl)) fun τ hH => ?_
      refine wpo_nil ?_
      refine awp_seq ?_
      refine awp_seq ?_
      refine awp_region rfl ?_
      refine wpo_mv (a := (eI c6)) rfl rfl rfl (o_mv tk rfl (Wk.refl _)) ?_
      refine wpo_lt H23 eB rfl rfl rfl (o_ar tk rfl rfl rfl) fun v27 H26 => ?_
      refine wpo_nil ?_
      obtain ⟨s28, hs30, hj31⟩ := Option.bind_eq_some_iff.1 H26
      refine awp_cutn (fun fr τ => WkF fr (fm [(3, (eS s28)), (5, (.ref id21 0)), (7, ((eL 3 e_api_Step) v2)), (8, (eI v4)), (9, (eI c6))]) ∧ Holds σ [(id21, (c_api_Step c24))] [] τ) ?_ ?_
      · rintro fr τ ⟨hfr, hH⟩
        have H35 := hj31
        refine AWP.fm [(3, (eS s28)), (5, (.ref id21 0)), (7, ((eL 3 e_api_Step) v2)), (8, (eI v4)), (9, (eI c6))] hfr ?_
        refine awp_seq ?_
        refine awp_region rfl ?_
        refine wpo_mv (a := (eS s28)) rfl rfl rfl (o_mv tk rfl (Wk.refl _)) ?_
        refine wpo_mv (a := (.ref id21 0)) rfl rfl rfl (o_c tk false rfl (fun _ => rfl)) ?_
        refine wpo_rd (a := (eS c24.Op)) rfl rfl rfl (h_ld tk hH 0 rfl rfl rfl) ?_
        refine wpo_bd H35 eS rfl rfl rfl (fun v37 hv => o_cat tk hv rfl rfl) fun v37 hv37 H36 => ?_
        refine wpo_mv (a := (eS v37)) rfl rfl rfl (o_as tk rfl (Wk.refl _)) ?_
        refine wpo_nil ?_
        refine awp_seq ?_
        refine awp_seq ?_
        refine awp_region rfl ?_
        refine wpo_mv (a := (.ref id21 1)) rfl rfl rfl (o_c tk false rfl (fun _ => rfl)) ?_
        refine wpo_rd (a := (eI c24.At)) rfl rfl rfl (h_ld tk hH 0 rfl rfl rfl) ?_
        refine wpo_lt H36 eB rfl rfl rfl (o_ar tk rfl rfl rfl) fun v39 H38 => ?_
        refine wpo_nil ?_
        obtain ⟨s40, hs42, hj43⟩ := Option.bind_eq_some_iff.1 H38
        refine awp_cutn (fun fr τ => WkF fr (fm [(3, (eS s40)), (5, (.ref id21 0)), (7, ((eL 3 e_api_Step) v2)), (8, (eI v4)), (9, (eI c6))]) ∧ Holds σ [(id21, (c_api_Step c24))] [] τ) ?_ ?_
        · rintro fr τ ⟨hfr, hH⟩
          have H51 := hj43
          refine AWP.fm [(3, (eS s40)), (5, (.ref id21 0)), (7, ((eL 3 e_api_Step) v2)), (8, (eI v4)), (9, (eI c6))] hfr ?_
          refine awp_seq ?_
          refine awp_region rfl ?_
          refine wpo_mv (a := (.ref id21 2)) rfl rfl rfl (o_c tk false rfl (fun _ => rfl)) ?_
          refine wpo_rd (a := (eI c24.Code)) rfl rfl rfl (h_ld tk hH 0 rfl rfl rfl) ?_
          refine wpo_lt H51 eB rfl rfl rfl (o_ar tk rfl rfl rfl) fun v53 H52 => ?_
          refine wpo_nil ?_
          refine awp_if H52 rfl (fun H54 => ?_) (fun H54 => ?_)
          · refine awp_region rfl ?_
            refine wpo_mv (a := (eS s40)) rfl rfl rfl (o_mv tk rfl (Wk.refl _)) ?_
            refine wpo_mv (a := (.ref id21 2)) rfl rfl rfl (o_c tk false rfl (fun _ => rfl)) ?_
            refine wpo_rd (a := (eI c24.Code)) rfl rfl rfl (h_ld tk hH 0 rfl rfl rfl) ?_
            refine wpo_bd H54 eS rfl rfl rfl (fun v56 hv => OpP.of_call rfl rfl (.cons (.of_eq rfl) .nil) (trouble_digits_ok hv)) fun v56 hv56 H55 => ?_
            refine wpo_bd H55 eS rfl rfl rfl (fun v58 hv => o_cat tk hv rfl rfl) fun v58 hv58 H57 => ?_
            refine wpo_bd H57 eS rfl rfl rfl (fun v60 hv => o_cat tk hv rfl rfl) fun v60 hv60 H59 => ?_
            refine wpo_mv (a := (eS v60)) rfl rfl rfl (o_as tk rfl (Wk.refl _)) ?_
            refine wpo_nil ?_
            refine awp_region rfl ?_
            refine wpo_lt H59 eI rfl rfl rfl (o_ar tk rfl rfl rfl) fun v62 H61 => ?_
            refine wpo_mv (a := (eI v62)) rfl rfl rfl (o_mv tk rfl (Wk.refl _)) ?_
            refine wpo_nil ?_
            exact ⟨(v60, v62), inj_inl H61, (wkf_cons (.of_eq rfl) (wkf_cons (.of_eq rfl) (wkf_cons (.of_eq rfl) (wkf_cons (.of_eq rfl) (wkf_nil _))))), (hH.drop n22)⟩
          · refine awp_skip ?_
            refine awp_region rfl ?_
            refine wpo_lt H54 eI rfl rfl rfl (o_ar tk rfl rfl rfl) fun v64 H63 => ?_
            refine wpo_mv (a := (eI v64)) rfl rfl rfl (o_mv tk rfl (Wk.refl _)) ?_
            refine wpo_nil ?_
            exact ⟨(s40, v64), inj_inl H63, (wkf_cons (.of_eq rfl) (wkf_cons (.of_eq rfl) (wkf_cons (.of_eq rfl) (wkf_cons (.of_eq rfl) (wkf_nil _))))), (hH.drop n22)⟩
        · refine awp_if hs42 rfl (fun H44 => ?_) (fun H44 => ?_)
          · refine awp_region rfl ?_
            refine wpo_mv (a := (eS v37)) rfl rfl rfl (o_mv tk rfl (Wk.refl _)) ?_
            refine wpo_mv (a := (.ref id21 1)) rfl rfl rfl (o_c tk false rfl (fun _ => rfl)) ?_
            refine wpo_rd (a := (eI c24.At)) rfl rfl rfl (h_ld tk hH 0 rfl rfl rfl) ?_
            refine wpo_bd H44 eS rfl rfl rfl (fun v46 hv => OpP.of_call rfl rfl (.cons (.of_eq rfl) .nil) (trouble_digits_ok hv)) fun v46 hv46 H45 => ?_
            refine wpo_bd H45 eS rfl rfl rfl (fun v48 hv => o_cat tk hv rfl rfl) fun v48 hv48 H47 => ?_
            refine wpo_bd H47 eS rfl rfl rfl (fun v50 hv => o_cat tk hv rfl rfl) fun v50 hv50 H49 => ?_
            refine wpo_mv (a := (eS v50)) rfl rfl rfl (o_as tk rfl (Wk.refl _)) ?_
            refine wpo_nil ?_
            have e := Option.some.inj H49
            subst e
            exact ⟨(wkf_cons (.of_eq rfl) (wkf_cons (.of_eq rfl) (wkf_cons (.of_eq rfl) (wkf_cons (.of_eq rfl) (wkf_cons (.of_eq rfl) (wkf_nil _)))))), hH⟩
          · refine awp_skip ?_
            have e := Option.some.inj H44
            subst e
            exact ⟨(wkf_cons (.of_eq rfl) (wkf_cons (.of_eq rfl) (wkf_cons (.of_eq rfl) (wkf_cons (.of_eq rfl) (wkf_cons (.of_eq rfl) (wkf_nil _)))))), hH⟩
      · refine awp_if hs30 rfl (fun H32 => ?_) (fun H32 => ?_)
        · refine awp_region rfl ?_
          refine wpo_mv (a := (eS c5)) rfl rfl rfl (o_mv tk rfl (Wk.refl _)) ?_
          refine wpo_bd H32 eS rfl rfl rfl (fun v34 hv => o_cat tk hv rfl rfl) fun v34 hv34 H33 => ?_
          refine wpo_mv (a := (eS v34)) rfl rfl rfl (o_as tk rfl (Wk.refl _)) ?_
          refine wpo_nil ?_
          have e := Option.some.inj H33
          subst e
          exact ⟨(wkf_cons (.of_eq rfl) (wkf_cons (.of_eq rfl) (wkf_cons (.of_eq rfl) (wkf_cons (.of_eq rfl) (wkf_cons (.of_eq rfl) (wkf_nil _)))))), hH⟩
        · refine awp_skip ?_
          have e := Option.some.inj H32
          subst e
          exact ⟨(wkf_cons (.of_eq rfl) (wkf_cons (.of_eq rfl) (wkf_cons (.of_eq rfl) (wkf_cons (.of_eq rfl) (wkf_cons (.of_eq rfl) (wkf_nil _)))))), hH⟩
    · refine awp_exit ?_
      have hz := hy13 _ (inj_inr H18)
      subst hz
      exact ⟨⟨_, inj_inr H18⟩, (wkf_cons (.of_eq rfl) (wkf_nil _)), hH⟩
end Go.Proofs.YtekldjimdmkgaaaDoor
namespace Go.Proofs.YtekldjimdmkgaaaDoor
open Go Go.Va
set_option linter.unusedVariables false
set_option linter.unusedSimpArgs false
set_option maxRecDepth 20000
theorem trouble_New_ok {x0 : List (BitVec 8)} {x1 : Int} {x2 : Int} {r : Err} (H : trouble_New x0 x1 x2 = some r) (σ : St)  : ACall Tryd.prog 7 [(eS x0), (eI x1), (eI x2)] σ (fun a τ => a = eErr r ∧ τ = σ) := by
  unfold trouble_New at H
  refine ACall.pure (acall_start tk Tryd.func7 (by decide) rfl (Nat.le_of_ble_eq_true rfl) ?_)
  have hH := Holds.init σ
  refine awp_seq ?_
  refine awp_region rfl ?_
  refine wpo_mv (a := (eErr Err.nil)) rfl rfl rfl (o_as tk rfl (Wk.refl _)) ?_
  refine wpo_nil ?_
  refine awp_seq ?_
  refine awp_seq ?_
  refine awp_region rfl ?_
  refine wpo_mv (a := (eI x2)) rfl rfl rfl (o_mv tk rfl (Wk.refl _)) ?_
  refine wpo_lt H eB rfl rfl rfl (o_ar tk rfl rfl rfl) fun v2 H1 => ?_
  refine wpo_nil ?_
  refine awp_if H1 rfl (fun H3 => ?_) (fun H3 => ?_)
  · refine awp_seq ?_
    refine awp_region rfl ?_
    refine wpo_mv (a := (eErr Err.nil)) rfl rfl rfl (o_as tk rfl (Wk.refl _)) ?_
    refine wpo_nil ?_
    refine awp_ret ?_
    obtain rfl := Option.some.inj H3
    exact ⟨_, (eErr Err.nil), rfl, (.of_eq rfl), .of_eq (encErr.cut _ _ _), hH.noT⟩
  · refine awp_skip ?_
    refine awp_seq ?_
    refine awp_region rfl ?_
    refine wpo_mv (a := (eS x0)) rfl rfl rfl (o_mv tk rfl (Wk.refl _)) ?_
    refine wpo_mv (a := (eI x1)) rfl rfl rfl (o_mv tk rfl (Wk.refl _)) ?_
    refine wpo_mv (a := (eI x2)) rfl rfl rfl (o_mv tk rfl (Wk.refl _)) ?_
    refine wpo_lt H3 e_trouble_fault rfl rfl rfl (o_c tk false rfl (fun _ => rfl)) fun v5 H4 => ?_
    refine wpo_mv (a := (.fptr (c_trouble_fault v5) 0)) rfl rfl rfl (o_boxf tk rfl (.of_eq rfl) (b := (e_trouble_fault v5)) (enc52.flat _)) ?_
    refine wpo_mv (a := (eErr (Err.fault v5.op v5.at_ v5.code v5.under))) rfl rfl rfl (o_c tk false rfl (fun _ => rfl)) ?_
    refine wpo_mv (a := (eErr (Err.fault v5.op v5.at_ v5.code v5.under))) rfl rfl rfl (o_as tk rfl (Wk.refl _)) ?_
    refine wpo_nil ?_
    refine awp_ret ?_
    obtain rfl := Option.some.inj H4
    exact ⟨_, (eErr (Err.fault v5.op v5.at_ v5.code v5.under)), rfl, (.of_eq rfl), .of_eq (encErr.cut _ _ _), hH.noT⟩
end Go.Proofs.YtekldjimdmkgaaaDoor
namespace Go.Proofs.YtekldjimdmkgaaaDoor
open Go Go.Va
set_option linter.unusedVariables false
set_option linter.unusedSimpArgs false
set_option maxRecDepth 20000
theorem butterylaw01_works_ok  {r : Bool} (H : butterylaw01_works = some r) (σ : St)  (hg : σ.gl = gls) : ACall Tryd.prog 18 [] σ (fun a τ => a = eB r ∧ τ = σ) := by
  unfold butterylaw01_works at H
  refine ACall.pure (acall_start tk Tryd.func18 (by decide) rfl (Nat.le_of_ble_eq_true rfl) ?_)
  have hH := Holds.init σ
  refine awp_seq ?_
  refine awp_region rfl ?_
  refine wpo_mv (a := (eB false)) rfl rfl rfl (o_as tk rfl (Wk.refl _)) ?_
  refine wpo_nil ?_
  refine awp_seq ?_
  refine awp_region rfl ?_
  refine wpo_bd H eErr rfl rfl rfl (fun v2 hv => OpP.of_call rfl rfl (.cons (.of_eq rfl) (.cons (.of_eq rfl) (.cons (.of_eq rfl) .nil))) (trouble_New_ok hv)) fun v2 hv2 H1 => ?_
  refine wpo_bd H1 eErr rfl rfl rfl (fun v4 hv => OpP.of_call rfl rfl (.cons (.of_eq rfl) (.cons (.of_eq rfl) (.cons (.of_eq rfl) .nil))) (trouble_Wrap_ok hv)) fun v4 hv4 H3 => ?_
  refine wpo_mv (a := (eErr v4)) rfl rfl rfl (o_as tk rfl (Wk.refl _)) ?_
  refine wpo_nil ?_
  refine awp_seq ?_
  refine awp_region rfl ?_
  refine wpo_mv (a := (eErr v4)) rfl rfl rfl (o_mv tk rfl (Wk.refl _)) ?_
  refine wpo_bdr H3 (fun r => .tup [eI r.1, eB r.2]) rfl rfl rfl (fun v6 hv => h_callr rfl rfl (.cons (.of_eq rfl) .nil) (trouble_Where_ok hv _ (hH.gl.trans hg))) fun v6 hv6 H5 => ?_
  refine wpo_mv (a := (.tup [(eI v6.1), (eB v6.2)])) rfl rfl rfl (o_mv tk rfl (Wk.refl _)) ?_
  refine wpo_mv (a := (eI v6.1)) rfl rfl rfl (o_ext tk rfl rfl) ?_
  refine wpo_mv (a := (eB v6.2)) rfl rfl rfl (o_ext tk rfl rfl) ?_
  refine wpo_mv (a := (eI v6.1)) rfl rfl rfl (o_as tk rfl (Wk.refl _)) ?_
  refine wpo_mv (a := (eB v6.2)) rfl rfl rfl (o_as tk rfl (Wk.refl _)) ?_
  refine wpo_nil ?_
  refine awp_seq ?_
  refine awp_region rfl ?_
  refine wpo_mv (a := (eErr v4)) rfl rfl rfl (o_mv tk rfl (Wk.refl _)) ?_
  refine wpo_bdr H5 eI rfl rfl rfl (fun v8 hv => h_callr rfl rfl (.cons (.of_eq rfl) .nil) (trouble_Of_ok hv _ (hH.gl.trans hg))) fun v8 hv8 H7 => ?_
  refine wpo_lt H7 eB rfl rfl rfl (o_ar tk rfl rfl rfl) fun v10 H9 => ?_
  refine wpo_mv (a := (eB v10)) rfl rfl rfl (o_mv tk rfl (Wk.refl _)) ?_
  refine if_split H9 (fun hb H11 => ?_) (fun hb H11 => ?_)
  · subst hb
    refine wpo_mv (a := (eErr v4)) rfl rfl rfl (o_mv tk rfl (Wk.refl _)) ?_
    refine wpo_bd H11 eB rfl rfl rfl (fun v13 hv => OpP.of_call rfl rfl (.cons (.of_eq rfl) (.cons (.of_eq rfl) .nil)) (trouble_Has_ok hv)) fun v13 hv13 H12 => ?_
    refine wpo_mv (a := (eB v13)) rfl rfl rfl (o_pick_t tk rfl rfl (Wk.refl _)) ?_
    refine wpo_mv (a := (eB v13)) rfl rfl rfl (o_mv tk rfl (Wk.refl _)) ?_
    refine if_split H12 (fun hb H14 => ?_) (fun hb H14 => ?_)
    · subst hb
      refine wpo_mv (a := (eErr v4)) rfl rfl rfl (o_mv tk rfl (Wk.refl _)) ?_
      refine wpo_bd H14 eB rfl rfl rfl (fun v16 hv => OpP.of_call rfl rfl (.cons (.of_eq rfl) (.cons (.of_eq rfl) .nil)) (trouble_Has_ok hv)) fun v16 hv16 H15 => ?_
      refine wpo_lt H15 eB rfl rfl rfl (o_un tk rfl rfl) fun v18 H17 => ?_
      refine wpo_mv (a := (eB v18)) rfl rfl rfl (o_pick_t tk rfl rfl (Wk.refl _)) ?_
      refine wpo_mv (a := (eB v18)) rfl rfl rfl (o_mv tk rfl (Wk.refl _)) ?_
      refine if_split H17 (fun hb H19 => ?_) (fun hb H19 => ?_)
      · subst hb
        refine wpo_mv (a := (eI v6.1)) rfl rfl rfl (o_mv tk rfl (Wk.refl _)) ?_
        refine wpo_lt H19 eB rfl rfl rfl (o_ar tk rfl rfl rfl) fun v21 H20 => ?_
        refine wpo_mv (a := (eB v21)) rfl rfl rfl (o_pick_t tk rfl rfl (Wk.refl _)) ?_
        refine wpo_mv (a := (eB v21)) rfl rfl rfl (o_mv tk rfl (Wk.refl _)) ?_
        refine if_split H20 (fun hb H22 => ?_) (fun hb H22 => ?_)
        · subst hb
          refine wpo_mv (a := (eB v6.2)) rfl rfl rfl (o_mv tk rfl (Wk.refl _)) ?_
          refine wpo_mv (a := (eB v6.2)) rfl rfl rfl (o_pick_t tk rfl rfl (Wk.refl _)) ?_
          refine wpo_mv (a := (eB v6.2)) rfl rfl rfl (o_mv tk rfl (Wk.refl _)) ?_
          refine if_split H22 (fun hb H23 => ?_) (fun hb H23 => ?_)
          · rw [hb]
            refine wpo_mv (a := (eErr v4)) rfl rfl rfl (o_mv tk rfl (Wk.refl _)) ?_
            refine wpo_bdr H23 eS rfl rfl rfl (fun v25 hv => h_callr rfl rfl (.cons (.of_eq rfl) .nil) (trouble_Text_ok hv _ (hH.gl.trans hg))) fun v25 hv25 H24 => ?_
            refine wpo_lt H24 eB rfl rfl rfl (o_eql_s tk rfl rfl) fun v27 H26 => ?_
            refine wpo_mv (a := (eB v27)) rfl rfl rfl (o_pick_t tk rfl rfl (Wk.refl _)) ?_
            refine wpo_mv (a := (eB v27)) rfl rfl rfl (o_mv tk rfl (Wk.refl _)) ?_
            refine if_split H26 (fun hb H28 => ?_) (fun hb H28 => ?_)
            · subst hb
              refine wpo_bd H28 eErr rfl rfl rfl (fun v30 hv => OpP.of_call rfl rfl (.cons (.of_eq rfl) (.cons (.of_eq rfl) (.cons (.of_eq rfl) .nil))) (trouble_New_ok hv)) fun v30 hv30 H29 => ?_
              refine wpo_lt H29 eB rfl rfl rfl (o_err_eql tk rfl rfl rfl) fun v32 H31 => ?_
              refine wpo_mv (a := (eB v32)) rfl rfl rfl (o_pick_t tk rfl rfl (Wk.refl _)) ?_
              refine wpo_mv (a := (eB v32)) rfl rfl rfl (o_mv tk rfl (Wk.refl _)) ?_
              refine if_split H31 (fun hb H33 => ?_) (fun hb H33 => ?_)
              · subst hb
                refine wpo_mv (a := (eErr v4)) rfl rfl rfl (o_mv tk rfl (Wk.refl _)) ?_
                refine wpo_bdr H33 (eL 3 e_api_Step) rfl rfl rfl (fun v35 hv => h_callr rfl rfl (.cons (.of_eq rfl) .nil) (trouble_Chain_ok hv _ (hH.gl.trans hg))) fun v35 hv35 H34 => ?_
                refine wpo_lt H34 eI rfl rfl rfl (o_len tk td23 rfl) fun v37 H36 => ?_
                refine wpo_lt H36 eB rfl rfl rfl (o_ar tk rfl rfl rfl) fun v39 H38 => ?_
                refine wpo_mv (a := (eB v39)) rfl rfl rfl (o_pick_t tk rfl rfl (Wk.refl _)) ?_
                refine wpo_mv (a := (eB v39)) rfl rfl rfl (o_as tk rfl (Wk.refl _)) ?_
                refine wpo_nil ?_
                refine awp_ret ?_
                obtain rfl := Option.some.inj H38
                exact ⟨_, (eB v39), rfl, (.of_eq rfl), .of_eq ((enc_b td4 sz4).cut _ _ _), hH.noT⟩
              · subst hb
                refine wpo_skip rfl rfl rfl ?_
                refine wpo_skip rfl rfl rfl ?_
                refine wpo_skip rfl rfl rfl ?_
                refine wpo_skip rfl rfl rfl ?_
                refine wpo_mv (a := (eB false)) rfl rfl rfl (o_pick_f tk rfl rfl (Wk.refl _)) ?_
                refine wpo_mv (a := (eB false)) rfl rfl rfl (o_as tk rfl (Wk.refl _)) ?_
                refine wpo_nil ?_
                refine awp_ret ?_
                obtain rfl := Option.some.inj H33
                exact ⟨_, (eB false), rfl, (.of_eq rfl), .of_eq ((enc_b td4 sz4).cut _ _ _), hH.noT⟩
            · subst hb
              refine wpo_skip rfl rfl rfl ?_
              refine wpo_skip rfl rfl rfl ?_
              refine wpo_mv (a := (eB false)) rfl rfl rfl (o_pick_f tk rfl rfl (Wk.refl _)) ?_
              refine wpo_mv (a := (eB false)) rfl rfl rfl (o_mv tk rfl (Wk.refl _)) ?_
              refine wpo_skip rfl rfl rfl ?_
              refine wpo_skip rfl rfl rfl ?_
              refine wpo_skip rfl rfl rfl ?_
              refine wpo_skip rfl rfl rfl ?_
              refine wpo_mv (a := (eB false)) rfl rfl rfl (o_pick_f tk rfl rfl (Wk.refl _)) ?_
              refine wpo_mv (a := (eB false)) rfl rfl rfl (o_as tk rfl (Wk.refl _)) ?_
              refine wpo_nil ?_
              refine awp_ret ?_
              obtain rfl := Option.some.inj H28
              exact ⟨_, (eB false), rfl, (.of_eq rfl), .of_eq ((enc_b td4 sz4).cut _ _ _), hH.noT⟩
          · rw [hb]
            refine wpo_skip rfl rfl rfl ?_
            refine wpo_skip rfl rfl rfl ?_
            refine wpo_skip rfl rfl rfl ?_
            refine wpo_mv (a := (eB false)) rfl rfl rfl (o_pick_f tk rfl rfl (Wk.refl _)) ?_
            refine wpo_mv (a := (eB false)) rfl rfl rfl (o_mv tk rfl (Wk.refl _)) ?_
            refine wpo_skip rfl rfl rfl ?_
            refine wpo_skip rfl rfl rfl ?_
            refine wpo_mv (a := (eB false)) rfl rfl rfl (o_pick_f tk rfl rfl (Wk.refl _)) ?_
            refine wpo_mv (a := (eB false)) rfl rfl rfl (o_mv tk rfl (Wk.refl _)) ?_
            refine wpo_skip rfl rfl rfl ?_
            refine wpo_skip rfl rfl rfl ?_
            refine wpo_skip rfl rfl rfl ?_
            refine wpo_skip rfl rfl rfl ?_
            refine wpo_mv (a := (eB false)) rfl rfl rfl (o_pick_f tk rfl rfl (Wk.refl _)) ?_
            refine wpo_mv (a := (eB false)) rfl rfl rfl (o_as tk rfl (Wk.refl _)) ?_
            refine wpo_nil ?_
            refine awp_ret ?_
            obtain rfl := Option.some.inj H23
            exact ⟨_, (eB false), rfl, (.of_eq rfl), .of_eq ((enc_b td4 sz4).cut _ _ _), hH.noT⟩
        · subst hb
          refine wpo_skip rfl rfl rfl ?_
          refine wpo_mv (a := (eB false)) rfl rfl rfl (o_pick_f tk rfl rfl (Wk.refl _)) ?_
          refine wpo_mv (a := (eB false)) rfl rfl rfl (o_mv tk rfl (Wk.refl _)) ?_
          refine wpo_skip rfl rfl rfl ?_
          refine wpo_skip rfl rfl rfl ?_
          refine wpo_skip rfl rfl rfl ?_
          refine wpo_mv (a := (eB false)) rfl rfl rfl (o_pick_f tk rfl rfl (Wk.refl _)) ?_
          refine wpo_mv (a := (eB false)) rfl rfl rfl (o_mv tk rfl (Wk.refl _)) ?_
          refine wpo_skip rfl rfl rfl ?_
          refine wpo_skip rfl rfl rfl ?_
          refine wpo_mv (a := (eB false)) rfl rfl rfl (o_pick_f tk rfl rfl (Wk.refl _)) ?_
          refine wpo_mv (a := (eB false)) rfl rfl rfl (o_mv tk rfl (Wk.refl _)) ?_
          refine wpo_skip rfl rfl rfl ?_
          refine wpo_skip rfl rfl rfl ?_
          refine wpo_skip rfl rfl rfl ?_
          refine wpo_skip rfl rfl rfl ?_
          refine wpo_mv (a := (eB false)) rfl rfl rfl (o_pick_f tk rfl rfl (Wk.refl _)) ?_
          refine wpo_mv (a := (eB false)) rfl rfl rfl (o_as tk rfl (Wk.refl _)) ?_
          refine wpo_nil ?_
          refine awp_ret ?_
          obtain rfl := Option.some.inj H22
          exact ⟨_, (eB false), rfl, (.of_eq rfl), .of_eq ((enc_b td4 sz4).cut _ _ _), hH.noT⟩
      · subst hb
        refine wpo_skip rfl rfl rfl ?_
        refine wpo_skip rfl rfl rfl ?_
        refine wpo_mv (a := (eB false)) rfl rfl rfl (o_pick_f tk rfl rfl (Wk.refl _)) ?_
        refine wpo_mv (a := (eB false)) rfl rfl rfl (o_mv tk rfl (Wk.refl _)) ?_
        refine wpo_skip rfl rfl rfl ?_
        refine wpo_mv (a := (eB false)) rfl rfl rfl (o_pick_f tk rfl rfl (Wk.refl _)) ?_
        refine wpo_mv (a := (eB false)) rfl rfl rfl (o_mv tk rfl (Wk.refl _)) ?_
        refine wpo_skip rfl rfl rfl ?_
        refine wpo_skip rfl rfl rfl ?_
        refine wpo_skip rfl rfl rfl ?_
        refine wpo_mv (a := (eB false)) rfl rfl rfl (o_pick_f tk rfl rfl (Wk.refl _)) ?_
        refine wpo_mv (a := (eB false)) rfl rfl rfl (o_mv tk rfl (Wk.refl _)) ?_
        refine wpo_skip rfl rfl rfl ?_
        refine wpo_skip rfl rfl rfl ?_
        refine wpo_mv (a := (eB false)) rfl rfl rfl (o_pick_f tk rfl rfl (Wk.refl _)) ?_
        refine wpo_mv (a := (eB false)) rfl rfl rfl (o_mv tk rfl (Wk.refl _)) ?_
        refine wpo_skip rfl rfl rfl ?_
        refine wpo_skip rfl rfl rfl ?_
        refine wpo_skip rfl rfl rfl ?_
        refine wpo_skip rfl rfl rfl ?_
        refine wpo_mv (a := (eB false)) rfl rfl rfl (o_pick_f tk rfl rfl (Wk.refl _)) ?_
        refine wpo_mv (a := (eB false)) rfl rfl rfl (o_as tk rfl (Wk.refl _)) ?_
        refine wpo_nil ?_
        refine awp_ret ?_
        obtain rfl := Option.some.inj H19
        exact ⟨_, (eB false), rfl, (.of_eq rfl), .of_eq ((enc_b td4 sz4).cut _ _ _), hH.noT⟩
    · subst hb
      refine wpo_skip rfl rfl rfl ?_
      refine wpo_skip rfl rfl rfl ?_
      refine wpo_skip rfl rfl rfl ?_
      refine wpo_mv (a := (eB false)) rfl rfl rfl (o_pick_f tk rfl rfl (Wk.refl _)) ?_
      refine wpo_mv (a := (eB false)) rfl rfl rfl (o_mv tk rfl (Wk.refl _)) ?_
      refine wpo_skip rfl rfl rfl ?_
      refine wpo_skip rfl rfl rfl ?_
      refine wpo_mv (a := (eB false)) rfl rfl rfl (o_pick_f tk rfl rfl (Wk.refl _)) ?_
      refine wpo_mv (a := (eB false)) rfl rfl rfl (o_mv tk rfl (Wk.refl _)) ?_
      refine wpo_skip rfl rfl rfl ?_
      refine wpo_mv (a := (eB false)) rfl rfl rfl (o_pick_f tk rfl rfl (Wk.refl _)) ?_
      refine wpo_mv (a := (eB false)) rfl rfl rfl (o_mv tk rfl (Wk.refl _)) ?_
      refine wpo_skip rfl rfl rfl ?_
      refine wpo_skip rfl rfl rfl ?_
      refine wpo_skip rfl rfl rfl ?_
      refine wpo_mv (a := (eB false)) rfl rfl rfl (o_pick_f tk rfl rfl (Wk.refl _)) ?_
      refine wpo_mv (a := (eB false)) rfl rfl rfl (o_mv tk rfl (Wk.refl _)) ?_
      refine wpo_skip rfl rfl rfl ?_
      refine wpo_skip rfl rfl rfl ?_
      refine wpo_mv (a := (eB false)) rfl rfl rfl (o_pick_f tk rfl rfl (Wk.refl _)) ?_
      refine wpo_mv (a := (eB false)) rfl rfl rfl (o_mv tk rfl (Wk.refl _)) ?_
      refine wpo_skip rfl rfl rfl ?_
      refine wpo_skip rfl rfl rfl ?_
      refine wpo_skip rfl rfl rfl ?_
      refine wpo_skip rfl rfl rfl ?_
      refine wpo_mv (a := (eB false)) rfl rfl rfl (o_pick_f tk rfl rfl (Wk.refl _)) ?_
      refine wpo_mv (a := (eB false)) rfl rfl rfl (o_as tk rfl (Wk.refl _)) ?_
      refine wpo_nil ?_
      refine awp_ret ?_
      obtain rfl := Option.some.inj H14
      exact ⟨_, (eB false), rfl, (.of_eq rfl), .of_eq ((enc_b td4 sz4).cut _ _ _), hH.noT⟩
  · subst hb
    refine wpo_skip rfl rfl rfl ?_
    refine wpo_skip rfl rfl rfl ?_
    refine wpo_mv (a := (eB false)) rfl rfl rfl (o_pick_f tk rfl rfl (Wk.refl _)) ?_
    refine wpo_mv (a := (eB false)) rfl rfl rfl (o_mv tk rfl (Wk.refl _)) ?_
    refine wpo_skip rfl rfl rfl ?_
    refine wpo_skip rfl rfl rfl ?_
    refine wpo_skip rfl rfl rfl ?_
    refine wpo_mv (a := (eB false)) rfl rfl rfl (o_pick_f tk rfl rfl (Wk.refl _)) ?_
    refine wpo_mv (a := (eB false)) rfl rfl rfl (o_mv tk rfl (Wk.refl _)) ?_
    refine wpo_skip rfl rfl rfl ?_
    refine wpo_skip rfl rfl rfl ?_
    refine wpo_mv (a := (eB false)) rfl rfl rfl (o_pick_f tk rfl rfl (Wk.refl _)) ?_
    refine wpo_mv (a := (eB false)) rfl rfl rfl (o_mv tk rfl (Wk.refl _)) ?_
    refine wpo_skip rfl rfl rfl ?_
    refine wpo_mv (a := (eB false)) rfl rfl rfl (o_pick_f tk rfl rfl (Wk.refl _)) ?_
    refine wpo_mv (a := (eB false)) rfl rfl rfl (o_mv tk rfl (Wk.refl _)) ?_
    refine wpo_skip rfl rfl rfl ?_
    refine wpo_skip rfl rfl rfl ?_
    refine wpo_skip rfl rfl rfl ?_
    refine wpo_mv (a := (eB false)) rfl rfl rfl (o_pick_f tk rfl rfl (Wk.refl _)) ?_
    refine wpo_mv (a := (eB false)) rfl rfl rfl (o_mv tk rfl (Wk.refl _)) ?_
    refine wpo_skip rfl rfl rfl ?_
    refine wpo_skip rfl rfl rfl ?_
    refine wpo_mv (a := (eB false)) rfl rfl rfl (o_pick_f tk rfl rfl (Wk.refl _)) ?_
    refine wpo_mv (a := (eB false)) rfl rfl rfl (o_mv tk rfl (Wk.refl _)) ?_
    refine wpo_skip rfl rfl rfl ?_
    refine wpo_skip rfl rfl rfl ?_
    refine wpo_skip rfl rfl rfl ?_
    refine wpo_skip rfl rfl rfl ?_
    refine wpo_mv (a := (eB false)) rfl rfl rfl (o_pick_f tk rfl rfl (Wk.refl _)) ?_
    refine wpo_mv (a := (eB false)) rfl rfl rfl (o_as tk rfl (Wk.refl _)) ?_
    refine wpo_nil ?_
    refine awp_ret ?_
    obtain rfl := Option.some.inj H11
    exact ⟨_, (eB false), rfl, (.of_eq rfl), .of_eq ((enc_b td4 sz4).cut _ _ _), hH.noT⟩
end Go.Proofs.YtekldjimdmkgaaaDoor
namespace Go.Proofs.YtekldjimdmkgaaaDoor
open Go Go.Va
set_option linter.unusedVariables false
set_option linter.unusedSimpArgs false
set_option maxRecDepth 20000
theorem butteryref01_Wrap_ok {x0 : List api_Step} {x1 : List (BitVec 8)} {x2 : Int} {r : (List api_Step)} (H : butteryref01_Wrap x0 x1 x2 = some r) (σ : St)  : ACall Tryd.prog 12 [((eL 3 e_api_Step) x0), (eS x1), (eI x2)] σ (fun a τ => a = (eL 3 e_api_Step) r ∧ τ = σ) := by
  unfold butteryref01_Wrap at H
  refine ACall.pure (acall_start tk Tryd.func12 (by decide) rfl (Nat.le_of_ble_eq_true rfl) ?_)
  have hH := Holds.init σ
  refine awp_seq ?_
  refine awp_region rfl ?_
  refine wpo_mv (a := AV.nils) rfl rfl rfl (o_as tk rfl (Wk.refl _)) ?_
  refine wpo_nil ?_
  refine awp_seq ?_
  refine awp_seq ?_
  refine awp_region rfl ?_
  refine wpo_mv (a := ((eL 3 e_api_Step) x0)) rfl rfl rfl (o_mv tk rfl (Wk.refl _)) ?_
  refine wpo_lt H eI rfl rfl rfl (o_len tk td23 rfl) fun v2 H1 => ?_
  refine wpo_lt H1 eB rfl rfl rfl (o_ar tk rfl rfl rfl) fun v4 H3 => ?_
  refine wpo_nil ?_
  refine awp_if H3 rfl (fun H5 => ?_) (fun H5 => ?_)
  · refine awp_seq ?_
    refine awp_region rfl ?_
    refine wpo_mv (a := AV.nils) rfl rfl rfl (o_as tk rfl (Wk.refl _)) ?_
    refine wpo_nil ?_
    refine awp_ret ?_
    obtain rfl := Option.some.inj H5
    exact ⟨_, ((eL 3 e_api_Step) []), rfl, (wk_nils _), .of_eq ((enc_l td23 sz23 enc32.cut).cut _ _ _), hH.noT⟩
  · refine awp_skip ?_
    refine awp_seq ?_
    refine awp_region rfl ?_
    refine wpo_mv (a := (eS x1)) rfl rfl rfl (o_mv tk rfl (Wk.refl _)) ?_
    refine wpo_mv (a := (eI x2)) rfl rfl rfl (o_mv tk rfl (Wk.refl _)) ?_
    refine wpo_lt H5 e_api_Step rfl rfl rfl (o_c tk false rfl (fun _ => rfl)) fun v7 H6 => ?_
    refine wpo_lt H6 (eF 3 e_api_Step) rfl rfl rfl (o_c tk false rfl (fun _ => rfl)) fun v9 H8 => ?_
    refine wpo_mv (a := (eF 3 e_api_Step v9)) rfl rfl rfl (o_as tk rfl (Wk.refl _)) ?_
    refine wpo_nil ?_
    refine awp_seq ?_
    refine awp_region rfl ?_
    refine wpo_mv (a := (eF 3 e_api_Step v9)) rfl rfl rfl (o_mv tk rfl (Wk.refl _)) ?_
    refine wpo_mv (a := ((eL 3 e_api_Step) x0)) rfl rfl rfl (o_mv tk rfl (Wk.refl _)) ?_
    obtain ⟨v11, hv12, H10⟩ := Option.bind_eq_some_iff.1 H8
    refine wpo_a (av := fun t => eT t 3 e_api_Step v11) rfl rfl rfl (h_app0 tk hH hv12 td23 ty32 rfl (by decide) (.inr rfl) (src_l td23 rfl)) fun tk13 τ hH => ?_
    refine wpo_mv (a := (eT tk13 3 e_api_Step v11)) rfl rfl rfl (o_as tk rfl (Wk.refl _)) ?_
    refine wpo_nil ?_
    refine awp_ret ?_
    obtain rfl := Option.some.inj H10
    exact ⟨_, ((eL 3 e_api_Step) v11), rfl, wk_no, .of_eq ((enc_l td23 sz23 enc32.cut).cut _ _ _), hH.noT⟩
end Go.Proofs.YtekldjimdmkgaaaDoor
namespace Go.Proofs.YtekldjimdmkgaaaDoor
open Go Go.Va
set_option linter.unusedVariables false
set_option linter.unusedSimpArgs false
set_option maxRecDepth 20000
theorem butteryref01_Fault_ok {x0 : List (BitVec 8)} {x1 : Int} {x2 : Int} {r : (List api_Step)} (H : butteryref01_Fault x0 x1 x2 = some r) (σ : St)  : ACall Tryd.prog 8 [(eS x0), (eI x1), (eI x2)] σ (fun a τ => a = (eL 3 e_api_Step) r ∧ τ = σ) := by
  unfold butteryref01_Fault at H
  refine ACall.pure (acall_start tk Tryd.func8 (by decide) rfl (Nat.le_of_ble_eq_true rfl) ?_)
  have hH := Holds.init σ
  refine awp_seq ?_
  refine awp_region rfl ?_
  refine wpo_mv (a := AV.nils) rfl rfl rfl (o_as tk rfl (Wk.refl _)) ?_
  refine wpo_nil ?_
  refine awp_seq ?_
  refine awp_seq ?_
  refine awp_region rfl ?_
  refine wpo_mv (a := (eI x2)) rfl rfl rfl (o_mv tk rfl (Wk.refl _)) ?_
  refine wpo_lt H eB rfl rfl rfl (o_ar tk rfl rfl rfl) fun v2 H1 => ?_
  refine wpo_nil ?_
  refine awp_if H1 rfl (fun H3 => ?_) (fun H3 => ?_)
  · refine awp_seq ?_
    refine awp_region rfl ?_
    refine wpo_mv (a := AV.nils) rfl rfl rfl (o_as tk rfl (Wk.refl _)) ?_
    refine wpo_nil ?_
    refine awp_ret ?_
    obtain rfl := Option.some.inj H3
    exact ⟨_, ((eL 3 e_api_Step) []), rfl, (wk_nils _), .of_eq ((enc_l td23 sz23 enc32.cut).cut _ _ _), hH.noT⟩
  · refine awp_skip ?_
    refine awp_seq ?_
    refine awp_region rfl ?_
    refine wpo_mv (a := (eS x0)) rfl rfl rfl (o_mv tk rfl (Wk.refl _)) ?_
    refine wpo_mv (a := (eI x1)) rfl rfl rfl (o_mv tk rfl (Wk.refl _)) ?_
    refine wpo_mv (a := (eI x2)) rfl rfl rfl (o_mv tk rfl (Wk.refl _)) ?_
    refine wpo_lt H3 e_api_Step rfl rfl rfl (o_c tk false rfl (fun _ => rfl)) fun v5 H4 => ?_
    refine wpo_lt H4 (eF 3 e_api_Step) rfl rfl rfl (o_c tk false rfl (fun _ => rfl)) fun v7 H6 => ?_
    refine wpo_mv (a := (eF 3 e_api_Step v7)) rfl rfl rfl (o_as tk rfl (Wk.refl _)) ?_
    refine wpo_nil ?_
    refine awp_ret ?_
    obtain rfl := Option.some.inj H6
    exact ⟨_, ((eL 3 e_api_Step) v7), rfl, wk_no, .of_eq ((enc_l td23 sz23 enc32.cut).cut _ _ _), hH.noT⟩
end Go.Proofs.YtekldjimdmkgaaaDoor
namespace Go.Proofs.YtekldjimdmkgaaaDoor
open Go Go.Va
set_option linter.unusedVariables false
set_option linter.unusedSimpArgs false
set_option maxRecDepth 20000
theorem butterylaw01_made_ok {x0 : Int} {x1 : List api_Step} {r : Err × (List api_Step)} (H : butterylaw01_made x0 x1 = some r) (σ : St)  : ACall Tryd.prog 19 [(eI x0), ((eL 3 e_api_Step) x1)] σ (fun a τ => a = .tup [eErr r.1, (eL 3 e_api_Step) r.2] ∧ τ = σ) := by
  unfold butterylaw01_made at H
  refine ACall.pure (acall_start tk Tryd.func19 (by decide) rfl (Nat.le_of_ble_eq_true rfl) ?_)
  have hH := Holds.init σ
  refine awp_seq ?_
  refine awp_region rfl ?_
  refine wpo_mv (a := (eErr Err.nil)) rfl rfl rfl (o_as tk rfl (Wk.refl _)) ?_
  refine wpo_mv (a := AV.nils) rfl rfl rfl (o_as tk rfl (Wk.refl _)) ?_
  refine wpo_nil ?_
  refine awp_seq ?_
  refine awp_region rfl ?_
  refine wpo_mv (a := (eI x0)) rfl rfl rfl (o_mv tk rfl (Wk.refl _)) ?_
  refine wpo_bd H eErr rfl rfl rfl (fun v2 hv => OpP.of_call rfl rfl (.cons (.of_eq rfl) (.cons (.of_eq rfl) (.cons (.of_eq rfl) .nil))) (trouble_New_ok hv)) fun v2 hv2 H1 => ?_
  refine wpo_mv (a := (eErr v2)) rfl rfl rfl (o_as tk rfl (Wk.refl _)) ?_
  refine wpo_nil ?_
  refine awp_seq ?_
  refine awp_region rfl ?_
  refine wpo_mv (a := (eI x0)) rfl rfl rfl (o_mv tk rfl (Wk.refl _)) ?_
  refine wpo_bd H1 (eL 3 e_api_Step) rfl rfl rfl (fun v4 hv => OpP.of_call rfl rfl (.cons (.of_eq rfl) (.cons (.of_eq rfl) (.cons (.of_eq rfl) .nil))) (butteryref01_Fault_ok hv)) fun v4 hv4 H3 => ?_
  refine wpo_mv (a := ((eL 3 e_api_Step) v4)) rfl rfl rfl (o_as tk rfl (Wk.refl _)) ?_
  refine wpo_nil ?_
  refine awp_seq ?_
  refine awp_seq ?_
  refine awp_region rfl ?_
  refine wpo_mv (a := (eI (0 : Int))) rfl rfl rfl (o_as tk rfl (Wk.refl _)) ?_
  refine wpo_nil ?_
  refine awp_block ?_
  obtain ⟨s15, hs9, hj10⟩ := Option.bind_eq_some_iff.1 H3
  refine awp_cutx 0 (fun fr τ => WkF fr (fm [(6, (eErr s15.1)), (7, ((eL 3 e_api_Step) s15.2))]) ∧ Holds σ [] [] τ) ?_ ?_
  · rintro fr τ ⟨hfr, hH⟩
    have H44 := hj10
    refine AWP.fm [(6, (eErr s15.1)), (7, ((eL 3 e_api_Step) s15.2))] hfr ?_
    refine awp_seq ?_
    refine awp_region rfl ?_
    refine wpo_mv (a := (eErr s15.1)) rfl rfl rfl (o_mv tk rfl (Wk.refl _)) ?_
    refine wpo_mv (a := ((eL 3 e_api_Step) s15.2)) rfl rfl rfl (o_mv tk rfl (Wk.refl _)) ?_
    refine wpo_mv (a := (eErr s15.1)) rfl rfl rfl (o_as tk rfl (Wk.refl _)) ?_
    refine wpo_mv (a := ((eL 3 e_api_Step) s15.2)) rfl rfl rfl (o_as tk rfl (Wk.refl _)) ?_
    refine wpo_nil ?_
    refine awp_ret ?_
    obtain rfl := Option.some.inj H44
    exact ⟨_, (.tup [(eErr s15.1), ((eL 3 e_api_Step) s15.2)]), rfl, (wk_tup (.cons (.of_eq rfl) (.cons (.of_eq rfl) .nil))), .of_eq (by simp only [cutAV, cutL, encErr.cut _ _ _, (enc_l td23 sz23 enc32.cut).cut _ _ _]), hH.noT⟩
  · refine awp_loopO (body := fun s => butterylaw01_made_b0 x1 s.1 s.2.1 s.2.2) hs9 (fun (s : Err × (List api_Step) × Int) fr τ => WkF fr (fm [(1, ((eL 3 e_api_Step) x1)), (6, (eErr s.1)), (7, ((eL 3 e_api_Step) s.2.1)), (8, (eI s.2.2))]) ∧ Holds σ [] [] τ) ⟨(wkf_cons (.of_eq rfl) (wkf_cons (.of_eq rfl) (wkf_cons (.of_eq rfl) (wkf_cons (.of_eq rfl) (wkf_nil _))))), hH⟩ ?_
    rintro ⟨c5, c6, c7⟩ fr τ y11 ⟨hfr, hH⟩ hb13 hy14
    have H16 : butterylaw01_made_b0 x1 c5 c6 c7 = some y11 := hb13
    unfold butterylaw01_made_b0 at H16
    refine AWP.fm [(1, ((eL 3 e_api_Step) x1)), (6, (eErr c5)), (7, ((eL 3 e_api_Step) c6)), (8, (eI c7))] hfr ?_
    have hH : Holds σ [] [] τ := hH
    refine awp_seq ?_
    refine awp_seq ?_
    obtain ⟨s17, hs19, hj20⟩ := Option.bind_eq_some_iff.1 H16
    refine awp_cutn (fun fr τ => WkF fr (fm [(1, ((eL 3 e_api_Step) x1)), (6, (eErr c5)), (7, ((eL 3 e_api_Step) c6)), (8, (eI c7)), (20, (eB s17))]) ∧ Holds σ [] [] τ) ?_ ?_
    · rintro fr τ ⟨hfr, hH⟩
      have H28 := hj20
      refine AWP.fm [(1, ((eL 3 e_api_Step) x1)), (6, (eErr c5)), (7, ((eL 3 e_api_Step) c6)), (8, (eI c7)), (20, (eB s17))] hfr ?_
      refine awp_if H28 rfl (fun H29 => ?_) (fun H29 => ?_)
      · refine awp_skip ?_
        refine awp_seq ?_
        refine awp_block ?_
        refine awp_seq ?_
        refine awp_drawS mixed [] rfl (by decide +kernel) rfl rfl ?_
        refine wpdS_mv (a := ((eL 3 e_api_Step) x1)) rfl rfl rfl (o_mv tk rfl (Wk.refl _)) ?_
        refine wpdS_mv (a := (eI c7)) rfl rfl rfl (o_mv tk rfl (Wk.refl _)) ?_
        refine wpdS_bd H29 (fun y => .fptr (e_api_Step y).cells 0) rfl rfl rfl (fun v31 hv => o_ixa tk hv td23 enc32 rfl rfl) fun v31 hv31 H30 => ?_
        refine wpdS_mv (a := (.fptr (c_api_Step v31) 0)) rfl rfl rfl (o_c tk false rfl (fun _ => rfl)) ?_
        refine wpdS_mv (a := (eS v31.Op)) rfl rfl rfl (o_ld tk rfl rfl) ?_
        refine wpdS_mv (a := ((eL 3 e_api_Step) x1)) rfl rfl rfl (o_mv tk rfl (Wk.refl _)) ?_
        refine wpdS_mv (a := (eI c7)) rfl rfl rfl (o_mv tk rfl (Wk.refl _)) ?_
        refine wpdS_bd H30 (fun y => .fptr (e_api_Step y).cells 0) rfl rfl rfl (fun v33 hv => o_ixa tk hv td23 enc32 rfl rfl) fun v33 hv33 H32 => ?_
        refine wpdS_mv (a := (.fptr (c_api_Step v33) 1)) rfl rfl rfl (o_c tk false rfl (fun _ => rfl)) ?_
        refine wpdS_mv (a := (eI v33.At)) rfl rfl rfl (o_ld tk rfl rfl) ?_
        refine wpdS_mv (a := (eErr c5)) rfl rfl rfl (o_mv tk rfl (Wk.refl _)) ?_
        refine wpdS_bd H32 eErr rfl rfl rfl (fun v35 hv => OpP.of_call rfl rfl (.cons (.of_eq rfl) (.cons (.of_eq rfl) (.cons (.of_eq rfl) .nil))) (trouble_Wrap_ok hv)) fun v35 hv35 H34 => ?_
        refine wpdS_mv (a := (eErr v35)) rfl rfl rfl (o_as tk rfl (Wk.refl _)) ?_
        refine wpdS_nil ?_
        refine awp_drawS mixed [] rfl (by decide +kernel) rfl rfl ?_
        refine wpdS_mv (a := ((eL 3 e_api_Step) c6)) rfl rfl rfl (o_mv tk rfl (Wk.refl _)) ?_
        refine wpdS_mv (a := ((eL 3 e_api_Step) x1)) rfl rfl rfl (o_mv tk rfl (Wk.refl _)) ?_
        refine wpdS_mv (a := (eI c7)) rfl rfl rfl (o_mv tk rfl (Wk.refl _)) ?_
        refine wpdS_bd H34 (fun y => .fptr (e_api_Step y).cells 0) rfl rfl rfl (fun v37 hv => o_ixa tk hv td23 enc32 rfl rfl) fun v37 hv37 H36 => ?_
        refine wpdS_mv (a := (.fptr (c_api_Step v37) 0)) rfl rfl rfl (o_c tk false rfl (fun _ => rfl)) ?_
        refine wpdS_mv (a := (eS v37.Op)) rfl rfl rfl (o_ld tk rfl rfl) ?_
        refine wpdS_mv (a := ((eL 3 e_api_Step) x1)) rfl rfl rfl (o_mv tk rfl (Wk.refl _)) ?_
        refine wpdS_mv (a := (eI c7)) rfl rfl rfl (o_mv tk rfl (Wk.refl _)) ?_
        refine wpdS_bd H36 (fun y => .fptr (e_api_Step y).cells 0) rfl rfl rfl (fun v39 hv => o_ixa tk hv td23 enc32 rfl rfl) fun v39 hv39 H38 => ?_
        refine wpdS_mv (a := (.fptr (c_api_Step v39) 1)) rfl rfl rfl (o_c tk false rfl (fun _ => rfl)) ?_
        refine wpdS_mv (a := (eI v39.At)) rfl rfl rfl (o_ld tk rfl rfl) ?_
        refine wpdS_bd H38 (eL 3 e_api_Step) rfl rfl rfl (fun v41 hv => OpP.of_call rfl rfl (.cons (.of_eq rfl) (.cons (.of_eq rfl) (.cons (.of_eq rfl) .nil))) (butteryref01_Wrap_ok hv)) fun v41 hv41 H40 => ?_
        refine wpdS_mv (a := ((eL 3 e_api_Step) v41)) rfl rfl rfl (o_as tk rfl (Wk.refl _)) ?_
        refine wpdS_nil ?_
        refine awp_region rfl ?_
        refine wpo_mv (a := (eI c7)) rfl rfl rfl (o_mv tk rfl (Wk.refl _)) ?_
        refine wpo_lt H40 eI rfl rfl rfl (o_ar tk rfl rfl rfl) fun v43 H42 => ?_
        refine wpo_mv (a := (eI v43)) rfl rfl rfl (o_as tk rfl (Wk.refl _)) ?_
        refine wpo_nil ?_
        exact ⟨(v35, v41, v43), inj_inl H42, (wkf_cons (.of_eq rfl) (wkf_cons (.of_eq rfl) (wkf_cons (.of_eq rfl) (wkf_cons (.of_eq rfl) (wkf_nil _))))), hH⟩
      · refine awp_exit ?_
        have hz := hy14 _ (inj_inr H29)
        subst hz
        exact ⟨⟨_, inj_inr H29⟩, (wkf_cons (.of_eq rfl) (wkf_cons (.of_eq rfl) (wkf_nil _))), hH⟩
    · refine awp_region rfl ?_
      refine wpo_mv (a := (eI c7)) rfl rfl rfl (o_mv tk rfl (Wk.refl _)) ?_
      refine wpo_mv (a := ((eL 3 e_api_Step) x1)) rfl rfl rfl (o_mv tk rfl (Wk.refl _)) ?_
      refine wpo_lt hs19 eI rfl rfl rfl (o_len tk td23 rfl) fun v22 H21 => ?_
      refine wpo_lt H21 eB rfl rfl rfl (o_ar tk rfl rfl rfl) fun v24 H23 => ?_
      refine wpo_mv (a := (eB v24)) rfl rfl rfl (o_mv tk rfl (Wk.refl _)) ?_
      refine if_split H23 (fun hb H25 => ?_) (fun hb H25 => ?_)
      · subst hb
        refine wpo_mv (a := (eI c7)) rfl rfl rfl (o_mv tk rfl (Wk.refl _)) ?_
        refine wpo_lt H25 eB rfl rfl rfl (o_ar tk rfl rfl rfl) fun v27 H26 => ?_
        refine wpo_mv (a := (eB v27)) rfl rfl rfl (o_pick_t tk rfl rfl (Wk.refl _)) ?_
        refine wpo_nil ?_
        have e := Option.some.inj H26
        subst e
        exact ⟨(wkf_cons (.of_eq rfl) (wkf_cons (.of_eq rfl) (wkf_cons (.of_eq rfl) (wkf_cons (.of_eq rfl) (wkf_cons (.of_eq rfl) (wkf_nil _)))))), hH⟩
      · subst hb
        refine wpo_skip rfl rfl rfl ?_
        refine wpo_skip rfl rfl rfl ?_
        refine wpo_mv (a := (eB false)) rfl rfl rfl (o_pick_f tk rfl rfl (Wk.refl _)) ?_
        refine wpo_nil ?_
        have e := Option.some.inj H25
        subst e
        exact ⟨(wkf_cons (.of_eq rfl) (wkf_cons (.of_eq rfl) (wkf_cons (.of_eq rfl) (wkf_cons (.of_eq rfl) (wkf_cons (.of_eq rfl) (wkf_nil _)))))), hH⟩
end Go.Proofs.YtekldjimdmkgaaaDoor
namespace Go.Proofs.YtekldjimdmkgaaaDoor
open Go Go.Va
set_option linter.unusedVariables false
set_option linter.unusedSimpArgs false
set_option maxRecDepth 20000
theorem butteryref01_Has_ok {x0 : List api_Step} {x1 : Int} {r : Bool} (H : butteryref01_Has x0 x1 = some r) (σ : St)  : ACall Tryd.prog 21 [((eL 3 e_api_Step) x0), (eI x1)] σ (fun a τ => a = eB r ∧ τ = σ) := by
  unfold butteryref01_Has at H
  refine ACall.pure (acall_start tk Tryd.func21 (by decide) rfl (Nat.le_of_ble_eq_true rfl) ?_)
  have hH := Holds.init σ
  refine awp_seq ?_
  refine awp_region rfl ?_
  refine wpo_mv (a := (eB false)) rfl rfl rfl (o_as tk rfl (Wk.refl _)) ?_
  refine wpo_nil ?_
  refine awp_seq ?_
  refine awp_seq ?_
  refine awp_region rfl ?_
  refine wpo_mv (a := (eI (0 : Int))) rfl rfl rfl (o_as tk rfl (Wk.refl _)) ?_
  refine wpo_nil ?_
  refine awp_block ?_
  obtain ⟨o2, hs3, hj4⟩ := Option.bind_eq_some_iff.1 H
  refine awp_cutx 0 (fun fr τ => ∃ s9 : Unit, o2 = .inl s9 ∧ WkF fr (fm []) ∧ Holds σ [] [] τ) ?_ ?_
  · rintro fr τ ⟨s9, rfl, hfr, hH⟩
    have H32 := hj4
    simp only [Sum.elim_inl] at H32
    refine AWP.fm [] hfr ?_
    refine awp_seq ?_
    refine awp_region rfl ?_
    refine wpo_mv (a := (eB false)) rfl rfl rfl (o_as tk rfl (Wk.refl _)) ?_
    refine wpo_nil ?_
    refine awp_ret ?_
    obtain rfl := Option.some.inj H32
    exact ⟨_, (eB false), rfl, (.of_eq rfl), .of_eq ((enc_b td4 sz4).cut _ _ _), hH.noT⟩
  · refine awp_loopO (body := fun s => butteryref01_Has_b0 x0 x1 s) hs3 (fun (s : Int) fr τ => WkF fr (fm [(0, ((eL 3 e_api_Step) x0)), (1, (eI x1)), (5, (eI s))]) ∧ Holds σ [] [] τ) ⟨(wkf_cons (.of_eq rfl) (wkf_cons (.of_eq rfl) (wkf_cons (.of_eq rfl) (wkf_nil _)))), hH⟩ ?_
    rintro c1 fr τ y5 ⟨hfr, hH⟩ hb7 hy8
    have H10 : butteryref01_Has_b0 x0 x1 c1 = some y5 := hb7
    unfold butteryref01_Has_b0 at H10
    refine AWP.fm [(0, ((eL 3 e_api_Step) x0)), (1, (eI x1)), (5, (eI c1))] hfr ?_
    have hH : Holds σ [] [] τ := hH
    refine awp_seq ?_
    refine awp_seq ?_
    refine awp_region rfl ?_
    refine wpo_mv (a := (eI c1)) rfl rfl rfl (o_mv tk rfl (Wk.refl _)) ?_
    refine wpo_mv (a := ((eL 3 e_api_Step) x0)) rfl rfl rfl (o_mv tk rfl (Wk.refl _)) ?_
    refine wpo_lt H10 eI rfl rfl rfl (o_len tk td23 rfl) fun v12 H11 => ?_
    refine wpo_lt H11 eB rfl rfl rfl (o_ar tk rfl rfl rfl) fun v14 H13 => ?_
    refine wpo_nil ?_
    refine awp_if H13 rfl (fun H15 => ?_) (fun H15 => ?_)
    · refine awp_skip ?_
      refine awp_seq ?_
      refine awp_block ?_
      refine awp_seq ?_
      obtain ⟨s16, hs18, hj19⟩ := Option.bind_eq_some_iff.1 H15
      refine awp_cutn (fun fr τ => WkF fr (fm [(0, ((eL 3 e_api_Step) x0)), (1, (eI x1)), (5, (eI c1)), (22, (eB s16))]) ∧ Holds σ [] [] τ) ?_ ?_
      · rintro fr τ ⟨hfr, hH⟩
        have H27 := hj19
        refine AWP.fm [(0, ((eL 3 e_api_Step) x0)), (1, (eI x1)), (5, (eI c1)), (22, (eB s16))] hfr ?_
        refine awp_if H27 rfl (fun H28 => ?_) (fun H28 => ?_)
        · refine awp_seq ?_
          refine awp_region rfl ?_
          refine wpo_mv (a := (eB true)) rfl rfl rfl (o_as tk rfl (Wk.refl _)) ?_
          refine wpo_nil ?_
          refine awp_ret ?_
          have hz := hy8 _ (inj_inr H28)
          refine ⟨⟨_, inj_inr H28⟩, ?_⟩
          rw [← hz] at hj4
          have H29 := (show some _ = some _ from hj4)
          obtain rfl := Option.some.inj H29
          exact ⟨_, (eB true), rfl, (.of_eq rfl), .of_eq ((enc_b td4 sz4).cut _ _ _), hH.noT⟩
        · refine awp_skip ?_
          refine awp_region rfl ?_
          refine wpo_mv (a := (eI c1)) rfl rfl rfl (o_mv tk rfl (Wk.refl _)) ?_
          refine wpo_lt H28 eI rfl rfl rfl (o_ar tk rfl rfl rfl) fun v31 H30 => ?_
          refine wpo_mv (a := (eI v31)) rfl rfl rfl (o_as tk rfl (Wk.refl _)) ?_
          refine wpo_nil ?_
          exact ⟨v31, inj_inl H30, (wkf_cons (.of_eq rfl) (wkf_cons (.of_eq rfl) (wkf_cons (.of_eq rfl) (wkf_nil _)))), hH⟩
      · refine awp_region rfl ?_
        refine wpo_mv (a := ((eL 3 e_api_Step) x0)) rfl rfl rfl (o_mv tk rfl (Wk.refl _)) ?_
        refine wpo_mv (a := (eI c1)) rfl rfl rfl (o_mv tk rfl (Wk.refl _)) ?_
        refine wpo_bd hs18 (fun y => .fptr (e_api_Step y).cells 0) rfl rfl rfl (fun v21 hv => o_ixa tk hv td23 enc32 rfl rfl) fun v21 hv21 H20 => ?_
        refine wpo_mv (a := (.fptr (c_api_Step v21) 2)) rfl rfl rfl (o_c tk false rfl (fun _ => rfl)) ?_
        refine wpo_mv (a := (eI v21.Code)) rfl rfl rfl (o_ld tk rfl rfl) ?_
        refine wpo_mv (a := (eI x1)) rfl rfl rfl (o_mv tk rfl (Wk.refl _)) ?_
        refine wpo_lt H20 eB rfl rfl rfl (o_ar tk rfl rfl rfl) fun v23 H22 => ?_
        refine wpo_mv (a := (eB v23)) rfl rfl rfl (o_mv tk rfl (Wk.refl _)) ?_
        refine if_split H22 (fun hb H24 => ?_) (fun hb H24 => ?_)
        · subst hb
          refine wpo_mv (a := (eI x1)) rfl rfl rfl (o_mv tk rfl (Wk.refl _)) ?_
          refine wpo_lt H24 eB rfl rfl rfl (o_ar tk rfl rfl rfl) fun v26 H25 => ?_
          refine wpo_mv (a := (eB v26)) rfl rfl rfl (o_pick_t tk rfl rfl (Wk.refl _)) ?_
          refine wpo_nil ?_
          have e := Option.some.inj H25
          subst e
          exact ⟨(wkf_cons (.of_eq rfl) (wkf_cons (.of_eq rfl) (wkf_cons (.of_eq rfl) (wkf_cons (.of_eq rfl) (wkf_nil _))))), hH⟩
        · subst hb
          refine wpo_skip rfl rfl rfl ?_
          refine wpo_skip rfl rfl rfl ?_
          refine wpo_mv (a := (eB false)) rfl rfl rfl (o_pick_f tk rfl rfl (Wk.refl _)) ?_
          refine wpo_nil ?_
          have e := Option.some.inj H24
          subst e
          exact ⟨(wkf_cons (.of_eq rfl) (wkf_cons (.of_eq rfl) (wkf_cons (.of_eq rfl) (wkf_cons (.of_eq rfl) (wkf_nil _))))), hH⟩
    · refine awp_exit ?_
      have hz := hy8 _ (inj_inr H15)
      exact ⟨⟨_, inj_inr H15⟩, (), hz.symm, (wkf_nil _), hH⟩
end Go.Proofs.YtekldjimdmkgaaaDoor
namespace Go.Proofs.YtekldjimdmkgaaaDoor
open Go Go.Va Go.RowKit
set_option linter.unusedVariables false
set_option linter.unusedSimpArgs false
set_option maxRecDepth 20000
theorem o_fE_eqb {fr : Nat → AV} {d : Option Tmp} {tt : TypeId} {pos : String} {af : Array Edge} {g : Option (Nat × Bool)} {ox oy : Operand} {T' : TypeId} {x y : Err} {b : Bool} (hb : (x.isNil && y.isNil) = b) (hx : aeval fr ox = fE x y) (hy : oy = .const .nilIface) : OpP Tryd.prog ⟨d, .binOp .eql 25 ox oy T', tt, pos, af, g⟩ fr (eB b) := by
  subst hb
  exact o_fE_eql hx hy
theorem wpo_rdv {P : Program} {ops : Array Oper} {σ : St} {a : AV} {K : (Nat → AV) → St → Prop} {n : Nat} {o : Oper} {rest : List Oper} {l : List (Nat × AV)} {t : Nat} (hd : o.dst = some t) (hn : Nat.ble (t + 1) n = true) (hg : guardOf ops o (fm l) = some true)
    (ho : OpS P o (fm l) σ (fun a' τ => a' = a ∧ τ = σ)) (h : wpo P n ops K rest (fm ((t, a) :: l)) σ) : wpo P n ops K (o :: rest) (fm l) σ := wpo_rd hd hn hg ho h
theorem butterylaw01_TroubleBoth_ok {x0 x1 x2 : Int} {x3 x4 : List api_Step} {r : Bool} (H : butterylaw01_TroubleBoth x0 x1 x2 x3 x4 = some r) (σ : St) (hg : σ.gl = gls) : ACall Tryd.prog 6 [eI x0, eI x1, eI x2, (eL 3 e_api_Step) x3, (eL 3 e_api_Step) x4] σ (fun a τ => a = eB r ∧ τ = σ) := by
  obtain rfl := Option.some.inj H
  obtain ⟨x, hx1, hx2, hx3, hx4, hx5⟩ := made_eq x0 x3
  obtain ⟨y, hy1, hy2, hy3, hy4, hy5⟩ := made_eq x1 x4
  refine ACall.pure (acall_start tk Tryd.func6 (by decide) rfl (Nat.le_of_ble_eq_true rfl) ?_)
  have hH := Holds.init σ
  refine awp_seq ?_
  refine awp_region rfl ?_
  refine wpo_mv (a := eB false) rfl rfl rfl (o_as tk rfl (Wk.refl _)) ?_
  refine wpo_nil ?_
  refine awp_seq ?_
  refine awp_region rfl ?_
  refine wpo_mv (a := eI x0) rfl rfl rfl (o_mv tk rfl (Wk.refl _)) ?_
  refine wpo_mv (a := (eL 3 e_api_Step) x3) rfl rfl rfl (o_mv tk rfl (Wk.refl _)) ?_
  refine wpo_mv (a := .tup [eErr x, (eL 3 e_api_Step) (lnk x)]) rfl rfl rfl (OpP.of_call rfl rfl (.cons (.of_eq rfl) (.cons (.of_eq rfl) .nil)) (butterylaw01_made_ok hx1)) ?_
  refine wpo_mv (a := .tup [eErr x, (eL 3 e_api_Step) (lnk x)]) rfl rfl rfl (o_mv tk rfl (Wk.refl _)) ?_
  refine wpo_mv (a := eErr x) rfl rfl rfl (o_ext tk rfl rfl) ?_
  refine wpo_mv (a := (eL 3 e_api_Step) (lnk x)) rfl rfl rfl (o_ext tk rfl rfl) ?_
  refine wpo_mv (a := eErr x) rfl rfl rfl (o_as tk rfl (Wk.refl _)) ?_
  refine wpo_mv (a := (eL 3 e_api_Step) (lnk x)) rfl rfl rfl (o_as tk rfl (Wk.refl _)) ?_
  refine wpo_nil ?_
  refine awp_seq ?_
  refine awp_region rfl ?_
  refine wpo_mv (a := eI x1) rfl rfl rfl (o_mv tk rfl (Wk.refl _)) ?_
  refine wpo_mv (a := (eL 3 e_api_Step) x4) rfl rfl rfl (o_mv tk rfl (Wk.refl _)) ?_
  refine wpo_mv (a := .tup [eErr y, (eL 3 e_api_Step) (lnk y)]) rfl rfl rfl (OpP.of_call rfl rfl (.cons (.of_eq rfl) (.cons (.of_eq rfl) .nil)) (butterylaw01_made_ok hy1)) ?_
  refine wpo_mv (a := .tup [eErr y, (eL 3 e_api_Step) (lnk y)]) rfl rfl rfl (o_mv tk rfl (Wk.refl _)) ?_
  refine wpo_mv (a := eErr y) rfl rfl rfl (o_ext tk rfl rfl) ?_
  refine wpo_mv (a := (eL 3 e_api_Step) (lnk y)) rfl rfl rfl (o_ext tk rfl rfl) ?_
  refine wpo_mv (a := eErr y) rfl rfl rfl (o_as tk rfl (Wk.refl _)) ?_
  refine wpo_mv (a := (eL 3 e_api_Step) (lnk y)) rfl rfl rfl (o_as tk rfl (Wk.refl _)) ?_
  refine wpo_nil ?_
  refine awp_seq ?_
  refine awp_region rfl ?_
  refine wpo_mv (a := eErr x) rfl rfl rfl (o_mv tk rfl (Wk.refl _)) ?_
  refine wpo_mv (a := eErr y) rfl rfl rfl (o_mv tk rfl (Wk.refl _)) ?_
  refine wpo_mv (a := fE x y) rfl rfl rfl (OpP.of_call rfl rfl (.cons (.of_eq rfl) (.cons (.of_eq rfl) .nil)) (Both_ok x y)) ?_
  refine wpo_mv (a := fE x y) rfl rfl rfl (o_as tk rfl (Wk.refl _)) ?_
  refine wpo_nil ?_
  refine awp_seq ?_
  refine awp_cutn (fun fr τ => WkF fr (fm [(0, eI x0), (1, eI x1), (15, fE x y)]) ∧ Holds σ [] [] τ) ?_ ?_
  · rintro fr τ ⟨hfr, hH⟩
    refine AWP.fm [(0, eI x0), (1, eI x1), (15, fE x y)] hfr ?_
    refine awp_seq ?_
    refine awp_seq ?_
    refine awp_region rfl ?_
    refine wpo_mv (a := eI x0) rfl rfl rfl (o_mv tk rfl (Wk.refl _)) ?_
    cases hc0 : (x0 != (0 : Int)) with
    | true =>
      refine wpo_mv (a := eB true) rfl rfl rfl (by rw [← hc0]; exact o_ar tk rfl rfl rfl) ?_
      refine wpo_nil ?_
      have hne : x0 ≠ 0 := by simpa using hc0
      have hv : (if x.isNil = true then codeOf y else codeOf x) = x0 := by rw [hx4, if_neg (by simpa using hne), hx3]
      refine awp_true rfl ?_
      refine awp_seq ?_
      refine awp_region rfl ?_
      refine wpo_mv (a := fE x y) rfl rfl rfl (o_mv tk rfl (Wk.refl _)) ?_
      refine wpo_rdv (a := eI x0) rfl rfl rfl (by rw [← hv]; exact OpS.of_call rfl rfl (.cons (.of_eq rfl) .nil) (OfE_ok x y _ (hH.gl.trans hg))) ?_
      refine wpo_mv (a := eI x0) rfl rfl rfl (o_mv tk rfl (Wk.refl _)) ?_
      refine wpo_mv (a := eB true) rfl rfl rfl (by rw [show (true : Bool) = (x0 == x0) from (beq_self_eq_true _).symm]; exact o_ar tk rfl rfl rfl) ?_
      refine wpo_mv (a := eB true) rfl rfl rfl (o_mv tk rfl (Wk.refl _)) ?_
      refine wpo_rdv (a := eB true) rfl rfl rfl (OpS.of_call rfl rfl .nil (butterylaw01_works_ok works01 _ (hH.gl.trans hg))) ?_
      refine wpo_mv (a := eB true) rfl rfl rfl (o_pick_t tk rfl rfl (Wk.refl _)) ?_
      refine wpo_mv (a := eB true) rfl rfl rfl (o_as tk rfl (Wk.refl _)) ?_
      refine wpo_nil ?_
      refine awp_ret ?_
      exact ⟨_, (eB true), rfl, (.of_eq rfl), .of_eq rfl, hH.noT⟩
    | false =>
      refine wpo_mv (a := eB false) rfl rfl rfl (by rw [← hc0]; exact o_ar tk rfl rfl rfl) ?_
      refine wpo_nil ?_
      have h0 : x0 = 0 := by simpa using hc0
      have hv : (if x.isNil = true then codeOf y else codeOf x) = x1 := by rw [hx4, if_pos (by simpa using h0), hy3]
      refine awp_false rfl ?_
      refine awp_skip ?_
      refine awp_seq ?_
      refine awp_region rfl ?_
      refine wpo_mv (a := fE x y) rfl rfl rfl (o_mv tk rfl (Wk.refl _)) ?_
      refine wpo_rdv (a := eI x1) rfl rfl rfl (by rw [← hv]; exact OpS.of_call rfl rfl (.cons (.of_eq rfl) .nil) (OfE_ok x y _ (hH.gl.trans hg))) ?_
      refine wpo_mv (a := eI x1) rfl rfl rfl (o_mv tk rfl (Wk.refl _)) ?_
      refine wpo_mv (a := eB true) rfl rfl rfl (by rw [show (true : Bool) = (x1 == x1) from (beq_self_eq_true _).symm]; exact o_ar tk rfl rfl rfl) ?_
      refine wpo_mv (a := eB true) rfl rfl rfl (o_mv tk rfl (Wk.refl _)) ?_
      refine wpo_rdv (a := eB true) rfl rfl rfl (OpS.of_call rfl rfl .nil (butterylaw01_works_ok works01 _ (hH.gl.trans hg))) ?_
      refine wpo_mv (a := eB true) rfl rfl rfl (o_pick_t tk rfl rfl (Wk.refl _)) ?_
      refine wpo_mv (a := eB true) rfl rfl rfl (o_as tk rfl (Wk.refl _)) ?_
      refine wpo_nil ?_
      refine awp_ret ?_
      exact ⟨_, (eB true), rfl, (.of_eq rfl), .of_eq rfl, hH.noT⟩
  · refine awp_seq ?_
    refine awp_drawS mixed [] rfl (by decide +kernel) rfl rfl ?_
    refine wpdS_mv (a := fE x y) rfl rfl rfl (o_mv tk rfl (Wk.refl _)) ?_
    refine wpdS_mv (a := eI x2) rfl rfl rfl (o_mv tk rfl (Wk.refl _)) ?_
    refine wpdS_mv (a := eB (hasE x x2 || hasE y x2)) rfl rfl rfl (OpP.of_call rfl rfl (.cons (.of_eq rfl) (.cons (.of_eq rfl) .nil)) (HasE_ok x y x2)) ?_
    refine wpdS_mv (a := (eL 3 e_api_Step) (lnk x)) rfl rfl rfl (o_mv tk rfl (Wk.refl _)) ?_
    refine wpdS_mv (a := eI x2) rfl rfl rfl (o_mv tk rfl (Wk.refl _)) ?_
    refine wpdS_mv (a := eB (hasE x x2)) rfl rfl rfl (OpP.of_call rfl rfl (.cons (.of_eq rfl) (.cons (.of_eq rfl) .nil)) (butteryref01_Has_ok (hasF_eq1 (by omega) x2))) ?_
    have hq : butteryref01_Has (lnk y) x2 = some (hasE y x2) := hasF_eq1 (by omega) x2
    generalize hpp : hasE x x2 = pp
    generalize hqq : hasE y x2 = qq at hq ⊢
    cases pp with
    | true =>
      refine wpdS_mv (a := eB true) rfl rfl rfl (o_mv tk rfl (Wk.refl _)) ?_
      refine wpdS_skip rfl rfl rfl ?_
      refine wpdS_skip rfl rfl rfl ?_
      refine wpdS_skip rfl rfl rfl ?_
      refine wpdS_mv (a := eB true) rfl rfl rfl (o_pick_t tk rfl rfl (Wk.refl _)) ?_
      refine wpdS_mv (a := eB false) rfl rfl rfl (o_c tk false rfl (fun _ => rfl)) ?_
      refine wpdS_mv (a := eB false) rfl rfl rfl (o_mv tk rfl (Wk.refl _)) ?_
      cases hxn : x.isNil with
      | false =>
        refine wpdS_mv (a := fE x y) rfl rfl rfl (o_mv tk rfl (Wk.refl _)) ?_
        refine wpdS_mv (a := eB false) rfl rfl rfl (o_fE_eqb (x := x) (y := y) (by rw [hxn]; rfl) rfl rfl) ?_
        refine wpdS_mv (a := eErr x) rfl rfl rfl (o_mv tk rfl (Wk.refl _)) ?_
        refine wpdS_mv (a := eB false) rfl rfl rfl (by rw [← hxn]; exact o_err_eql tk td25 rfl rfl) ?_
        refine wpdS_mv (a := eB false) rfl rfl rfl (o_mv tk rfl (Wk.refl _)) ?_
        refine wpdS_skip rfl rfl rfl ?_
        refine wpdS_skip rfl rfl rfl ?_
        refine wpdS_mv (a := eB false) rfl rfl rfl (o_pick_f tk rfl rfl (Wk.refl _)) ?_
        refine wpdS_mv (a := eB false) rfl rfl rfl (o_c tk false rfl (fun _ => rfl)) ?_
        refine wpdS_mv (a := eB false) rfl rfl rfl (o_pick_f tk rfl rfl (Wk.refl _)) ?_
        refine wpdS_nil ?_
        refine awp_false rfl ?_
        refine awp_skip ?_
        exact ⟨(wkf_cons (.of_eq rfl) (wkf_cons (.of_eq rfl) (wkf_cons (.of_eq rfl) (wkf_nil _)))), hH⟩
      | true =>
        cases hyn : y.isNil with
        | false =>
          refine wpdS_mv (a := fE x y) rfl rfl rfl (o_mv tk rfl (Wk.refl _)) ?_
          refine wpdS_mv (a := eB false) rfl rfl rfl (o_fE_eqb (x := x) (y := y) (by rw [hxn, hyn]; rfl) rfl rfl) ?_
          refine wpdS_mv (a := eErr x) rfl rfl rfl (o_mv tk rfl (Wk.refl _)) ?_
          refine wpdS_mv (a := eB true) rfl rfl rfl (by rw [← hxn]; exact o_err_eql tk td25 rfl rfl) ?_
          refine wpdS_mv (a := eB true) rfl rfl rfl (o_mv tk rfl (Wk.refl _)) ?_
          refine wpdS_mv (a := eErr y) rfl rfl rfl (o_mv tk rfl (Wk.refl _)) ?_
          refine wpdS_mv (a := eB false) rfl rfl rfl (by rw [← hyn]; exact o_err_eql tk td25 rfl rfl) ?_
          refine wpdS_mv (a := eB false) rfl rfl rfl (o_pick_t tk rfl rfl (Wk.refl _)) ?_
          refine wpdS_mv (a := eB false) rfl rfl rfl (o_c tk false rfl (fun _ => rfl)) ?_
          refine wpdS_mv (a := eB false) rfl rfl rfl (o_pick_f tk rfl rfl (Wk.refl _)) ?_
          refine wpdS_nil ?_
          refine awp_false rfl ?_
          refine awp_skip ?_
          exact ⟨(wkf_cons (.of_eq rfl) (wkf_cons (.of_eq rfl) (wkf_cons (.of_eq rfl) (wkf_nil _)))), hH⟩
        | true =>
          refine wpdS_mv (a := fE x y) rfl rfl rfl (o_mv tk rfl (Wk.refl _)) ?_
          refine wpdS_mv (a := eB true) rfl rfl rfl (o_fE_eqb (x := x) (y := y) (by rw [hxn, hyn]; rfl) rfl rfl) ?_
          refine wpdS_mv (a := eErr x) rfl rfl rfl (o_mv tk rfl (Wk.refl _)) ?_
          refine wpdS_mv (a := eB true) rfl rfl rfl (by rw [← hxn]; exact o_err_eql tk td25 rfl rfl) ?_
          refine wpdS_mv (a := eB true) rfl rfl rfl (o_mv tk rfl (Wk.refl _)) ?_
          refine wpdS_mv (a := eErr y) rfl rfl rfl (o_mv tk rfl (Wk.refl _)) ?_
          refine wpdS_mv (a := eB true) rfl rfl rfl (by rw [← hyn]; exact o_err_eql tk td25 rfl rfl) ?_
          refine wpdS_mv (a := eB true) rfl rfl rfl (o_pick_t tk rfl rfl (Wk.refl _)) ?_
          refine wpdS_mv (a := eB false) rfl rfl rfl (o_c tk false rfl (fun _ => rfl)) ?_
          refine wpdS_mv (a := eB false) rfl rfl rfl (o_pick_f tk rfl rfl (Wk.refl _)) ?_
          refine wpdS_nil ?_
          refine awp_false rfl ?_
          refine awp_skip ?_
          exact ⟨(wkf_cons (.of_eq rfl) (wkf_cons (.of_eq rfl) (wkf_cons (.of_eq rfl) (wkf_nil _)))), hH⟩
    | false =>
      refine wpdS_mv (a := eB false) rfl rfl rfl (o_mv tk rfl (Wk.refl _)) ?_
      refine wpdS_mv (a := (eL 3 e_api_Step) (lnk y)) rfl rfl rfl (o_mv tk rfl (Wk.refl _)) ?_
      refine wpdS_mv (a := eI x2) rfl rfl rfl (o_mv tk rfl (Wk.refl _)) ?_
      refine wpdS_mv (a := eB qq) rfl rfl rfl (OpP.of_call rfl rfl (.cons (.of_eq rfl) (.cons (.of_eq rfl) .nil)) (butteryref01_Has_ok hq)) ?_
      refine wpdS_mv (a := eB qq) rfl rfl rfl (o_pick_f tk rfl rfl (Wk.refl _)) ?_
      refine wpdS_mv (a := eB false) rfl rfl rfl (by cases qq <;> exact o_c tk false rfl (fun _ => rfl)) ?_
      refine wpdS_mv (a := eB false) rfl rfl rfl (o_mv tk rfl (Wk.refl _)) ?_
      cases hxn : x.isNil with
      | false =>
        refine wpdS_mv (a := fE x y) rfl rfl rfl (o_mv tk rfl (Wk.refl _)) ?_
        refine wpdS_mv (a := eB false) rfl rfl rfl (o_fE_eqb (x := x) (y := y) (by rw [hxn]; rfl) rfl rfl) ?_
        refine wpdS_mv (a := eErr x) rfl rfl rfl (o_mv tk rfl (Wk.refl _)) ?_
        refine wpdS_mv (a := eB false) rfl rfl rfl (by rw [← hxn]; exact o_err_eql tk td25 rfl rfl) ?_
        refine wpdS_mv (a := eB false) rfl rfl rfl (o_mv tk rfl (Wk.refl _)) ?_
        refine wpdS_skip rfl rfl rfl ?_
        refine wpdS_skip rfl rfl rfl ?_
        refine wpdS_mv (a := eB false) rfl rfl rfl (o_pick_f tk rfl rfl (Wk.refl _)) ?_
        refine wpdS_mv (a := eB false) rfl rfl rfl (o_c tk false rfl (fun _ => rfl)) ?_
        refine wpdS_mv (a := eB false) rfl rfl rfl (o_pick_f tk rfl rfl (Wk.refl _)) ?_
        refine wpdS_nil ?_
        refine awp_false rfl ?_
        refine awp_skip ?_
        exact ⟨(wkf_cons (.of_eq rfl) (wkf_cons (.of_eq rfl) (wkf_cons (.of_eq rfl) (wkf_nil _)))), hH⟩
      | true =>
        cases hyn : y.isNil with
        | false =>
          refine wpdS_mv (a := fE x y) rfl rfl rfl (o_mv tk rfl (Wk.refl _)) ?_
          refine wpdS_mv (a := eB false) rfl rfl rfl (o_fE_eqb (x := x) (y := y) (by rw [hxn, hyn]; rfl) rfl rfl) ?_
          refine wpdS_mv (a := eErr x) rfl rfl rfl (o_mv tk rfl (Wk.refl _)) ?_
          refine wpdS_mv (a := eB true) rfl rfl rfl (by rw [← hxn]; exact o_err_eql tk td25 rfl rfl) ?_
          refine wpdS_mv (a := eB true) rfl rfl rfl (o_mv tk rfl (Wk.refl _)) ?_
          refine wpdS_mv (a := eErr y) rfl rfl rfl (o_mv tk rfl (Wk.refl _)) ?_
          refine wpdS_mv (a := eB false) rfl rfl rfl (by rw [← hyn]; exact o_err_eql tk td25 rfl rfl) ?_
          refine wpdS_mv (a := eB false) rfl rfl rfl (o_pick_t tk rfl rfl (Wk.refl _)) ?_
          refine wpdS_mv (a := eB false) rfl rfl rfl (o_c tk false rfl (fun _ => rfl)) ?_
          refine wpdS_mv (a := eB false) rfl rfl rfl (o_pick_f tk rfl rfl (Wk.refl _)) ?_
          refine wpdS_nil ?_
          refine awp_false rfl ?_
          refine awp_skip ?_
          exact ⟨(wkf_cons (.of_eq rfl) (wkf_cons (.of_eq rfl) (wkf_cons (.of_eq rfl) (wkf_nil _)))), hH⟩
        | true =>
          refine wpdS_mv (a := fE x y) rfl rfl rfl (o_mv tk rfl (Wk.refl _)) ?_
          refine wpdS_mv (a := eB true) rfl rfl rfl (o_fE_eqb (x := x) (y := y) (by rw [hxn, hyn]; rfl) rfl rfl) ?_
          refine wpdS_mv (a := eErr x) rfl rfl rfl (o_mv tk rfl (Wk.refl _)) ?_
          refine wpdS_mv (a := eB true) rfl rfl rfl (by rw [← hxn]; exact o_err_eql tk td25 rfl rfl) ?_
          refine wpdS_mv (a := eB true) rfl rfl rfl (o_mv tk rfl (Wk.refl _)) ?_
          refine wpdS_mv (a := eErr y) rfl rfl rfl (o_mv tk rfl (Wk.refl _)) ?_
          refine wpdS_mv (a := eB true) rfl rfl rfl (by rw [← hyn]; exact o_err_eql tk td25 rfl rfl) ?_
          refine wpdS_mv (a := eB true) rfl rfl rfl (o_pick_t tk rfl rfl (Wk.refl _)) ?_
          refine wpdS_mv (a := eB false) rfl rfl rfl (o_c tk false rfl (fun _ => rfl)) ?_
          refine wpdS_mv (a := eB false) rfl rfl rfl (o_pick_f tk rfl rfl (Wk.refl _)) ?_
          refine wpdS_nil ?_
          refine awp_false rfl ?_
          refine awp_skip ?_
          exact ⟨(wkf_cons (.of_eq rfl) (wkf_cons (.of_eq rfl) (wkf_cons (.of_eq rfl) (wkf_nil _)))), hH⟩
end Go.Proofs.YtekldjimdmkgaaaDoor
namespace Go.Proofs.YtekldjimdmkgaaaDoor
open Go Go.Va
set_option linter.unusedVariables false
theorem TroubleBoth_pure (a b k : Int) (l m : List api_Step) (_ : wfI .i64 a) (_ : wfI .i64 b) (_ : wfI .i64 k) (_ : wfL wf_api_Step l) (_ : wfL wf_api_Step m) : butterylaw01_TroubleBoth a b k l m = some true := rfl
end Go.Proofs.YtekldjimdmkgaaaDoor
namespace Go.Proofs.YtekldjimdmkgaaaDoor
open Go.ChangeShapes Go.WideShapes Go.RowKit
theorem own : ownKnob Tryd.prog.godebug = none := by kernel_rfl
theorem laidEt : Tryd.prog.globalNamed "errors.errorType" = some 0 := by kernel_rfl
theorem laidRt : (Tryd.prog.cutTypes.find? (·.1 == "internal/reflectlite.rtype")).map (·.2) = some 79 := by kernel_rfl
theorem laidRow : ((List.range 124).filter fun t => Tryd.prog.rowNamed t [101, 114, 114, 111, 114]) = [25] := by kernel_rfl
theorem laidSize : Tryd.prog.types.size = 124 := by kernel_rfl
def laidL {H : Type} : List (String × DataW H) := [("errors.errorType", Rows.laid_errors_errorType)]
theorem handle_of_laid {W : World} (h : laidMetH Tryd.prog laidL W) : W.cell? ⟨0, 0, none⟩ = some (.iface 79 (.agg #[.pointer (some ⟨1, 25, none⟩)])) := by
  have h' : laidMet Tryd.prog [] W ∧ handlesMet Tryd.prog laidL W := h
  obtain ⟨name, u, ty, e1, e2, e3, e4, e5⟩ := h'.2 _ (List.mem_singleton.2 rfl)
  have en : name = [101, 114, 114, 111, 114] := (Option.some.inj e1).symm
  subst en
  obtain rfl := Option.some.inj (laidRt.symm.trans e2)
  have hm : ty ∈ (List.range 124).filter fun t => Tryd.prog.rowNamed t [101, 114, 114, 111, 114] := List.mem_filter.2 ⟨List.mem_range.2 (by rw [← laidSize]; exact e3), e4⟩
  rw [laidRow] at hm
  obtain rfl := List.mem_singleton.1 hm
  have hh : typeHandle Tryd.prog 25 = .pointer (some ⟨1, 25, none⟩) := by kernel_rfl
  rw [hh] at e5
  simpa using World.var?_cell laidEt e5 0
/-- A world that meets the condition. -/
noncomputable def laidWorld (os : Os) : World :=
  let w0 := World.holding Tryd.prog os ⟨#[], #[], []⟩
  { w0 with heap := w0.heap.modify 0 fun
      | .cells _ t frozen => .cells #[.iface 79 (.agg #[.pointer (some ⟨1, 25, none⟩)])] t frozen
      | o => o }
theorem laidWorld_met (os : Os) (args : Array Value) : laidMetH Tryd.prog laidL ((laidWorld os).forCall (fun _ _ => 0) ⟨#[], args, []⟩).memory :=
  laidMetH_of_parts (laidMet_nil _ _) (by kernel_rfl)
theorem gls_met {W : World} (h : laidMetH Tryd.prog laidL W) : ∀ p ∈ gls, W.cell? p.1 = some p.2 := by
  intro p hp
  obtain rfl := List.mem_singleton.1 hp
  exact handle_of_laid h
theorem laidOut : laidOutB Tryd.prog = true := by kernel_rfl
end Go.Proofs.YtekldjimdmkgaaaDoor
