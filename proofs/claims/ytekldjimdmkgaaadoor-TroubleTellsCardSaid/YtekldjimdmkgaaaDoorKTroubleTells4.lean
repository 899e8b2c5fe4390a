/- A FAULT TELLS ITS LINKS: of any fault, wrapped however often, its links, its code, where it is, and its text are what the chapter says; of nothing there is none. (part 4 of 5) -/
import Derived.Test.YtekldjimdmkgaaaDoorKTroubleTells3
import Derived.ChangeSame
import Derived.ChangeVars
import Derived.JoinedOf
import Derived.LaidHandle
import Derived.LaidLaws
import Derived.RowKit
import Derived.RowKitTokens
import Derived.SizedLaws
import Derived.Stop.Joined
import Derived.Test.YtekldjimdmkgaaaDoorRows
namespace Go.Proofs.YtekldjimdmkgaaaDoor
open Go Go.Va
set_option linter.unusedVariables false
set_option linter.unusedSimpArgs false
set_option maxRecDepth 20000
theorem butterylaw01_TroubleTells_ok {x0 : List (BitVec 8)} {x1 : Int} {x2 : Int} {x3 : List api_Step} {r : Bool} (H : butterylaw01_TroubleTells x0 x1 x2 x3 = some r) (σ : St)  (hg : σ.gl = gls) : ACall Tryd.prog 3 [(eS x0), (eI x1), (eI x2), ((eL 3 e_api_Step) x3)] σ (fun a τ => a = eB r ∧ τ = σ) := by
  unfold butterylaw01_TroubleTells at H
  refine ACall.pure (acall_start tk Tryd.func3 (by decide) rfl (Nat.le_of_ble_eq_true rfl) ?_)
  have hH := Holds.init σ
  refine awp_seq ?_
  refine awp_region rfl ?_
  refine wpo_mv (a := (eB false)) rfl rfl rfl (o_as tk rfl (Wk.refl _)) ?_
  refine wpo_nil ?_
  refine awp_seq ?_
  refine awp_region rfl ?_
  refine wpo_mv (a := (eS x0)) rfl rfl rfl (o_mv tk rfl (Wk.refl _)) ?_
  refine wpo_mv (a := (eI x1)) rfl rfl rfl (o_mv tk rfl (Wk.refl _)) ?_
  refine wpo_mv (a := (eI x2)) rfl rfl rfl (o_mv tk rfl (Wk.refl _)) ?_
  refine wpo_bd H eErr rfl rfl rfl (fun v2 hv => OpP.of_call rfl rfl (.cons (.of_eq rfl) (.cons (.of_eq rfl) (.cons (.of_eq rfl) .nil))) (trouble_New_ok hv)) fun v2 hv2 H1 => ?_
  refine wpo_mv (a := (eErr v2)) rfl rfl rfl (o_as tk rfl (Wk.refl _)) ?_
  refine wpo_nil ?_
  refine awp_seq ?_
  refine awp_region rfl ?_
  refine wpo_mv (a := (eS x0)) rfl rfl rfl (o_mv tk rfl (Wk.refl _)) ?_
  refine wpo_mv (a := (eI x1)) rfl rfl rfl (o_mv tk rfl (Wk.refl _)) ?_
  refine wpo_mv (a := (eI x2)) rfl rfl rfl (o_mv tk rfl (Wk.refl _)) ?_
  refine wpo_bd H1 (eL 3 e_api_Step) rfl rfl rfl (fun v4 hv => OpP.of_call rfl rfl (.cons (.of_eq rfl) (.cons (.of_eq rfl) (.cons (.of_eq rfl) .nil))) (butteryref01_Fault_ok hv)) fun v4 hv4 H3 => ?_
  refine wpo_mv (a := ((eL 3 e_api_Step) v4)) rfl rfl rfl (o_as tk rfl (Wk.refl _)) ?_
  refine wpo_nil ?_
  refine awp_seq ?_
  refine awp_seq ?_
  obtain ⟨s5, hs7, hj8⟩ := Option.bind_eq_some_iff.1 H3
  refine awp_cutn (fun fr τ => WkF fr (fm [(3, ((eL 3 e_api_Step) x3)), (9, (eErr v2)), (10, ((eL 3 e_api_Step) v4)), (34, (eB s5))]) ∧ Holds σ [] [] τ) ?_ ?_
  · rintro fr τ ⟨hfr, hH⟩
    have H24 := hj8
    refine AWP.fm [(3, ((eL 3 e_api_Step) x3)), (9, (eErr v2)), (10, ((eL 3 e_api_Step) v4)), (34, (eB s5))] hfr ?_
    refine awp_if H24 rfl (fun H25 => ?_) (fun H25 => ?_)
    · refine awp_seq ?_
      refine awp_region rfl ?_
      refine wpo_mv (a := (eB false)) rfl rfl rfl (o_as tk rfl (Wk.refl _)) ?_
      refine wpo_nil ?_
      refine awp_ret ?_
      obtain rfl := Option.some.inj H25
      exact ⟨_, (eB false), rfl, (.of_eq rfl), .of_eq ((enc_b td4 sz4).cut _ _ _), hH.noT⟩
    · refine awp_skip ?_
      refine awp_seq ?_
      refine awp_seq ?_
      refine awp_region rfl ?_
      refine wpo_mv (a := (eI (0 : Int))) rfl rfl rfl (o_as tk rfl (Wk.refl _)) ?_
      refine wpo_nil ?_
      refine awp_block ?_
      obtain ⟨o29, hs30, hj31⟩ := Option.bind_eq_some_iff.1 H25
      refine awp_cutx 0 (fun fr τ => ∃ s36 : Err × (List api_Step), o29 = .inl s36 ∧ WkF fr (fm [(9, (eErr s36.1)), (10, ((eL 3 e_api_Step) s36.2))]) ∧ Holds σ [] [] τ) ?_ ?_
      · rintro fr τ ⟨s36, rfl, hfr, hH⟩
        have H90 := hj31
        simp only [Sum.elim_inl] at H90
        refine AWP.fm [(9, (eErr s36.1)), (10, ((eL 3 e_api_Step) s36.2))] hfr ?_
        refine awp_seq ?_
        refine awp_region rfl ?_
        refine wpo_mv (a := (eErr s36.1)) rfl rfl rfl (o_mv tk rfl (Wk.refl _)) ?_
        refine wpo_lt H90 eB rfl rfl rfl (o_err_eql tk rfl rfl rfl) fun v92 H91 => ?_
        refine wpo_mv (a := ((eL 3 e_api_Step) s36.2)) rfl rfl rfl (o_mv tk rfl (Wk.refl _)) ?_
        refine wpo_lt H91 eI rfl rfl rfl (o_len tk td23 rfl) fun v94 H93 => ?_
        refine wpo_lt H93 eB rfl rfl rfl (o_ar tk rfl rfl rfl) fun v96 H95 => ?_
        refine wpo_lt H95 eB rfl rfl rfl (o_bool_eql tk td4 rfl rfl) fun v98 H97 => ?_
        refine wpo_mv (a := (eB v98)) rfl rfl rfl (o_mv tk rfl (Wk.refl _)) ?_
        refine if_split H97 (fun hb H99 => ?_) (fun hb H99 => ?_)
        · subst hb
          refine wpo_mv (a := (eErr s36.1)) rfl rfl rfl (o_mv tk rfl (Wk.refl _)) ?_
          refine wpo_bdr H99 (eL 3 e_api_Step) rfl rfl rfl (fun v101 hv => h_callr rfl rfl (.cons (.of_eq rfl) .nil) (trouble_Chain_ok hv _ (hH.gl.trans hg))) fun v101 hv101 H100 => ?_
          refine wpo_mv (a := ((eL 3 e_api_Step) s36.2)) rfl rfl rfl (o_mv tk rfl (Wk.refl _)) ?_
          refine wpo_bd H100 eB rfl rfl rfl (fun v103 hv => OpP.of_call rfl rfl (.cons (.of_eq rfl) (.cons (.of_eq rfl) .nil)) (butteryref01_Same_ok hv)) fun v103 hv103 H102 => ?_
          refine wpo_mv (a := (eB v103)) rfl rfl rfl (o_pick_t tk rfl rfl (Wk.refl _)) ?_
          refine wpo_mv (a := (eB v103)) rfl rfl rfl (o_mv tk rfl (Wk.refl _)) ?_
          refine if_split H102 (fun hb H104 => ?_) (fun hb H104 => ?_)
          · subst hb
            refine wpo_mv (a := (eErr s36.1)) rfl rfl rfl (o_mv tk rfl (Wk.refl _)) ?_
            refine wpo_bdr H104 eI rfl rfl rfl (fun v106 hv => h_callr rfl rfl (.cons (.of_eq rfl) .nil) (trouble_Of_ok hv _ (hH.gl.trans hg))) fun v106 hv106 H105 => ?_
            refine wpo_mv (a := ((eL 3 e_api_Step) s36.2)) rfl rfl rfl (o_mv tk rfl (Wk.refl _)) ?_
            refine wpo_bd H105 eI rfl rfl rfl (fun v108 hv => OpP.of_call rfl rfl (.cons (.of_eq rfl) .nil) (butteryref01_Of_ok hv)) fun v108 hv108 H107 => ?_
            refine wpo_lt H107 eB rfl rfl rfl (o_ar tk rfl rfl rfl) fun v110 H109 => ?_
            refine wpo_mv (a := (eB v110)) rfl rfl rfl (o_pick_t tk rfl rfl (Wk.refl _)) ?_
            refine wpo_mv (a := (eB v110)) rfl rfl rfl (o_mv tk rfl (Wk.refl _)) ?_
            refine if_split H109 (fun hb H111 => ?_) (fun hb H111 => ?_)
            · subst hb
              refine wpo_mv (a := (eErr s36.1)) rfl rfl rfl (o_mv tk rfl (Wk.refl _)) ?_
              refine wpo_bdr H111 eS rfl rfl rfl (fun v113 hv => h_callr rfl rfl (.cons (.of_eq rfl) .nil) (trouble_Text_ok hv _ (hH.gl.trans hg))) fun v113 hv113 H112 => ?_
              refine wpo_mv (a := ((eL 3 e_api_Step) s36.2)) rfl rfl rfl (o_mv tk rfl (Wk.refl _)) ?_
              refine wpo_bd H112 eS rfl rfl rfl (fun v115 hv => OpP.of_call rfl rfl (.cons (.of_eq rfl) .nil) (butteryref01_Text_ok hv)) fun v115 hv115 H114 => ?_
              refine wpo_lt H114 eB rfl rfl rfl (o_eql_s tk rfl rfl) fun v117 H116 => ?_
              refine wpo_mv (a := (eB v117)) rfl rfl rfl (o_pick_t tk rfl rfl (Wk.refl _)) ?_
              refine wpo_mv (a := (eB v117)) rfl rfl rfl (o_mv tk rfl (Wk.refl _)) ?_
              refine if_split H116 (fun hb H118 => ?_) (fun hb H118 => ?_)
              · subst hb
                refine wpo_bdr H118 eB rfl rfl rfl (fun v120 hv => h_callr rfl rfl .nil (butterylaw01_works_ok hv _ (hH.gl.trans hg))) fun v120 hv120 H119 => ?_
                refine wpo_mv (a := (eB v120)) rfl rfl rfl (o_pick_t tk rfl rfl (Wk.refl _)) ?_
                refine wpo_mv (a := (eB v120)) rfl rfl rfl (o_as tk rfl (Wk.refl _)) ?_
                refine wpo_nil ?_
                refine awp_ret ?_
                obtain rfl := Option.some.inj H119
                exact ⟨_, (eB v120), rfl, (.of_eq rfl), .of_eq ((enc_b td4 sz4).cut _ _ _), hH.noT⟩
              · subst hb
                refine wpo_skip rfl rfl rfl ?_
                refine wpo_mv (a := (eB false)) rfl rfl rfl (o_pick_f tk rfl rfl (Wk.refl _)) ?_
                refine wpo_mv (a := (eB false)) rfl rfl rfl (o_as tk rfl (Wk.refl _)) ?_
                refine wpo_nil ?_
                refine awp_ret ?_
                obtain rfl := Option.some.inj H118
                exact ⟨_, (eB false), rfl, (.of_eq rfl), .of_eq ((enc_b td4 sz4).cut _ _ _), hH.noT⟩
            · subst hb
              refine wpo_skip rfl rfl rfl ?_
              refine wpo_skip rfl rfl rfl ?_
              refine wpo_skip rfl rfl rfl ?_
              refine wpo_skip rfl rfl rfl ?_
              refine wpo_skip rfl rfl rfl ?_
              refine wpo_mv (a := (eB false)) rfl rfl rfl (o_pick_f tk rfl rfl (Wk.refl _)) ?_
              refine wpo_mv (a := (eB false)) rfl rfl rfl (o_mv tk rfl (Wk.refl _)) ?_
              refine wpo_skip rfl rfl rfl ?_
              refine wpo_mv (a := (eB false)) rfl rfl rfl (o_pick_f tk rfl rfl (Wk.refl _)) ?_
              refine wpo_mv (a := (eB false)) rfl rfl rfl (o_as tk rfl (Wk.refl _)) ?_
              refine wpo_nil ?_
              refine awp_ret ?_
              obtain rfl := Option.some.inj H111
              exact ⟨_, (eB false), rfl, (.of_eq rfl), .of_eq ((enc_b td4 sz4).cut _ _ _), hH.noT⟩
          · subst hb
            refine wpo_skip rfl rfl rfl ?_
            refine wpo_skip rfl rfl rfl ?_
            refine wpo_skip rfl rfl rfl ?_
            refine wpo_skip rfl rfl rfl ?_
            refine wpo_skip rfl rfl rfl ?_
            refine wpo_mv (a := (eB false)) rfl rfl rfl (o_pick_f tk rfl rfl (Wk.refl _)) ?_
            refine wpo_mv (a := (eB false)) rfl rfl rfl (o_mv tk rfl (Wk.refl _)) ?_
            refine wpo_skip rfl rfl rfl ?_
            refine wpo_skip rfl rfl rfl ?_
            refine wpo_skip rfl rfl rfl ?_
            refine wpo_skip rfl rfl rfl ?_
            refine wpo_skip rfl rfl rfl ?_
            refine wpo_mv (a := (eB false)) rfl rfl rfl (o_pick_f tk rfl rfl (Wk.refl _)) ?_
            refine wpo_mv (a := (eB false)) rfl rfl rfl (o_mv tk rfl (Wk.refl _)) ?_
            refine wpo_skip rfl rfl rfl ?_
            refine wpo_mv (a := (eB false)) rfl rfl rfl (o_pick_f tk rfl rfl (Wk.refl _)) ?_
            refine wpo_mv (a := (eB false)) rfl rfl rfl (o_as tk rfl (Wk.refl _)) ?_
            refine wpo_nil ?_
            refine awp_ret ?_
            obtain rfl := Option.some.inj H104
            exact ⟨_, (eB false), rfl, (.of_eq rfl), .of_eq ((enc_b td4 sz4).cut _ _ _), hH.noT⟩
        · subst hb
          refine wpo_skip rfl rfl rfl ?_
          refine wpo_skip rfl rfl rfl ?_
          refine wpo_skip rfl rfl rfl ?_
          refine wpo_skip rfl rfl rfl ?_
          refine wpo_mv (a := (eB false)) rfl rfl rfl (o_pick_f tk rfl rfl (Wk.refl _)) ?_
          refine wpo_mv (a := (eB false)) rfl rfl rfl (o_mv tk rfl (Wk.refl _)) ?_
          refine wpo_skip rfl rfl rfl ?_
          refine wpo_skip rfl rfl rfl ?_
          refine wpo_skip rfl rfl rfl ?_
          refine wpo_skip rfl rfl rfl ?_
          refine wpo_skip rfl rfl rfl ?_
          refine wpo_mv (a := (eB false)) rfl rfl rfl (o_pick_f tk rfl rfl (Wk.refl _)) ?_
          refine wpo_mv (a := (eB false)) rfl rfl rfl (o_mv tk rfl (Wk.refl _)) ?_
          refine wpo_skip rfl rfl rfl ?_
          refine wpo_skip rfl rfl rfl ?_
          refine wpo_skip rfl rfl rfl ?_
          refine wpo_skip rfl rfl rfl ?_
          refine wpo_skip rfl rfl rfl ?_
          refine wpo_mv (a := (eB false)) rfl rfl rfl (o_pick_f tk rfl rfl (Wk.refl _)) ?_
          refine wpo_mv (a := (eB false)) rfl rfl rfl (o_mv tk rfl (Wk.refl _)) ?_
          refine wpo_skip rfl rfl rfl ?_
          refine wpo_mv (a := (eB false)) rfl rfl rfl (o_pick_f tk rfl rfl (Wk.refl _)) ?_
          refine wpo_mv (a := (eB false)) rfl rfl rfl (o_as tk rfl (Wk.refl _)) ?_
          refine wpo_nil ?_
          refine awp_ret ?_
          obtain rfl := Option.some.inj H99
          exact ⟨_, (eB false), rfl, (.of_eq rfl), .of_eq ((enc_b td4 sz4).cut _ _ _), hH.noT⟩
      · refine awp_loopO (body := fun s => butterylaw01_TroubleTells_b0 x3 s.1 s.2.1 s.2.2) hs30 (fun (s : Err × (List api_Step) × Int) fr τ => WkF fr (fm [(3, ((eL 3 e_api_Step) x3)), (9, (eErr s.1)), (10, ((eL 3 e_api_Step) s.2.1)), (11, (eI s.2.2))]) ∧ Holds σ [] [] τ) ⟨(wkf_cons (.of_eq rfl) (wkf_cons (.of_eq rfl) (wkf_cons (.of_eq rfl) (wkf_cons (.of_eq rfl) (wkf_nil _))))), hH⟩ ?_
        rintro ⟨c26, c27, c28⟩ fr τ y32 ⟨hfr, hH⟩ hb34 hy35
        have H37 : butterylaw01_TroubleTells_b0 x3 c26 c27 c28 = some y32 := hb34
        unfold butterylaw01_TroubleTells_b0 at H37
        refine AWP.fm [(3, ((eL 3 e_api_Step) x3)), (9, (eErr c26)), (10, ((eL 3 e_api_Step) c27)), (11, (eI c28))] hfr ?_
        have hH : Holds σ [] [] τ := hH
        refine awp_seq ?_
        refine awp_seq ?_
        obtain ⟨s38, hs40, hj41⟩ := Option.bind_eq_some_iff.1 H37
        refine awp_cutn (fun fr τ => WkF fr (fm [(3, ((eL 3 e_api_Step) x3)), (9, (eErr c26)), (10, ((eL 3 e_api_Step) c27)), (11, (eI c28)), (42, (eB s38))]) ∧ Holds σ [] [] τ) ?_ ?_
        · rintro fr τ ⟨hfr, hH⟩
          have H49 := hj41
          refine AWP.fm [(3, ((eL 3 e_api_Step) x3)), (9, (eErr c26)), (10, ((eL 3 e_api_Step) c27)), (11, (eI c28)), (42, (eB s38))] hfr ?_
          refine awp_if H49 rfl (fun H50 => ?_) (fun H50 => ?_)
          · refine awp_skip ?_
            refine awp_seq ?_
            refine awp_block ?_
            refine awp_seq ?_
            refine awp_drawS mixed [] rfl (by decide +kernel) rfl rfl ?_
            refine wpdS_mv (a := ((eL 3 e_api_Step) x3)) rfl rfl rfl (o_mv tk rfl (Wk.refl _)) ?_
            refine wpdS_mv (a := (eI c28)) rfl rfl rfl (o_mv tk rfl (Wk.refl _)) ?_
            refine wpdS_bd H50 (fun y => .fptr (e_api_Step y).cells 0) rfl rfl rfl (fun v52 hv => o_ixa tk hv td23 enc32 rfl rfl) fun v52 hv52 H51 => ?_
            refine wpdS_mv (a := (.fptr (c_api_Step v52) 0)) rfl rfl rfl (o_c tk false rfl (fun _ => rfl)) ?_
            refine wpdS_mv (a := (eS v52.Op)) rfl rfl rfl (o_ld tk rfl rfl) ?_
            refine wpdS_mv (a := ((eL 3 e_api_Step) x3)) rfl rfl rfl (o_mv tk rfl (Wk.refl _)) ?_
            refine wpdS_mv (a := (eI c28)) rfl rfl rfl (o_mv tk rfl (Wk.refl _)) ?_
            refine wpdS_bd H51 (fun y => .fptr (e_api_Step y).cells 0) rfl rfl rfl (fun v54 hv => o_ixa tk hv td23 enc32 rfl rfl) fun v54 hv54 H53 => ?_
            refine wpdS_mv (a := (.fptr (c_api_Step v54) 1)) rfl rfl rfl (o_c tk false rfl (fun _ => rfl)) ?_
            refine wpdS_mv (a := (eI v54.At)) rfl rfl rfl (o_ld tk rfl rfl) ?_
            refine wpdS_mv (a := (eErr c26)) rfl rfl rfl (o_mv tk rfl (Wk.refl _)) ?_
            refine wpdS_bd H53 eErr rfl rfl rfl (fun v56 hv => OpP.of_call rfl rfl (.cons (.of_eq rfl) (.cons (.of_eq rfl) (.cons (.of_eq rfl) .nil))) (trouble_Wrap_ok hv)) fun v56 hv56 H55 => ?_
            refine wpdS_mv (a := (eErr v56)) rfl rfl rfl (o_as tk rfl (Wk.refl _)) ?_
            refine wpdS_nil ?_
            refine awp_seq ?_
            refine awp_drawS mixed [] rfl (by decide +kernel) rfl rfl ?_
            refine wpdS_mv (a := ((eL 3 e_api_Step) c27)) rfl rfl rfl (o_mv tk rfl (Wk.refl _)) ?_
            refine wpdS_mv (a := ((eL 3 e_api_Step) x3)) rfl rfl rfl (o_mv tk rfl (Wk.refl _)) ?_
            refine wpdS_mv (a := (eI c28)) rfl rfl rfl (o_mv tk rfl (Wk.refl _)) ?_
            refine wpdS_bd H55 (fun y => .fptr (e_api_Step y).cells 0) rfl rfl rfl (fun v58 hv => o_ixa tk hv td23 enc32 rfl rfl) fun v58 hv58 H57 => ?_
            refine wpdS_mv (a := (.fptr (c_api_Step v58) 0)) rfl rfl rfl (o_c tk false rfl (fun _ => rfl)) ?_
            refine wpdS_mv (a := (eS v58.Op)) rfl rfl rfl (o_ld tk rfl rfl) ?_
            refine wpdS_mv (a := ((eL 3 e_api_Step) x3)) rfl rfl rfl (o_mv tk rfl (Wk.refl _)) ?_
            refine wpdS_mv (a := (eI c28)) rfl rfl rfl (o_mv tk rfl (Wk.refl _)) ?_
            refine wpdS_bd H57 (fun y => .fptr (e_api_Step y).cells 0) rfl rfl rfl (fun v60 hv => o_ixa tk hv td23 enc32 rfl rfl) fun v60 hv60 H59 => ?_
            refine wpdS_mv (a := (.fptr (c_api_Step v60) 1)) rfl rfl rfl (o_c tk false rfl (fun _ => rfl)) ?_
            refine wpdS_mv (a := (eI v60.At)) rfl rfl rfl (o_ld tk rfl rfl) ?_
            refine wpdS_bd H59 (eL 3 e_api_Step) rfl rfl rfl (fun v62 hv => OpP.of_call rfl rfl (.cons (.of_eq rfl) (.cons (.of_eq rfl) (.cons (.of_eq rfl) .nil))) (butteryref01_Wrap_ok hv)) fun v62 hv62 H61 => ?_
            refine wpdS_mv (a := ((eL 3 e_api_Step) v62)) rfl rfl rfl (o_as tk rfl (Wk.refl _)) ?_
            refine wpdS_nil ?_
            refine awp_seq ?_
            refine awp_region rfl ?_
            refine wpo_mv (a := (eErr v56)) rfl rfl rfl (o_mv tk rfl (Wk.refl _)) ?_
            refine wpo_bdr H61 (fun r => .tup [eI r.1, eB r.2]) rfl rfl rfl (fun v64 hv => h_callr rfl rfl (.cons (.of_eq rfl) .nil) (trouble_Where_ok hv _ (hH.gl.trans hg))) fun v64 hv64 H63 => ?_
            refine wpo_mv (a := (.tup [(eI v64.1), (eB v64.2)])) rfl rfl rfl (o_mv tk rfl (Wk.refl _)) ?_
            refine wpo_mv (a := (eI v64.1)) rfl rfl rfl (o_ext tk rfl rfl) ?_
            refine wpo_mv (a := (eB v64.2)) rfl rfl rfl (o_ext tk rfl rfl) ?_
            refine wpo_mv (a := (eI v64.1)) rfl rfl rfl (o_as tk rfl (Wk.refl _)) ?_
            refine wpo_mv (a := (eB v64.2)) rfl rfl rfl (o_as tk rfl (Wk.refl _)) ?_
            refine wpo_nil ?_
            refine awp_seq ?_
            obtain ⟨s65, hs67, hj68⟩ := Option.bind_eq_some_iff.1 H63
            refine awp_cutn (fun fr τ => WkF fr (fm [(3, ((eL 3 e_api_Step) x3)), (9, (eErr v56)), (10, ((eL 3 e_api_Step) v62)), (11, (eI c28)), (92, (eB s65))]) ∧ Holds σ [] [] τ) ?_ ?_
            · rintro fr τ ⟨hfr, hH⟩
              have H85 := hj68
              refine AWP.fm [(3, ((eL 3 e_api_Step) x3)), (9, (eErr v56)), (10, ((eL 3 e_api_Step) v62)), (11, (eI c28)), (92, (eB s65))] hfr ?_
              refine awp_if H85 rfl (fun H86 => ?_) (fun H86 => ?_)
              · refine awp_seq ?_
                refine awp_region rfl ?_
                refine wpo_mv (a := (eB false)) rfl rfl rfl (o_as tk rfl (Wk.refl _)) ?_
                refine wpo_nil ?_
                refine awp_ret ?_
                have hz := hy35 _ (inj_inr H86)
                refine ⟨⟨_, inj_inr H86⟩, ?_⟩
                rw [← hz] at hj31
                have H87 := (show some _ = some _ from hj31)
                obtain rfl := Option.some.inj H87
                exact ⟨_, (eB false), rfl, (.of_eq rfl), .of_eq ((enc_b td4 sz4).cut _ _ _), hH.noT⟩
              · refine awp_skip ?_
                refine awp_region rfl ?_
                refine wpo_mv (a := (eI c28)) rfl rfl rfl (o_mv tk rfl (Wk.refl _)) ?_
                refine wpo_lt H86 eI rfl rfl rfl (o_ar tk rfl rfl rfl) fun v89 H88 => ?_
                refine wpo_mv (a := (eI v89)) rfl rfl rfl (o_as tk rfl (Wk.refl _)) ?_
                refine wpo_nil ?_
                exact ⟨(v56, v62, v89), inj_inl H88, (wkf_cons (.of_eq rfl) (wkf_cons (.of_eq rfl) (wkf_cons (.of_eq rfl) (wkf_cons (.of_eq rfl) (wkf_nil _))))), hH⟩
            · refine awp_region rfl ?_
              refine wpo_mv (a := (eB v64.2)) rfl rfl rfl (o_mv tk rfl (Wk.refl _)) ?_
              refine wpo_mv (a := ((eL 3 e_api_Step) v62)) rfl rfl rfl (o_mv tk rfl (Wk.refl _)) ?_
              refine wpo_lt hs67 eI rfl rfl rfl (o_len tk td23 rfl) fun v70 H69 => ?_
              refine wpo_lt H69 eB rfl rfl rfl (o_ar tk rfl rfl rfl) fun v72 H71 => ?_
              refine wpo_lt H71 eB rfl rfl rfl (o_bool_neq tk td4 rfl rfl) fun v74 H73 => ?_
              refine wpo_mv (a := (eB v74)) rfl rfl rfl (o_mv tk rfl (Wk.refl _)) ?_
              refine if_split H73 (fun hb H75 => ?_) (fun hb H75 => ?_)
              · subst hb
                refine wpo_skip rfl rfl rfl ?_
                refine wpo_skip rfl rfl rfl ?_
                refine wpo_skip rfl rfl rfl ?_
                refine wpo_skip rfl rfl rfl ?_
                refine wpo_skip rfl rfl rfl ?_
                refine wpo_skip rfl rfl rfl ?_
                refine wpo_skip rfl rfl rfl ?_
                refine wpo_skip rfl rfl rfl ?_
                refine wpo_skip rfl rfl rfl ?_
                refine wpo_skip rfl rfl rfl ?_
                refine wpo_skip rfl rfl rfl ?_
                refine wpo_skip rfl rfl rfl ?_
                refine wpo_mv (a := (eB true)) rfl rfl rfl (o_pick_t tk rfl rfl (Wk.refl _)) ?_
                refine wpo_nil ?_
                have e := Option.some.inj H75
                subst e
                exact ⟨(wkf_cons (.of_eq rfl) (wkf_cons (.of_eq rfl) (wkf_cons (.of_eq rfl) (wkf_cons (.of_eq rfl) (wkf_cons (.of_eq rfl) (wkf_nil _)))))), hH⟩
              · subst hb
                refine wpo_mv (a := (eB v64.2)) rfl rfl rfl (o_mv tk rfl (Wk.refl _)) ?_
                refine wpo_mv (a := (eB v64.2)) rfl rfl rfl (o_mv tk rfl (Wk.refl _)) ?_
                refine if_split H75 (fun hb H76 => ?_) (fun hb H76 => ?_)
                · rw [hb]
                  refine wpo_mv (a := (eI v64.1)) rfl rfl rfl (o_mv tk rfl (Wk.refl _)) ?_
                  refine wpo_mv (a := ((eL 3 e_api_Step) v62)) rfl rfl rfl (o_mv tk rfl (Wk.refl _)) ?_
                  refine wpo_mv (a := ((eL 3 e_api_Step) v62)) rfl rfl rfl (o_mv tk rfl (Wk.refl _)) ?_
                  refine wpo_lt H76 eI rfl rfl rfl (o_len tk td23 rfl) fun v78 H77 => ?_
                  refine wpo_lt H77 eI rfl rfl rfl (o_ar tk rfl rfl rfl) fun v80 H79 => ?_
                  refine wpo_bd H79 (fun y => .fptr (e_api_Step y).cells 0) rfl rfl rfl (fun v82 hv => o_ixa tk hv td23 enc32 rfl rfl) fun v82 hv82 H81 => ?_
                  refine wpo_mv (a := (.fptr (c_api_Step v82) 1)) rfl rfl rfl (o_c tk false rfl (fun _ => rfl)) ?_
                  refine wpo_mv (a := (eI v82.At)) rfl rfl rfl (o_ld tk rfl rfl) ?_
                  refine wpo_lt H81 eB rfl rfl rfl (o_ar tk rfl rfl rfl) fun v84 H83 => ?_
                  refine wpo_mv (a := (eB v84)) rfl rfl rfl (o_pick_t tk rfl rfl (Wk.refl _)) ?_
                  refine wpo_mv (a := (eB v84)) rfl rfl rfl (o_pick_f tk rfl rfl (Wk.refl _)) ?_
                  refine wpo_nil ?_
                  have e := Option.some.inj H83
                  subst e
                  exact ⟨(wkf_cons (.of_eq rfl) (wkf_cons (.of_eq rfl) (wkf_cons (.of_eq rfl) (wkf_cons (.of_eq rfl) (wkf_cons (.of_eq rfl) (wkf_nil _)))))), hH⟩
                · rw [hb]
                  refine wpo_skip rfl rfl rfl ?_
                  refine wpo_skip rfl rfl rfl ?_
                  refine wpo_skip rfl rfl rfl ?_
                  refine wpo_skip rfl rfl rfl ?_
                  refine wpo_skip rfl rfl rfl ?_
                  refine wpo_skip rfl rfl rfl ?_
                  refine wpo_skip rfl rfl rfl ?_
                  refine wpo_skip rfl rfl rfl ?_
                  refine wpo_skip rfl rfl rfl ?_
                  refine wpo_mv (a := (eB false)) rfl rfl rfl (o_pick_f tk rfl rfl (Wk.refl _)) ?_
                  refine wpo_mv (a := (eB false)) rfl rfl rfl (o_pick_f tk rfl rfl (Wk.refl _)) ?_
                  refine wpo_nil ?_
                  have e := Option.some.inj H76
                  subst e
                  exact ⟨(wkf_cons (.of_eq rfl) (wkf_cons (.of_eq rfl) (wkf_cons (.of_eq rfl) (wkf_cons (.of_eq rfl) (wkf_cons (.of_eq rfl) (wkf_nil _)))))), hH⟩
          · refine awp_exit ?_
            have hz := hy35 _ (inj_inr H50)
            exact ⟨⟨_, inj_inr H50⟩, (c26, c27), hz.symm, (wkf_cons (.of_eq rfl) (wkf_cons (.of_eq rfl) (wkf_nil _))), hH⟩
        · refine awp_region rfl ?_
          refine wpo_mv (a := (eI c28)) rfl rfl rfl (o_mv tk rfl (Wk.refl _)) ?_
          refine wpo_mv (a := ((eL 3 e_api_Step) x3)) rfl rfl rfl (o_mv tk rfl (Wk.refl _)) ?_
          refine wpo_lt hs40 eI rfl rfl rfl (o_len tk td23 rfl) fun v43 H42 => ?_
          refine wpo_lt H42 eB rfl rfl rfl (o_ar tk rfl rfl rfl) fun v45 H44 => ?_
          refine wpo_mv (a := (eB v45)) rfl rfl rfl (o_mv tk rfl (Wk.refl _)) ?_
          refine if_split H44 (fun hb H46 => ?_) (fun hb H46 => ?_)
          · subst hb
            refine wpo_mv (a := (eI c28)) rfl rfl rfl (o_mv tk rfl (Wk.refl _)) ?_
            refine wpo_lt H46 eB rfl rfl rfl (o_ar tk rfl rfl rfl) fun v48 H47 => ?_
            refine wpo_mv (a := (eB v48)) rfl rfl rfl (o_pick_t tk rfl rfl (Wk.refl _)) ?_
            refine wpo_nil ?_
            have e := Option.some.inj H47
            subst e
            exact ⟨(wkf_cons (.of_eq rfl) (wkf_cons (.of_eq rfl) (wkf_cons (.of_eq rfl) (wkf_cons (.of_eq rfl) (wkf_cons (.of_eq rfl) (wkf_nil _)))))), hH⟩
          · subst hb
            refine wpo_skip rfl rfl rfl ?_
            refine wpo_skip rfl rfl rfl ?_
            refine wpo_mv (a := (eB false)) rfl rfl rfl (o_pick_f tk rfl rfl (Wk.refl _)) ?_
            refine wpo_nil ?_
            have e := Option.some.inj H46
            subst e
            exact ⟨(wkf_cons (.of_eq rfl) (wkf_cons (.of_eq rfl) (wkf_cons (.of_eq rfl) (wkf_cons (.of_eq rfl) (wkf_cons (.of_eq rfl) (wkf_nil _)))))), hH⟩
  · refine awp_region rfl ?_
    refine wpo_mv (a := (eErr v2)) rfl rfl rfl (o_mv tk rfl (Wk.refl _)) ?_
    refine wpo_lt hs7 eB rfl rfl rfl (o_err_eql tk rfl rfl rfl) fun v10 H9 => ?_
    refine wpo_mv (a := ((eL 3 e_api_Step) v4)) rfl rfl rfl (o_mv tk rfl (Wk.refl _)) ?_
    refine wpo_lt H9 eI rfl rfl rfl (o_len tk td23 rfl) fun v12 H11 => ?_
    refine wpo_lt H11 eB rfl rfl rfl (o_ar tk rfl rfl rfl) fun v14 H13 => ?_
    refine wpo_lt H13 eB rfl rfl rfl (o_bool_neq tk td4 rfl rfl) fun v16 H15 => ?_
    refine wpo_mv (a := (eB v16)) rfl rfl rfl (o_mv tk rfl (Wk.refl _)) ?_
    refine if_split H15 (fun hb H17 => ?_) (fun hb H17 => ?_)
    · subst hb
      refine wpo_skip rfl rfl rfl ?_
      refine wpo_skip rfl rfl rfl ?_
      refine wpo_skip rfl rfl rfl ?_
      refine wpo_skip rfl rfl rfl ?_
      refine wpo_skip rfl rfl rfl ?_
      refine wpo_mv (a := (eB true)) rfl rfl rfl (o_pick_t tk rfl rfl (Wk.refl _)) ?_
      refine wpo_nil ?_
      have e := Option.some.inj H17
      subst e
      exact ⟨(wkf_cons (.of_eq rfl) (wkf_cons (.of_eq rfl) (wkf_cons (.of_eq rfl) (wkf_cons (.of_eq rfl) (wkf_nil _))))), hH⟩
    · subst hb
      refine wpo_mv (a := (eErr v2)) rfl rfl rfl (o_mv tk rfl (Wk.refl _)) ?_
      refine wpo_bdr H17 (eL 3 e_api_Step) rfl rfl rfl (fun v19 hv => h_callr rfl rfl (.cons (.of_eq rfl) .nil) (trouble_Chain_ok hv _ (hH.gl.trans hg))) fun v19 hv19 H18 => ?_
      refine wpo_mv (a := ((eL 3 e_api_Step) v4)) rfl rfl rfl (o_mv tk rfl (Wk.refl _)) ?_
      refine wpo_bd H18 eB rfl rfl rfl (fun v21 hv => OpP.of_call rfl rfl (.cons (.of_eq rfl) (.cons (.of_eq rfl) .nil)) (butteryref01_Same_ok hv)) fun v21 hv21 H20 => ?_
      refine wpo_lt H20 eB rfl rfl rfl (o_un tk rfl rfl) fun v23 H22 => ?_
      refine wpo_mv (a := (eB v23)) rfl rfl rfl (o_pick_f tk rfl rfl (Wk.refl _)) ?_
      refine wpo_nil ?_
      have e := Option.some.inj H22
      subst e
      exact ⟨(wkf_cons (.of_eq rfl) (wkf_cons (.of_eq rfl) (wkf_cons (.of_eq rfl) (wkf_cons (.of_eq rfl) (wkf_nil _))))), hH⟩
end Go.Proofs.YtekldjimdmkgaaaDoor
namespace Go.Proofs.YtekldjimdmkgaaaDoor
open Go Go.Va
set_option linter.unusedSimpArgs false
set_option linter.unusedVariables false
def wf_runtime_boundsError (x : runtime_boundsError) : Prop := (wfI .i64) x.x ∧ (wfI .i64) x.y ∧ wfT x.signed ∧ wfT x.code
theorem opens7 : Opens Tryd.prog 7 e_runtime_boundsError wf_runtime_boundsError := by
  intro H enc w fuel cs x hx
  obtain ⟨xs, m, _, _, hl, hn, hx⟩ := DataW.trod_struct Tryd.underlying7 hx
  rw [cellsOf_sz tk sz7 (by decide)] at hl
  obtain ⟨y0, w0, r0, o0⟩ := opens_f hx hn 0 (o := 0) (s := 1) rfl (opens_i64 Tryd.underlying2) rfl (cellsOf_sz tk sz2 (by decide))
  obtain ⟨y1, w1, r1, o1⟩ := opens_f hx hn 1 (o := 1) (s := 1) rfl (opens_i64 Tryd.underlying3) rfl (cellsOf_sz tk sz3 (by decide))
  obtain ⟨y2, w2, r2, o2⟩ := opens_f hx hn 2 (o := 2) (s := 1) rfl (opens_b Tryd.underlying4) rfl (cellsOf_sz tk sz4 (by decide))
  obtain ⟨y3, w3, r3, o3⟩ := opens_f hx hn 3 (o := 3) (s := 1) rfl (opens_u rfl rfl Tryd.underlying6) rfl (cellsOf_sz tk sz6 (by decide))
  refine ⟨⟨y0, y1, y2, y3⟩, ⟨w0, w1, w2, w3⟩, ?_, ?_⟩
  · have h := (rel_piece r0 (rel_piece r1 (rel_piece r2 (rel_piece r3 (rel_end hl)))))
    rw [List.drop_zero] at h
    first | exact h | (simp only [List.append_nil, List.append_assoc] at h ⊢; exact h) | (simpa [AV.cells, e_runtime_boundsError, c_runtime_boundsError] using h)
  · have h := (one_piece o0 (one_piece o1 (one_piece o2 (one_piece o3 (one_end hl)))))
    rw [List.drop_zero] at h
    exact h
theorem opens8 : Opens Tryd.prog 8 e_runtime_boundsError wf_runtime_boundsError := by
  intro H enc w fuel cs x hx
  obtain ⟨xs, m, _, _, hl, hn, hx⟩ := DataW.trod_struct Tryd.underlying8 hx
  rw [cellsOf_sz tk sz8 (by decide)] at hl
  obtain ⟨y0, w0, r0, o0⟩ := opens_f hx hn 0 (o := 0) (s := 1) rfl (opens_i64 Tryd.underlying2) rfl (cellsOf_sz tk sz2 (by decide))
  obtain ⟨y1, w1, r1, o1⟩ := opens_f hx hn 1 (o := 1) (s := 1) rfl (opens_i64 Tryd.underlying3) rfl (cellsOf_sz tk sz3 (by decide))
  obtain ⟨y2, w2, r2, o2⟩ := opens_f hx hn 2 (o := 2) (s := 1) rfl (opens_b Tryd.underlying4) rfl (cellsOf_sz tk sz4 (by decide))
  obtain ⟨y3, w3, r3, o3⟩ := opens_f hx hn 3 (o := 3) (s := 1) rfl (opens_u rfl rfl Tryd.underlying6) rfl (cellsOf_sz tk sz6 (by decide))
  refine ⟨⟨y0, y1, y2, y3⟩, ⟨w0, w1, w2, w3⟩, ?_, ?_⟩
  · have h := (rel_piece r0 (rel_piece r1 (rel_piece r2 (rel_piece r3 (rel_end hl)))))
    rw [List.drop_zero] at h
    first | exact h | (simp only [List.append_nil, List.append_assoc] at h ⊢; exact h) | (simpa [AV.cells, e_runtime_boundsError, c_runtime_boundsError] using h)
  · have h := (one_piece o0 (one_piece o1 (one_piece o2 (one_piece o3 (one_end hl)))))
    rw [List.drop_zero] at h
    exact h
def wf_runtime_errorAddressString (x : runtime_errorAddressString) : Prop := wfS x.msg ∧ wfT x.addr
theorem opens13 : Opens Tryd.prog 13 e_runtime_errorAddressString wf_runtime_errorAddressString := by
  intro H enc w fuel cs x hx
  obtain ⟨xs, m, _, _, hl, hn, hx⟩ := DataW.trod_struct Tryd.underlying13 hx
  rw [cellsOf_sz tk sz13 (by decide)] at hl
  obtain ⟨y0, w0, r0, o0⟩ := opens_f hx hn 0 (o := 0) (s := 1) rfl (opens_s Tryd.underlying9) rfl (cellsOf_sz tk sz9 (by decide))
  obtain ⟨y1, w1, r1, o1⟩ := opens_f hx hn 1 (o := 1) (s := 1) rfl (opens_u rfl rfl Tryd.underlying12) rfl (cellsOf_sz tk sz12 (by decide))
  refine ⟨⟨y0, y1⟩, ⟨w0, w1⟩, ?_, ?_⟩
  · have h := (rel_piece r0 (rel_piece r1 (rel_end hl)))
    rw [List.drop_zero] at h
    first | exact h | (simp only [List.append_nil, List.append_assoc] at h ⊢; exact h) | (simpa [AV.cells, e_runtime_errorAddressString, c_runtime_errorAddressString] using h)
  · have h := (one_piece o0 (one_piece o1 (one_end hl)))
    rw [List.drop_zero] at h
    exact h
theorem opens14 : Opens Tryd.prog 14 e_runtime_errorAddressString wf_runtime_errorAddressString := by
  intro H enc w fuel cs x hx
  obtain ⟨xs, m, _, _, hl, hn, hx⟩ := DataW.trod_struct Tryd.underlying14 hx
  rw [cellsOf_sz tk sz14 (by decide)] at hl
  obtain ⟨y0, w0, r0, o0⟩ := opens_f hx hn 0 (o := 0) (s := 1) rfl (opens_s Tryd.underlying9) rfl (cellsOf_sz tk sz9 (by decide))
  obtain ⟨y1, w1, r1, o1⟩ := opens_f hx hn 1 (o := 1) (s := 1) rfl (opens_u rfl rfl Tryd.underlying12) rfl (cellsOf_sz tk sz12 (by decide))
  refine ⟨⟨y0, y1⟩, ⟨w0, w1⟩, ?_, ?_⟩
  · have h := (rel_piece r0 (rel_piece r1 (rel_end hl)))
    rw [List.drop_zero] at h
    first | exact h | (simp only [List.append_nil, List.append_assoc] at h ⊢; exact h) | (simpa [AV.cells, e_runtime_errorAddressString, c_runtime_errorAddressString] using h)
  · have h := (one_piece o0 (one_piece o1 (one_end hl)))
    rw [List.drop_zero] at h
    exact h
def wf_api_Step (x : api_Step) : Prop := wfS x.Op ∧ (wfI .i64) x.At ∧ (wfI .i64) x.Code
theorem opens31 : Opens Tryd.prog 31 e_api_Step wf_api_Step := by
  intro H enc w fuel cs x hx
  obtain ⟨xs, m, _, _, hl, hn, hx⟩ := DataW.trod_struct Tryd.underlying31 hx
  rw [cellsOf_sz tk sz31 (by decide)] at hl
  obtain ⟨y0, w0, r0, o0⟩ := opens_f hx hn 0 (o := 0) (s := 1) rfl (opens_s Tryd.underlying9) rfl (cellsOf_sz tk sz9 (by decide))
  obtain ⟨y1, w1, r1, o1⟩ := opens_f hx hn 1 (o := 1) (s := 1) rfl (opens_i64 Tryd.underlying3) rfl (cellsOf_sz tk sz3 (by decide))
  obtain ⟨y2, w2, r2, o2⟩ := opens_f hx hn 2 (o := 2) (s := 1) rfl (opens_i64 Tryd.underlying22) rfl (cellsOf_sz tk sz22 (by decide))
  refine ⟨⟨y0, y1, y2⟩, ⟨w0, w1, w2⟩, ?_, ?_⟩
  · have h := (rel_piece r0 (rel_piece r1 (rel_piece r2 (rel_end hl))))
    rw [List.drop_zero] at h
    first | exact h | (simp only [List.append_nil, List.append_assoc] at h ⊢; exact h) | (simpa [AV.cells, e_api_Step, c_api_Step] using h)
  · have h := (one_piece o0 (one_piece o1 (one_piece o2 (one_end hl))))
    rw [List.drop_zero] at h
    exact h
theorem opens32 : Opens Tryd.prog 32 e_api_Step wf_api_Step := by
  intro H enc w fuel cs x hx
  obtain ⟨xs, m, _, _, hl, hn, hx⟩ := DataW.trod_struct Tryd.underlying32 hx
  rw [cellsOf_sz tk sz32 (by decide)] at hl
  obtain ⟨y0, w0, r0, o0⟩ := opens_f hx hn 0 (o := 0) (s := 1) rfl (opens_s Tryd.underlying9) rfl (cellsOf_sz tk sz9 (by decide))
  obtain ⟨y1, w1, r1, o1⟩ := opens_f hx hn 1 (o := 1) (s := 1) rfl (opens_i64 Tryd.underlying3) rfl (cellsOf_sz tk sz3 (by decide))
  obtain ⟨y2, w2, r2, o2⟩ := opens_f hx hn 2 (o := 2) (s := 1) rfl (opens_i64 Tryd.underlying22) rfl (cellsOf_sz tk sz22 (by decide))
  refine ⟨⟨y0, y1, y2⟩, ⟨w0, w1, w2⟩, ?_, ?_⟩
  · have h := (rel_piece r0 (rel_piece r1 (rel_piece r2 (rel_end hl))))
    rw [List.drop_zero] at h
    first | exact h | (simp only [List.append_nil, List.append_assoc] at h ⊢; exact h) | (simpa [AV.cells, e_api_Step, c_api_Step] using h)
  · have h := (one_piece o0 (one_piece o1 (one_piece o2 (one_end hl))))
    rw [List.drop_zero] at h
    exact h
def wf_trouble_mark (x : trouble_mark) : Prop := (wfI .i64) x.code
theorem opens57 : Opens Tryd.prog 57 e_trouble_mark wf_trouble_mark := by
  intro H enc w fuel cs x hx
  obtain ⟨xs, m, _, _, hl, hn, hx⟩ := DataW.trod_struct Tryd.underlying57 hx
  rw [cellsOf_sz tk sz57 (by decide)] at hl
  obtain ⟨y0, w0, r0, o0⟩ := opens_f hx hn 0 (o := 0) (s := 1) rfl (opens_i64 Tryd.underlying22) rfl (cellsOf_sz tk sz22 (by decide))
  refine ⟨⟨y0⟩, w0, ?_, ?_⟩
  · have h := (rel_piece r0 (rel_end hl))
    rw [List.drop_zero] at h
    first | exact h | (simp only [List.append_nil, List.append_assoc] at h ⊢; exact h) | (simpa [AV.cells, e_trouble_mark, c_trouble_mark] using h)
  · have h := (one_piece o0 (one_end hl))
    rw [List.drop_zero] at h
    exact h
theorem opens58 : Opens Tryd.prog 58 e_trouble_mark wf_trouble_mark := by
  intro H enc w fuel cs x hx
  obtain ⟨xs, m, _, _, hl, hn, hx⟩ := DataW.trod_struct Tryd.underlying58 hx
  rw [cellsOf_sz tk sz58 (by decide)] at hl
  obtain ⟨y0, w0, r0, o0⟩ := opens_f hx hn 0 (o := 0) (s := 1) rfl (opens_i64 Tryd.underlying22) rfl (cellsOf_sz tk sz22 (by decide))
  refine ⟨⟨y0⟩, w0, ?_, ?_⟩
  · have h := (rel_piece r0 (rel_end hl))
    rw [List.drop_zero] at h
    first | exact h | (simp only [List.append_nil, List.append_assoc] at h ⊢; exact h) | (simpa [AV.cells, e_trouble_mark, c_trouble_mark] using h)
  · have h := (one_piece o0 (one_end hl))
    rw [List.drop_zero] at h
    exact h
def wf_reflectlite_ValueError (x : reflectlite_ValueError) : Prop := wfS x.Method ∧ wfT x.Kind
theorem opens112 : Opens Tryd.prog 112 e_reflectlite_ValueError wf_reflectlite_ValueError := by
  intro H enc w fuel cs x hx
  obtain ⟨xs, m, _, _, hl, hn, hx⟩ := DataW.trod_struct Tryd.underlying112 hx
  rw [cellsOf_sz tk sz112 (by decide)] at hl
  obtain ⟨y0, w0, r0, o0⟩ := opens_f hx hn 0 (o := 0) (s := 1) rfl (opens_s Tryd.underlying9) rfl (cellsOf_sz tk sz9 (by decide))
  obtain ⟨y1, w1, r1, o1⟩ := opens_f hx hn 1 (o := 1) (s := 1) rfl (opens_u rfl rfl Tryd.underlying68) rfl (cellsOf_sz tk sz68 (by decide))
  refine ⟨⟨y0, y1⟩, ⟨w0, w1⟩, ?_, ?_⟩
  · have h := (rel_piece r0 (rel_piece r1 (rel_end hl)))
    rw [List.drop_zero] at h
    first | exact h | (simp only [List.append_nil, List.append_assoc] at h ⊢; exact h) | (simpa [AV.cells, e_reflectlite_ValueError, c_reflectlite_ValueError] using h)
  · have h := (one_piece o0 (one_piece o1 (one_end hl)))
    rw [List.drop_zero] at h
    exact h
theorem opens113 : Opens Tryd.prog 113 e_reflectlite_ValueError wf_reflectlite_ValueError := by
  intro H enc w fuel cs x hx
  obtain ⟨xs, m, _, _, hl, hn, hx⟩ := DataW.trod_struct Tryd.underlying113 hx
  rw [cellsOf_sz tk sz113 (by decide)] at hl
  obtain ⟨y0, w0, r0, o0⟩ := opens_f hx hn 0 (o := 0) (s := 1) rfl (opens_s Tryd.underlying9) rfl (cellsOf_sz tk sz9 (by decide))
  obtain ⟨y1, w1, r1, o1⟩ := opens_f hx hn 1 (o := 1) (s := 1) rfl (opens_u rfl rfl Tryd.underlying68) rfl (cellsOf_sz tk sz68 (by decide))
  refine ⟨⟨y0, y1⟩, ⟨w0, w1⟩, ?_, ?_⟩
  · have h := (rel_piece r0 (rel_piece r1 (rel_end hl)))
    rw [List.drop_zero] at h
    first | exact h | (simp only [List.append_nil, List.append_assoc] at h ⊢; exact h) | (simpa [AV.cells, e_reflectlite_ValueError, c_reflectlite_ValueError] using h)
  · have h := (one_piece o0 (one_piece o1 (one_end hl)))
    rw [List.drop_zero] at h
    exact h
def wf_abi_Method (x : abi_Method) : Prop := (wfI .i32) x.Name ∧ (wfI .i32) x.Mtyp ∧ (wfI .i32) x.Ifn ∧ (wfI .i32) x.Tfn
theorem opens121 : Opens Tryd.prog 121 e_abi_Method wf_abi_Method := by
  intro H enc w fuel cs x hx
  obtain ⟨xs, m, _, _, hl, hn, hx⟩ := DataW.trod_struct Tryd.underlying121 hx
  rw [cellsOf_sz tk sz121 (by decide)] at hl
  obtain ⟨y0, w0, r0, o0⟩ := opens_f hx hn 0 (o := 0) (s := 1) rfl (opens_i Tryd.underlying105) rfl (cellsOf_sz tk sz105 (by decide))
  obtain ⟨y1, w1, r1, o1⟩ := opens_f hx hn 1 (o := 1) (s := 1) rfl (opens_i Tryd.underlying106) rfl (cellsOf_sz tk sz106 (by decide))
  obtain ⟨y2, w2, r2, o2⟩ := opens_f hx hn 2 (o := 2) (s := 1) rfl (opens_i Tryd.underlying120) rfl (cellsOf_sz tk sz120 (by decide))
  obtain ⟨y3, w3, r3, o3⟩ := opens_f hx hn 3 (o := 3) (s := 1) rfl (opens_i Tryd.underlying120) rfl (cellsOf_sz tk sz120 (by decide))
  refine ⟨⟨y0, y1, y2, y3⟩, ⟨w0, w1, w2, w3⟩, ?_, ?_⟩
  · have h := (rel_piece r0 (rel_piece r1 (rel_piece r2 (rel_piece r3 (rel_end hl)))))
    rw [List.drop_zero] at h
    first | exact h | (simp only [List.append_nil, List.append_assoc] at h ⊢; exact h) | (simpa [AV.cells, e_abi_Method, c_abi_Method] using h)
  · have h := (one_piece o0 (one_piece o1 (one_piece o2 (one_piece o3 (one_end hl)))))
    rw [List.drop_zero] at h
    exact h
theorem opens122 : Opens Tryd.prog 122 e_abi_Method wf_abi_Method := by
  intro H enc w fuel cs x hx
  obtain ⟨xs, m, _, _, hl, hn, hx⟩ := DataW.trod_struct Tryd.underlying122 hx
  rw [cellsOf_sz tk sz122 (by decide)] at hl
  obtain ⟨y0, w0, r0, o0⟩ := opens_f hx hn 0 (o := 0) (s := 1) rfl (opens_i Tryd.underlying105) rfl (cellsOf_sz tk sz105 (by decide))
  obtain ⟨y1, w1, r1, o1⟩ := opens_f hx hn 1 (o := 1) (s := 1) rfl (opens_i Tryd.underlying106) rfl (cellsOf_sz tk sz106 (by decide))
  obtain ⟨y2, w2, r2, o2⟩ := opens_f hx hn 2 (o := 2) (s := 1) rfl (opens_i Tryd.underlying120) rfl (cellsOf_sz tk sz120 (by decide))
  obtain ⟨y3, w3, r3, o3⟩ := opens_f hx hn 3 (o := 3) (s := 1) rfl (opens_i Tryd.underlying120) rfl (cellsOf_sz tk sz120 (by decide))
  refine ⟨⟨y0, y1, y2, y3⟩, ⟨w0, w1, w2, w3⟩, ?_, ?_⟩
  · have h := (rel_piece r0 (rel_piece r1 (rel_piece r2 (rel_piece r3 (rel_end hl)))))
    rw [List.drop_zero] at h
    first | exact h | (simp only [List.append_nil, List.append_assoc] at h ⊢; exact h) | (simpa [AV.cells, e_abi_Method, c_abi_Method] using h)
  · have h := (one_piece o0 (one_piece o1 (one_piece o2 (one_piece o3 (one_end hl)))))
    rw [List.drop_zero] at h
    exact h
end Go.Proofs.YtekldjimdmkgaaaDoor
namespace Go.Proofs.YtekldjimdmkgaaaDoor
open Go Go.Va
set_option linter.unusedVariables false
set_option linter.unusedSimpArgs false
set_option maxRecDepth 20000
noncomputable def butteryref01_Has_b0 (x0 : List api_Step) (x1 : Int) (c1 : Int) : Option ((Int) ⊕ (Unit ⊕ (Bool))) :=
  lt (((x0).length : Int)) fun v12 =>
  lt (decide (c1 < v12)) fun v14 =>
  if v14 = true then
    (
      (ix x0 c1).bind fun v21 =>
      lt (v21.Code == x1) fun v23 =>
      if v23 = true then
        lt (x1 != (0 : Int)) fun v26 =>
        some v26
      else
        some false
     : Option (Bool)).bind fun s16 =>
      if s16 = true then
        some (.inr (.inr true))
      else
        lt (w64 (c1 + (1 : Int))) fun v31 =>
        some (.inl v31)
  else
    some (.inr (.inl ()))
noncomputable def butteryref01_Has_l0 (x0 : List api_Step) (x1 : Int) (s : Int) : Option (Unit ⊕ (Bool)) := loopO (fun s => butteryref01_Has_b0 x0 x1 s) s
noncomputable def butteryref01_Has (x0 : List api_Step) (x1 : Int) : Option (Bool) :=
  (butteryref01_Has_l0 x0 x1 (0 : Int)).bind fun o2 =>
    Sum.elim (fun s9 : Unit =>
      some false
      ) (fun y => some y) o2
end Go.Proofs.YtekldjimdmkgaaaDoor
namespace Go.Proofs.YtekldjimdmkgaaaDoor
open Go Go.Va
set_option linter.unusedVariables false
set_option linter.unusedSimpArgs false
/-- The links of a fault, the outermost first. -/
def lnk : Err → List api_Step
  | .nil => []
  | .fault o a c u => ⟨o, a, c⟩ :: lnk u
theorem nil_lnk (e : Err) : e.isNil = decide ((lnk e).length = 0) := by cases e <;> simp [Err.isNil, lnk]
theorem chain_loop : ∀ (e : Err) (acc : List api_Step), acc.length + (lnk e).length ≤ 100000 → loopO trouble_Chain_b0 (e, acc) = some (acc ++ lnk e)
  | .nil, acc, _ => by
    rw [loopO_out (x := acc) rfl]
    simp [lnk]
  | .fault o a c u, acc, h => by
    simp only [lnk, List.length_cons] at h
    rw [loopO_in (s' := (u, acc ++ [⟨o, a, c⟩])), chain_loop u _ (by simp; omega)]
    · simp [lnk]
    · unfold trouble_Chain_b0
      simp only []
      rw [app_eq (by simp; omega)]
      rfl
theorem chain_eq {e : Err} (h : (lnk e).length ≤ 1000) : trouble_Chain e = some (lnk e) := by
  unfold trouble_Chain
  rw [chain_loop e [] (by simp; omega)]
  rfl
theorem new1_eq (o : List (BitVec 8)) (a c : Int) : ∃ e, trouble_New o a c = some e ∧ butteryref01_Fault o a c = some (lnk e) ∧ ((c = 0 ∧ e = .nil) ∨ (c ≠ 0 ∧ e = .fault o a c .nil)) := by
  unfold trouble_New butteryref01_Fault
  simp only [lt_eq]
  by_cases h : c = 0
  · rw [if_pos (by simp [h]), if_pos (by simp [h])]
    exact ⟨_, rfl, rfl, .inl ⟨h, rfl⟩⟩
  · rw [if_neg (by simp [h]), if_neg (by simp [h])]
    exact ⟨_, rfl, rfl, .inr ⟨h, rfl⟩⟩
def wrp (o : List (BitVec 8)) (a : Int) (e : Err) : Err := if e.isNil = true then .nil else .fault o a 0 e
theorem wrap1_eq (o : List (BitVec 8)) (a : Int) (e : Err) : trouble_Wrap o a e = some (wrp o a e) := by
  unfold trouble_Wrap wrp
  simp only [lt_eq]
  split <;> rfl
theorem wrapF_eq (o : List (BitVec 8)) (a : Int) {e : Err} (h : (lnk e).length ≤ 1000) : butteryref01_Wrap (lnk e) o a = some (lnk (wrp o a e)) := by
  unfold butteryref01_Wrap wrp
  simp only [lt_eq]
  rw [nil_lnk]
  by_cases h0 : (lnk e).length = 0
  · rw [if_pos (by simp [h0]), if_pos (by simpa using h0)]
    rfl
  · rw [if_neg (by simp; intro h; rw [h] at h0; exact h0 rfl), if_neg (by simpa using h0), app_eq (by simp; omega)]
    rfl
theorem wrp_len (o : List (BitVec 8)) (a : Int) (e : Err) : (lnk (wrp o a e)).length ≤ (lnk e).length + 1 := by
  unfold wrp
  split <;> simp [lnk]
theorem ofF_loop : ∀ (e : Err) (pre : List api_Step), pre.length + (lnk e).length ≤ 1000 → loopO (fun s => butteryref01_Of_b0 (pre ++ lnk e) s) (pre.length : Int) = some (if codeOf e = 0 then .inl () else .inr (codeOf e))
  | .nil, pre, h => by
    refine loopO_out ?_
    unfold butteryref01_Of_b0
    simp [lt_eq, lnk, codeOf]
  | .fault o a c u, pre, h => by
    simp only [lnk, List.length_cons] at h
    have hix : ix (pre ++ lnk (.fault o a c u)) (pre.length : Int) = some ⟨o, a, c⟩ := by
      rw [ix_get, List.getElem?_append_right (Nat.le_refl _)]
      simp [lnk]
    by_cases hc : c = 0
    · rw [loopO_in (s' := ((pre.length + 1 : Nat) : Int))]
      · have := ofF_loop u (pre ++ [⟨o, a, c⟩]) (by simp; omega)
        rw [List.length_append, List.length_singleton, List.append_assoc] at this
        rw [show codeOf (.fault o a c u) = codeOf u by simp [codeOf, hc]]
        exact this
      · unfold butteryref01_Of_b0
        simp only [lt_eq]
        rw [if_pos (decide_eq_true (by simp [lnk]; omega)), hix, Option.bind_some, if_neg (by simp [hc]), w64_nat (by omega)]
    · rw [loopO_out (x := .inr c)]
      · rw [show codeOf (.fault o a c u) = c by simp [codeOf, hc], if_neg hc]
      · unfold butteryref01_Of_b0
        simp only [lt_eq]
        rw [if_pos (decide_eq_true (by simp [lnk]; omega)), hix, Option.bind_some, if_pos (by simp [hc]), Option.bind_some]
theorem ofF_eq1 {e : Err} (h : (lnk e).length ≤ 1000) : butteryref01_Of (lnk e) = some (codeOf e) := by
  unfold butteryref01_Of butteryref01_Of_l0
  have := ofF_loop e [] (by simpa using h)
  rw [List.nil_append, show (([] : List api_Step).length : Int) = 0 from rfl] at this
  rw [this]
  split
  · rename_i h0; rw [h0]; rfl
  · rfl
theorem hasF_loop (k : Int) : ∀ (e : Err) (pre : List api_Step), pre.length + (lnk e).length ≤ 1000 → loopO (fun s => butteryref01_Has_b0 (pre ++ lnk e) k s) (pre.length : Int) = some (if hasE e k = true then .inr true else .inl ())
  | .nil, pre, h => by
    refine loopO_out ?_
    unfold butteryref01_Has_b0
    simp [lt_eq, lnk, hasE]
  | .fault o a c u, pre, h => by
    simp only [lnk, List.length_cons] at h
    have hix : ix (pre ++ lnk (.fault o a c u)) (pre.length : Int) = some ⟨o, a, c⟩ := by
      rw [ix_get, List.getElem?_append_right (Nat.le_refl _)]
      simp [lnk]
    by_cases hc : c = k ∧ k ≠ 0
    · rw [loopO_out (x := .inr true)]
      · rw [if_pos (by simp [hasE, hc.1, hc.2])]
      · unfold butteryref01_Has_b0
        simp only [lt_eq]
        rw [if_pos (decide_eq_true (by simp [lnk]; omega)), hix, Option.bind_some, if_pos (by simp [hc.1]), Option.bind_some, if_pos (by simp [hc.2])]
    · rw [loopO_in (s' := ((pre.length + 1 : Nat) : Int))]
      · have := hasF_loop k u (pre ++ [⟨o, a, c⟩]) (by simp; omega)
        rw [List.length_append, List.length_singleton, List.append_assoc] at this
        have e1 : hasE (.fault o a c u) k = hasE u k := by
          simp only [hasE]
          have : (c == k && c != 0) = false := by
            by_cases h1 : c = k
            · have : k = 0 := Classical.byContradiction fun h2 => hc ⟨h1, h2⟩
              simp [h1, this]
            · simp [h1]
          rw [this, Bool.false_or]
        rw [e1]
        exact this
      · unfold butteryref01_Has_b0
        simp only [lt_eq]
        rw [if_pos (decide_eq_true (by simp [lnk]; omega)), hix, Option.bind_some]
        by_cases h1 : c = k
        · have h2 : k = 0 := Classical.byContradiction fun h2 => hc ⟨h1, h2⟩
          rw [if_pos (by simp [h1]), Option.bind_some, if_neg (by simp [h2]), w64_nat (by omega)]
        · rw [if_neg (by simp [h1]), Option.bind_some, if_neg (by simp), w64_nat (by omega)]
theorem hasF_eq1 {e : Err} (h : (lnk e).length ≤ 1000) (k : Int) : butteryref01_Has (lnk e) k = some (hasE e k) := by
  unfold butteryref01_Has butteryref01_Has_l0
  have := hasF_loop k e [] (by simpa using h)
  rw [List.nil_append, show (([] : List api_Step).length : Int) = 0 from rfl] at this
  rw [this]
  cases hasE e k <;> rfl
theorem same1_eq (a : List api_Step) (h : a.length ≤ 1000) : butteryref01_Same a a = some true := by
  unfold butteryref01_Same butteryref01_Same_l0
  simp only [lt_eq]
  rw [if_neg (by simp)]
  have key := loopO_up (body := fun s => butteryref01_Same_b0 a a s) (fun i => (i : Int)) a.length (x := .inl ()) (fun i hi => ?_) ?_
  · rw [show (0 : Int) = ((0 : Nat) : Int) from rfl, key]
    rfl
  · unfold butteryref01_Same_b0
    simp only [lt_eq]
    rw [if_pos (decide_eq_true (by omega)), ix_nat hi]
    simp only [Option.bind_some, lt_eq]
    rw [if_neg (by simp), w64_nat (by omega)]
  · unfold butteryref01_Same_b0
    simp only [lt_eq]
    rw [if_neg (by simp)]
/-- Where the innermost link is. -/
def inAt (e : Err) : Int := match (lnk e).getLast? with
  | some x => x.At
  | none => 0
theorem where_eq {e : Err} (h : (lnk e).length ≤ 1000) : trouble_Where e = some (inAt e, !e.isNil) := by
  unfold trouble_Where
  rw [chain_eq h, Option.bind_some]
  simp only [lt_eq]
  rw [nil_lnk]
  by_cases h0 : (lnk e).length = 0
  · have hn := List.length_eq_zero_iff.1 h0
    rw [if_pos (by simp [h0])]
    unfold inAt
    rw [hn]
    rfl
  · rw [if_neg (by simp; intro h; rw [h] at h0; exact h0 rfl), w64_eq (by omega) (by omega), show ((lnk e).length : Int) - 1 = (((lnk e).length - 1 : Nat) : Int) by omega, ix_get]
    unfold inAt
    rw [List.getLast?_eq_getElem?]
    have : (lnk e).length - 1 < (lnk e).length := by omega
    rw [List.getElem?_eq_getElem this]
    simp [h0]
end Go.Proofs.YtekldjimdmkgaaaDoor
namespace Go.Proofs.YtekldjimdmkgaaaDoor
open Go Go.Va
set_option linter.unusedVariables false
set_option linter.unusedSimpArgs false
set_option maxRecDepth 20000
noncomputable def butterylaw01_made_b0 (x1 : List api_Step) (c5 : Err) (c6 : List api_Step) (c7 : Int) : Option ((Err × (List api_Step) × Int) ⊕ (Err × (List api_Step))) :=
  (
    lt (((x1).length : Int)) fun v22 =>
    lt (decide (c7 < v22)) fun v24 =>
    if v24 = true then
      lt (decide (c7 < (30 : Int))) fun v27 =>
      some v27
    else
      some false
   : Option (Bool)).bind fun s17 =>
    if s17 = true then
      (ix x1 c7).bind fun v31 =>
      (ix x1 c7).bind fun v33 =>
      (trouble_Wrap v31.Op v33.At c5).bind fun v35 =>
      (ix x1 c7).bind fun v37 =>
      (ix x1 c7).bind fun v39 =>
      (butteryref01_Wrap c6 v37.Op v39.At).bind fun v41 =>
      lt (w64 (c7 + (1 : Int))) fun v43 =>
      some (.inl (v35, v41, v43))
    else
      some (.inr (c5, c6))
noncomputable def butterylaw01_made_l0 (x1 : List api_Step) (s : Err × (List api_Step) × Int) : Option (Err × (List api_Step)) := loopO (fun s => butterylaw01_made_b0 x1 s.1 s.2.1 s.2.2) s
noncomputable def butterylaw01_made (x0 : Int) (x1 : List api_Step) : Option (Err × (List api_Step)) :=
  (trouble_New ([102#8, 105#8, 114#8, 115#8, 116#8] : List (BitVec 8)) (0 : Int) x0).bind fun v2 =>
  (butteryref01_Fault ([102#8, 105#8, 114#8, 115#8, 116#8] : List (BitVec 8)) (0 : Int) x0).bind fun v4 =>
  (butterylaw01_made_l0 x1 (v2, v4, (0 : Int))).bind fun s15 =>
    some (s15.1, s15.2)
end Go.Proofs.YtekldjimdmkgaaaDoor
namespace Go.Proofs.YtekldjimdmkgaaaDoor
open Go Go.Va
set_option linter.unusedVariables false
set_option linter.unusedSimpArgs false
def dg (n : Nat) : BitVec 8 := BitVec.ofNat 8 (48 + n % 10)
def digs (n : Nat) : List (BitVec 8) := if n < 10 then [dg n] else digs (n / 10) ++ [dg n]
termination_by n
decreasing_by omega
theorem cat_eq {x y : List (BitVec 8)} (h : x.length + y.length ≤ 9223372036854775807) : cat x y = some (x ++ y) := if_pos h
theorem chr_dg {c : Int} (h0 : 0 ≤ c) (h1 : c < 10) : chr1 (BitVec.ofInt 8 (w64 (48 + c))) = some [dg c.toNat] := by
  rw [w64_eq (by omega) (by omega)]
  have e : BitVec.ofInt 8 (48 + c) = dg c.toNat := by
    unfold dg
    rw [show 48 + c = ((48 + c.toNat % 10 : Nat) : Int) by omega]
    rfl
  rw [e]
  unfold chr1 dg
  rw [if_pos (by rw [BitVec.toNat_ofNat]; omega)]
theorem digits_eq {n : Nat} (h : n < 9223372036854775808) : trouble_digits (n : Int) = some (digs n) := by
  unfold trouble_digits trouble_digits_l0
  simp only [lt_eq]
  rw [if_neg (by simp)]
  have key := loopO_inv (body := fun s => trouble_digits_b0 s.1 s.2) (fun s => ∃ c : Nat, s.1 = (c : Int) ∧ c + s.2.length ≤ n ∧ (s.2.length = 0 ∨ 1 ≤ c) ∧ digs c ++ s.2 = digs n) (fun s => s.1.toNat) (fun y => ∃ c : Nat, c < 10 ∧ y.1 = (c : Int) ∧ c + y.2.length ≤ n ∧ (y.2.length = 0 ∨ 1 ≤ c) ∧ digs c ++ y.2 = digs n) (s := ((n : Int), ([] : List (BitVec 8)))) ?_ ⟨n, rfl, by simp, .inl rfl, by simp⟩
  · obtain ⟨⟨y1, y2⟩, h1, c, h2, rfl, h3, h5, h4⟩ := key
    simp only at h3 h4 h5
    rw [h1, Option.bind_some, chr_dg (by omega) (by omega), Option.bind_some, cat_eq (by simp; omega), Option.bind_some, ← h4]
    conv => rhs; rw [digs, if_pos h2]
    simp
  · rintro ⟨s1, s2⟩ ⟨c, h1, h2, h5, h3⟩
    simp only at h1 h2 h3 h5
    subst h1
    unfold trouble_digits_b0
    simp only [lt_eq]
    by_cases hc : 10 ≤ c
    · left
      have em : Int.tmod (c : Int) 10 = ((c % 10 : Nat) : Int) := by rw [Int.tmod_eq_emod_of_nonneg (by omega)]; rfl
      have eq : quo64 (c : Int) 10 = ((c / 10 : Nat) : Int) := by
        unfold quo64
        rw [Int.tdiv_eq_ediv_of_nonneg (by omega), w64_eq (by omega) (by omega)]
        omega
      rw [if_pos (decide_eq_true (by omega)), em, chr_dg (by omega) (by omega), Option.bind_some, cat_eq (by simp; omega), Option.bind_some, eq]
      refine ⟨_, rfl, ⟨c / 10, rfl, by simp; omega, .inr (by omega), ?_⟩, by simp only; omega⟩
      rw [← h3]
      conv => rhs; rw [digs, if_neg (by omega)]
      have : dg ((c % 10 : Nat) : Int).toNat = dg c := by
        unfold dg
        rw [Int.toNat_natCast, Nat.mod_mod]
      rw [this]
      simp
    · right
      rw [if_neg (by simp; omega)]
      exact ⟨_, rfl, c, by omega, rfl, h2, h5, h3⟩
theorem cut_dg : ∀ n < 10, cutO ([48#8, 49#8, 50#8, 51#8, 52#8, 53#8, 54#8, 55#8, 56#8, 57#8] : List (BitVec 8)) ((n : Nat) : Int) (((n : Nat) : Int) + 1) = some [dg n] := by decide
theorem digs_len : ∀ (k n : Nat), n < 10 ^ k → (digs n).length ≤ k + 1
  | 0, n, h => by
    rw [digs, if_pos (by omega)]; simp
  | k + 1, n, h => by
    rw [digs]
    split
    · simp
    · have := digs_len k (n / 10) (by rw [Nat.pow_succ] at h; omega)
      simp
      omega
theorem digitsF_n : ∀ (k n : Nat), n < 10 ^ k → n < 9223372036854775808 → ∀ m, k ≤ m → butteryref01_Digits_n (m + 1) (n : Int) = some (digs n)
  | 0, n, h, hb, m, hm => by
    have : n = 0 := by omega
    subst this
    show butteryref01_Digits_F (butteryref01_Digits_n m) ((0 : Nat) : Int) = _
    unfold butteryref01_Digits_F
    simp only [lt_eq]
    rw [if_neg (by decide), if_pos (by decide), w64_eq (by omega) (by omega), cut_dg 0 (by omega), Option.bind_some, digs, if_pos (by omega)]
  | k + 1, n, h, hb, m, hm => by
    show butteryref01_Digits_F (butteryref01_Digits_n m) (n : Int) = _
    unfold butteryref01_Digits_F
    simp only [lt_eq]
    rw [if_neg (by simp)]
    by_cases h10 : n < 10
    · rw [if_pos (decide_eq_true (by omega)), w64_eq (by omega) (by omega), cut_dg n h10, Option.bind_some, digs, if_pos h10]
    · obtain ⟨m', rfl⟩ : ∃ m', m = m' + 1 := ⟨m - 1, by omega⟩
      have em : Int.tmod (n : Int) 10 = ((n % 10 : Nat) : Int) := by rw [Int.tmod_eq_emod_of_nonneg (by omega)]; rfl
      have eq : quo64 (n : Int) 10 = ((n / 10 : Nat) : Int) := by
        unfold quo64
        rw [Int.tdiv_eq_ediv_of_nonneg (by omega), w64_eq (by omega) (by omega)]
        omega
      have h' : n / 10 < 10 ^ k := by rw [Nat.pow_succ] at h; omega
      have hl := digs_len 20 (n / 10) (by have : 10 ^ 20 = 100000000000000000000 := rfl; omega)
      rw [if_neg (by simp; omega), eq, digitsF_n k (n / 10) h' (by omega) m' (by omega), Option.bind_some, em, w64_eq (by omega) (by omega), cut_dg (n % 10) (by omega), Option.bind_some, cat_eq (by simp; omega), Option.bind_some]
      conv => rhs; rw [digs, if_neg h10]
      have : dg (n % 10) = dg n := by unfold dg; rw [Nat.mod_mod]
      rw [this]
theorem digitsF_eq {n : Nat} (h : n < 9223372036854775808) : butteryref01_Digits (n : Int) = some (digs n) := by
  unfold butteryref01_Digits
  exact digitsF_n 20 n (by have : 10 ^ 20 = 100000000000000000000 := rfl; omega) h 999999 (by omega)
/-- A link, as a text. -/
def piece (x : api_Step) : List (BitVec 8) := x.Op ++ ((if 0 ≤ x.At then 32#8 :: digs x.At.toNat else []) ++ if x.Code = 0 then [] else [32#8, 99#8, 111#8, 100#8, 101#8, 32#8] ++ digs x.Code.toNat)
def digI (n : Int) : List (BitVec 8) := if n < 0 then [63#8] else digs n.toNat
theorem digI_eq {n : Int} (h : n < 9223372036854775808) : trouble_digits n = some (digI n) ∧ butteryref01_Digits n = some (digI n) ∧ (digI n).length ≤ 21 := by
  unfold digI
  by_cases h0 : n < 0
  · rw [if_pos h0]
    refine ⟨?_, ?_, by simp⟩
    · unfold trouble_digits
      simp only [lt_eq]
      rw [if_pos (decide_eq_true h0)]
    · show butteryref01_Digits_F (butteryref01_Digits_n 999999) n = _
      unfold butteryref01_Digits_F
      simp only [lt_eq]
      rw [if_pos (decide_eq_true h0)]
  · rw [if_neg h0]
    obtain ⟨m, rfl⟩ : ∃ m : Nat, n = (m : Int) := ⟨n.toNat, by omega⟩
    rw [Int.toNat_natCast]
    exact ⟨digits_eq (by omega), digitsF_eq (by omega), digs_len 20 m (by have : 10 ^ 20 = 100000000000000000000 := rfl; omega)⟩
/-- What is made. -/
theorem made_eq (c : Int) (l : List api_Step) : ∃ e, butterylaw01_made c l = some (e, lnk e) ∧ (lnk e).length ≤ 31 ∧ codeOf e = c ∧ (e.isNil = decide (c = 0)) ∧ ∀ k, hasE e k = (k == c && c != 0) := by
  obtain ⟨e0, h1, h2, h3⟩ := new1_eq [102#8, 105#8, 114#8, 115#8, 116#8] 0 c
  unfold butterylaw01_made butterylaw01_made_l0
  rw [h1, Option.bind_some, h2, Option.bind_some]
  have key := loopO_inv (body := fun s => butterylaw01_made_b0 l s.1 s.2.1 s.2.2) (fun s => ∃ (e : Err) (j : Nat), s = (e, lnk e, (j : Int)) ∧ j ≤ 30 ∧ j ≤ l.length ∧ (lnk e).length ≤ j + 1 ∧ codeOf e = c ∧ (e.isNil = decide (c = 0)) ∧ ∀ k, hasE e k = (k == c && c != 0)) (fun s => (30 - s.2.2).toNat) (fun y => ∃ e : Err, y = (e, lnk e) ∧ (lnk e).length ≤ 31 ∧ codeOf e = c ∧ (e.isNil = decide (c = 0)) ∧ ∀ k, hasE e k = (k == c && c != 0)) (s := (e0, lnk e0, (0 : Int))) ?_ ⟨e0, 0, rfl, by omega, by omega, ?_, ?_⟩
  · obtain ⟨y, k1, e, rfl, k2⟩ := key
    rw [k1, Option.bind_some]
    exact ⟨e, rfl, k2⟩
  · rintro s ⟨e, j, rfl, hj, hjl, hlen, hc, hn, hh⟩
    unfold butterylaw01_made_b0
    simp only [lt_eq]
    by_cases hg : j < l.length ∧ j < 30
    · left
      rw [if_pos (decide_eq_true (by omega)), Option.bind_some, if_pos (decide_eq_true (by omega)), ix_nat hg.1]
      simp only [Option.bind_some]
      rw [wrap1_eq, Option.bind_some, wrapF_eq _ _ (by omega), Option.bind_some, w64_nat (by omega)]
      have hw := wrp_len l[j].Op l[j].At e
      refine ⟨_, rfl, ⟨wrp l[j].Op l[j].At e, j + 1, rfl, by omega, by omega, by omega, ?_, ?_, fun k => ?_⟩, by simp only; omega⟩
      · unfold wrp
        split
        · rename_i hnil
          cases e with
          | nil => exact hc
          | fault => simp [Err.isNil] at hnil
        · simpa [codeOf] using hc
      · unfold wrp
        split
        · rename_i hnil; rw [← hn, hnil]; rfl
        · rename_i hnil; rw [← hn]; exact (Bool.eq_false_iff.2 hnil).symm
      · rw [← hh k]
        unfold wrp
        split
        · rename_i hnil
          cases e with
          | nil => rfl
          | fault => simp [Err.isNil] at hnil
        · simp [hasE]
    · right
      have : (if decide ((j : Int) < l.length) = true then some (decide ((j : Int) < 30)) else some false) = some false := by
        by_cases h : j < l.length
        · rw [if_pos (decide_eq_true (by omega)), decide_eq_false (by omega)]
        · rw [if_neg (by simp; omega)]
      rw [this, Option.bind_some, if_neg (by decide)]
      exact ⟨_, rfl, e, rfl, by omega, hc, hn, hh⟩
  · rcases h3 with ⟨_, rfl⟩ | ⟨_, rfl⟩ <;> simp [lnk]
  · rcases h3 with ⟨rfl, rfl⟩ | ⟨h0, rfl⟩
    · exact ⟨rfl, rfl, fun k => by simp [hasE]⟩
    · refine ⟨by simp [codeOf, h0], by simp [Err.isNil, h0], fun k => ?_⟩
      simp only [hasE, Bool.or_false]
      rw [Bool.eq_iff_iff, Bool.and_eq_true, Bool.and_eq_true, beq_iff_eq, beq_iff_eq]
      exact ⟨fun h => ⟨h.1.symm, h.2⟩, fun h => ⟨h.1.symm, h.2⟩⟩
end Go.Proofs.YtekldjimdmkgaaaDoor
namespace Go.Proofs.YtekldjimdmkgaaaDoor
open Go Go.Va
set_option linter.unusedVariables false
set_option linter.unusedSimpArgs false
def pc (x : api_Step) : List (BitVec 8) := x.Op ++ ((if 0 ≤ x.At then [32#8] ++ digI x.At else []) ++ (if x.Code = 0 then [] else [32#8, 99#8, 111#8, 100#8, 101#8, 32#8] ++ digI x.Code))
def tp (l : List api_Step) : Nat → List (BitVec 8)
  | 0 => []
  | j + 1 => (tp l j ++ (if 0 < j then [58#8, 32#8] else [])) ++ match l[j]? with
    | some x => pc x
    | none => []
def okL (l : List api_Step) : Prop := l.length ≤ 100 ∧ ∀ x ∈ l, x.Op.length ≤ 1125899906842624 ∧ x.At < 9223372036854775808 ∧ x.Code < 9223372036854775808
theorem pc_len {x : api_Step} (h : x.Op.length ≤ 1125899906842624 ∧ x.At < 9223372036854775808 ∧ x.Code < 9223372036854775808) : (pc x).length ≤ 1125899906842700 := by
  have h1 := (digI_eq h.2.1).2.2
  have h2 := (digI_eq h.2.2).2.2
  unfold pc
  split <;> split <;> simp <;> omega
theorem tp_len {l : List api_Step} (h : okL l) : ∀ j, j ≤ l.length → (tp l j).length ≤ j * 1125899906842702
  | 0, _ => by simp [tp]
  | j + 1, hj => by
    have h1 := tp_len h j (by omega)
    have h2 := pc_len (h.2 l[j] (List.getElem_mem (by omega)))
    simp only [tp, List.getElem?_eq_getElem (show j < l.length by omega), List.length_append]
    split <;> simp <;> omega
theorem textB {l : List api_Step} (h : okL l) (j : Nat) (hj : j < l.length) : trouble_Text_b0 l (l.length : Int) (tp l j) (j : Int) = some (.inl (tp l (j + 1), ((j + 1 : Nat) : Int))) := by
  have hb := tp_len h j (by omega)
  have hx := h.2 l[j] (List.getElem_mem hj)
  have d1 := digI_eq hx.2.1
  have d2 := digI_eq hx.2.2
  have hl := h.1
  unfold trouble_Text_b0
  simp only [lt_eq]
  rw [if_pos (decide_eq_true (by omega)), ix_nat hj, Option.bind_some]
  have e1 : (if decide ((j : Int) > 0) = true then (cat (tp l j) [58#8, 32#8]).bind fun v34 => some v34 else some (tp l j)) = some (tp l j ++ (if 0 < j then [58#8, 32#8] else [])) := by
    by_cases h0 : 0 < j
    · rw [if_pos (decide_eq_true (by omega)), cat_eq (by simp; omega), if_pos h0]; rfl
    · rw [if_neg (by simp; omega), if_neg h0, List.append_nil]
  rw [e1, Option.bind_some]
  have hq : (tp l j ++ (if 0 < j then [58#8, 32#8] else [])).length ≤ (tp l j).length + 2 := by split <;> simp
  generalize hqq : tp l j ++ (if 0 < j then [58#8, 32#8] else []) = q at hq
  rw [cat_eq (by omega), Option.bind_some]
  have e2 : (if decide (l[j].At ≥ 0) = true then (trouble_digits l[j].At).bind fun v46 => (cat [32#8] v46).bind fun v48 => (cat (q ++ l[j].Op) v48).bind fun v50 => some v50 else some (q ++ l[j].Op)) = some (q ++ l[j].Op ++ (if 0 ≤ l[j].At then [32#8] ++ digI l[j].At else [])) := by
    by_cases h0 : 0 ≤ l[j].At
    · rw [if_pos (decide_eq_true h0), d1.1, Option.bind_some, cat_eq (by simp; omega), Option.bind_some, cat_eq (by simp; omega), if_pos h0]; rfl
    · rw [if_neg (by simpa using h0), if_neg h0, List.append_nil]
  rw [e2, Option.bind_some]
  have e3 : tp l (j + 1) = q ++ pc l[j] := by
    simp only [tp, List.getElem?_eq_getElem hj, hqq]
  have hr : (q ++ l[j].Op ++ (if 0 ≤ l[j].At then [32#8] ++ digI l[j].At else [])).length ≤ q.length + l[j].Op.length + 22 := by split <;> simp <;> omega
  rw [e3]
  unfold pc
  by_cases hc : l[j].Code = 0
  · rw [if_neg (by simp [hc]), if_pos hc, w64_nat (by omega)]
    simp only [List.append_nil, List.append_assoc]
  · rw [if_pos (by simp [hc]), if_neg hc, d2.1, Option.bind_some, cat_eq (by simp; omega), Option.bind_some, cat_eq (by simp only [List.length_append, List.length_cons, List.length_nil] at hr ⊢; omega), Option.bind_some, w64_nat (by omega)]
    simp only [List.append_assoc]
theorem textFB {l : List api_Step} (h : okL l) (j : Nat) (hj : j < l.length) : butteryref01_Text_b0 l (tp l j) (j : Int) = some (.inl (tp l (j + 1), ((j + 1 : Nat) : Int))) := by
  have hb := tp_len h j (by omega)
  have hx := h.2 l[j] (List.getElem_mem hj)
  have d1 := digI_eq hx.2.1
  have d2 := digI_eq hx.2.2
  have hl := h.1
  unfold butteryref01_Text_b0
  simp only [lt_eq]
  rw [if_pos (decide_eq_true (by omega)), ix_nat hj]
  simp only [Option.bind_some]
  have e1 : (if decide ((j : Int) > 0) = true then (cat (tp l j) [58#8, 32#8]).bind fun v34 => some v34 else some (tp l j)) = some (tp l j ++ (if 0 < j then [58#8, 32#8] else [])) := by
    by_cases h0 : 0 < j
    · rw [if_pos (decide_eq_true (by omega)), cat_eq (by simp; omega), if_pos h0]; rfl
    · rw [if_neg (by simp; omega), if_neg h0, List.append_nil]
  rw [e1, Option.bind_some]
  have hq : (tp l j ++ (if 0 < j then [58#8, 32#8] else [])).length ≤ (tp l j).length + 2 := by split <;> simp
  generalize hqq : tp l j ++ (if 0 < j then [58#8, 32#8] else []) = q at hq
  rw [cat_eq (by omega), Option.bind_some]
  have e2 : (if decide (l[j].At ≥ 0) = true then (cat (q ++ l[j].Op) [32#8]).bind fun v41 => (butteryref01_Digits l[j].At).bind fun v45 => (cat v41 v45).bind fun v47 => some v47 else some (q ++ l[j].Op)) = some (q ++ l[j].Op ++ (if 0 ≤ l[j].At then [32#8] ++ digI l[j].At else [])) := by
    by_cases h0 : 0 ≤ l[j].At
    · rw [if_pos (decide_eq_true h0), cat_eq (by simp; omega), Option.bind_some, d1.2.1, Option.bind_some, cat_eq (by simp; omega), if_pos h0]; simp
    · rw [if_neg (by simpa using h0), if_neg h0, List.append_nil]
  rw [e2, Option.bind_some]
  have e3 : tp l (j + 1) = q ++ pc l[j] := by
    simp only [tp, List.getElem?_eq_getElem hj, hqq]
  have hr : (q ++ l[j].Op ++ (if 0 ≤ l[j].At then [32#8] ++ digI l[j].At else [])).length ≤ q.length + l[j].Op.length + 22 := by split <;> simp <;> omega
  rw [e3]
  unfold pc
  by_cases hc : l[j].Code = 0
  · rw [if_neg (by simp [hc]), if_pos hc, w64_nat (by omega)]
    simp only [List.append_nil, List.append_assoc]
  · rw [if_pos (by simp [hc]), if_neg hc, cat_eq (by simp only [List.length_append, List.length_cons, List.length_nil] at hr ⊢; omega), Option.bind_some, d2.2.1, Option.bind_some, cat_eq (by simp only [List.length_append, List.length_cons, List.length_nil] at hr ⊢; omega), Option.bind_some, w64_nat (by omega)]
    simp only [List.append_assoc]
theorem text_eq {e : Err} (h : okL (lnk e)) : trouble_Text e = some (tp (lnk e) (lnk e).length) ∧ butteryref01_Text (lnk e) = some (tp (lnk e) (lnk e).length) := by
  have hl := h.1
  constructor
  · unfold trouble_Text trouble_Text_l0
    rw [chain_eq (by omega), Option.bind_some]
    simp only [lt_eq]
    have key := loopO_up (body := fun s => trouble_Text_b0 (lnk e) ((lnk e).length : Int) s.1 s.2) (fun j => (tp (lnk e) j, (j : Int))) (lnk e).length (x := tp (lnk e) (lnk e).length) (fun j hj => textB h j hj) (by
      unfold trouble_Text_b0
      simp only [lt_eq]
      rw [if_neg (by simp)])
    rw [show ((([] : List (BitVec 8)), (0 : Int))) = (tp (lnk e) 0, ((0 : Nat) : Int)) from rfl, key]
    rfl
  · unfold butteryref01_Text butteryref01_Text_l0
    have key := loopO_up (body := fun s => butteryref01_Text_b0 (lnk e) s.1 s.2) (fun j => (tp (lnk e) j, (j : Int))) (lnk e).length (x := tp (lnk e) (lnk e).length) (fun j hj => textFB h j hj) (by
      unfold butteryref01_Text_b0
      simp only [lt_eq]
      rw [if_neg (by simp)])
    rw [show ((([] : List (BitVec 8)), (0 : Int))) = (tp (lnk e) 0, ((0 : Nat) : Int)) from rfl, key]
    rfl
theorem works01 : butterylaw01_works = some true := by
  unfold butterylaw01_works
  have e1 : trouble_New [112#8, 97#8, 103#8, 101#8] 7 8 = some (.fault [112#8, 97#8, 103#8, 101#8] 7 8 .nil) := by simp [trouble_New, lt_eq]
  have e2 : trouble_New [120#8] 1 0 = some .nil := by simp [trouble_New, lt_eq]
  let e : Err := .fault [114#8, 101#8, 97#8, 100#8] 3 0 (.fault [112#8, 97#8, 103#8, 101#8] 7 8 .nil)
  have e3 : trouble_Wrap [114#8, 101#8, 97#8, 100#8] 3 (.fault [112#8, 97#8, 103#8, 101#8] 7 8 .nil) = some e := by rw [wrap1_eq]; rfl
  have hl : (lnk e).length = 2 := rfl
  have hw := where_eq (e := e) (by omega)
  have hok : okL (lnk e) := ⟨by omega, fun x hx => by
    have : x = ⟨[114#8, 101#8, 97#8, 100#8], 3, 0⟩ ∨ x = ⟨[112#8, 97#8, 103#8, 101#8], 7, 8⟩ := by simpa [lnk, e] using hx
    rcases this with rfl | rfl <;> decide⟩
  have ht := (text_eq hok).1
  have hc := chain_eq (e := e) (by omega)
  have hd : digs 3 = [51#8] ∧ digs 7 = [55#8] ∧ digs 8 = [56#8] := by
    refine ⟨?_, ?_, ?_⟩ <;> (rw [digs, if_pos (by omega)]; rfl)
  have htv : tp (lnk e) (lnk e).length = [114#8, 101#8, 97#8, 100#8, 32#8, 51#8, 58#8, 32#8, 112#8, 97#8, 103#8, 101#8, 32#8, 55#8, 32#8, 99#8, 111#8, 100#8, 101#8, 32#8, 56#8] := by
    have d3 : digI 3 = [51#8] := hd.1
    have d7 : digI 7 = [55#8] := hd.2.1
    have d8 : digI 8 = [56#8] := hd.2.2
    simp [tp, lnk, e, pc, d3, d7, d8]
  rw [htv] at ht
  rw [e1, Option.bind_some, e3, Option.bind_some, hw, Option.bind_some]
  simp only [trouble_Of, trouble_Has, Option.bind_some, lt_eq]
  rw [ht, Option.bind_some, e2, Option.bind_some, hc, Option.bind_some]
  simp [codeOf, hasE, inAt, lnk, e, Err.isNil]
end Go.Proofs.YtekldjimdmkgaaaDoor
namespace Go.Va
open Go Go.RowKit
set_option linter.unusedVariables false
set_option linter.unusedSimpArgs false
/-- Data of a type, none of which weighs more than there is room for. -/
def OpensW (P : Program) (t : TypeId) {α : Type} (e : α → AV) (wf : α → Prop) : Prop :=
  ∀ {H : Type} (enc : TypeId × Value → H) (w : World) (fuel : Nat) (cs : List Value) (x : DataW H × List MemPlace), DataW.trod enc P w 0 (fun _ => true) true fuel t cs = some x → (∀ n ∈ x.1.weights P t, n ≤ reachBytes) → ∃ y : α, wf y ∧ RelL (argG w) cs (e y).cells ∧ ∀ v ∈ cs, v.oneCell' = true
def wfZ (s : List (BitVec 8)) : Prop := s.length ≤ 140737488351232
section
variable {P : Program} {Ty : TypeId → Option TI} {t E : TypeId}
theorem Opens.w {α : Type} {e : α → AV} {wf : α → Prop} (h : Opens P t e wf) : OpensW P t e wf := fun enc w fuel cs x hx _ => h enc w fuel cs x hx
theorem opensW_s (h : P.underlying t = some .string) : OpensW P t eS wfZ := by
  intro H enc w fuel cs x hx hwt
  obtain ⟨s, rfl, he, hs⟩ := DataW.trod_string h hx
  refine ⟨s.data.toList.map (·.toBitVec), ?_, ?_, by simp [Value.oneCell']⟩
  · have := hwt s.data.toList.length (by rw [he]; simp [DataW.weights])
    unfold wfZ
    rw [List.length_map]
    exact this
  · show RelL _ _ [AV.str _]
    rw [mkB_of]
    exact (RelL.nil _).cons (.str _)
theorem weights_all {H : Type} {d : DataW H} {n : Nat} : ∀ {ds : List (DataW H)}, d ∈ ds → n ∈ d.weights P E → n ∈ DataW.weightsAll P E ds
  | d0 :: ds, hd, hn => by
    simp only [DataW.weightsAll, List.mem_append]
    rcases List.mem_cons.1 hd with rfl | hd
    · exact .inl hn
    · exact .inr (weights_all hd hn)
theorem opensW_l (hT : TyOk P Ty) {sz : Nat} {α : Type} {e : α → AV} {wf : α → Prop} (h : P.underlying t = some (.slice E)) (he : Enc Ty E sz e) (ho : OpensW P E e wf) : OpensW P t (eL sz e) (wfL wf) := by
  intro H enc w fuel cs x hx hwt
  rcases DataW.trod_slice h hx with ⟨rfl, _⟩ | ⟨a, len, cap, elems, rest, n, _, rfl, hxe, _, hlc, hcm, hel, hat, _, _⟩
  · exact ⟨[], ⟨Nat.zero_le _, fun x hx => by cases hx⟩, (RelL.nil _).cons (.sl0 none 0 .no sz (Nat.zero_le _) (.inl rfl)), by simp [Value.oneCell']⟩
  · rw [cellsOf_sz hT he.ty he.pos] at hat
    have key : ∀ i, i < len → ∃ cs' y, w.cells? 0 (a.add (i * sz)) sz = some cs' ∧ wf y ∧ RelL (argG w) cs' (e y).cells ∧ ∀ v ∈ cs', v.oneCell' = true := fun i hi => by
      have h1 := hat i hi
      rw [List.getElem?_eq_getElem (by omega)] at h1
      obtain ⟨cs', h2, h3⟩ := Option.bind_eq_some_iff.1 h1
      obtain ⟨y, h4, h5, h6⟩ := ho enc w n cs' _ h3 (fun m hm => hwt m (by
        rw [hxe]
        simp only [DataW.weights, h, List.mem_cons, List.mem_append]
        exact .inr (.inl (weights_all (List.mem_map.2 ⟨_, List.getElem_mem _, rfl⟩) hm))))
      exact ⟨cs', y, h2, h4, h5, h6⟩
    -- the values, one by one
    have all : ∀ m, m ≤ len → ∃ ys : List α, ys.length = m ∧ (∀ y ∈ ys, wf y) ∧ ∀ (i : Nat) (y : α), ys[i]? = some y → ∃ cs', w.cells? 0 (a.add (i * sz)) sz = some cs' ∧ RelL (argG w) cs' (e y).cells ∧ ∀ v ∈ cs', v.oneCell' = true := by
      intro m
      induction m with
      | zero => exact fun _ => ⟨[], rfl, (fun y hy => by cases hy), fun i y hy => by simp at hy⟩
      | succ m ih =>
        intro hm
        obtain ⟨ys, h1, h2, h3⟩ := ih (by omega)
        obtain ⟨cs', y, k1, k2, k3, k4⟩ := key m (by omega)
        refine ⟨ys ++ [y], by simp [h1], fun z hz => ?_, fun i z hz => ?_⟩
        · rcases List.mem_append.1 hz with hz | hz
          · exact h2 z hz
          · simp at hz; subst hz; exact k2
        · rw [List.getElem?_append] at hz
          split at hz
          · exact h3 i z hz
          · rename_i hi
            have : i - ys.length = 0 := by
              rcases Nat.eq_zero_or_pos (i - ys.length) with h0 | h0
              · exact h0
              · rw [List.getElem?_eq_none (by simp; omega)] at hz; cases hz
            rw [this] at hz
            simp at hz
            subst hz
            rw [show i = m by omega]
            exact ⟨cs', k1, k3, k4⟩
    obtain ⟨ys, h1, h2, h3⟩ := all len (Nat.le_refl _)
    refine ⟨ys, ⟨by omega, h2⟩, (RelL.nil _).cons ?_, by simp [Value.oneCell']⟩
    have hz : ∀ z ∈ ys.map e, z.cells.length = sz := fun z hz => by obtain ⟨y, _, rfl⟩ := List.mem_map.1 hz; exact he.len y
    cases ys with
    | nil =>
      simp at h1
      subst h1
      exact .sl0 _ _ .no sz hcm (.inl rfl)
    | cons y0 ys0 =>
      have hsp : a.spot = none := by
        obtain ⟨cs', k1, _, _⟩ := h3 0 y0 rfl
        obtain ⟨_, k2, k3⟩ := World.cells?_some k1
        have := k3 0 (Nat.pos_of_ne_zero he.pos)
        rw [Nat.zero_mul] at this
        have e0 : (a.add 0).add 0 = a := by simp [Addr.add]
        rw [e0, List.getElem?_eq_getElem (by have := Nat.pos_of_ne_zero he.pos; omega)] at this
        exact World.cell?_spot this
      obtain ⟨b, o, sp⟩ := a
      simp only at hsp
      subst hsp
      have hl : ((y0 :: ys0).map e).length = len := by rw [List.length_map]; exact h1
      have hcell : ∀ (i : Nat) (z : AV) (j : Nat) (u : AV), ((y0 :: ys0).map e)[i]? = some z → z.cells[j]? = some u → ∃ v, w.cell? ⟨b, o + i * sz + j, none⟩ = some v ∧ v.oneCell' = true ∧ Rel (argG w) v u := by
        intro i z j u e1 e2
        rw [List.getElem?_map, Option.map_eq_some_iff] at e1
        obtain ⟨y, e1, rfl⟩ := e1
        obtain ⟨cs', k1, k2, k3⟩ := h3 i y e1
        obtain ⟨_, k4, k5⟩ := World.cells?_some k1
        obtain ⟨v, hv, hr⟩ := k2.get e2
        have hj : j < sz := by rw [← k4]; exact (List.getElem?_eq_some_iff.1 hv).1
        have := k5 j hj
        rw [Addr.add_lit, Addr.add_lit, hv] at this
        exact ⟨v, this, k3 v (List.mem_of_getElem? hv), hr⟩
      have key2 := Rel.sl (G := argG w) b o cap .no sz ((y0 :: ys0).map e) (fun i j => (w.cell? ⟨b, o + i * sz + j, none⟩).getD undef) (by rw [hl]; exact hlc) hcm hz (fun i z j u e1 e2 => by
        obtain ⟨v, k1, k2, k3⟩ := hcell i z j u e1 e2
        rw [k1]
        exact argG_fz k1 k2) (fun i z j u e1 e2 => by
        obtain ⟨v, k1, k2, k3⟩ := hcell i z j u e1 e2
        rw [k1]
        exact k3) trivial
      rw [hl] at key2
      exact key2
theorem opensW_f {fs : Array Field} {α : Type} {e : α → AV} {wf : α → Prop} {H : Type} {enc : TypeId × Value → H} {w : World} {m : Nat} {cs : List Value} {xs : List (DataW H × List MemPlace)} (hx : ∀ (i : Nat) (f : Field), fs[i]? = some f → DataW.trod enc P w 0 (fun _ => true) true m f.type ((cs.drop f.offset).take (P.cellsOf f.type)) = xs[i]?) (hl : xs.length = fs.size) (hwt : ∀ n ∈ DataW.weightsEach P (fs.toList.map (·.type)) (xs.map (·.1)), n ≤ reachBytes)
    (i : Nat) {f : Field} {o s : Nat} (hf : fs[i]? = some f) (ht : OpensW P f.type e wf) (ho : f.offset = o) (hs : P.cellsOf f.type = s) : ∃ y, wf y ∧ RelL (argG w) ((cs.drop o).take s) (e y).cells ∧ ∀ v ∈ (cs.drop o).take s, v.oneCell' = true := by
  subst ho; subst hs
  have h1 := hx i f hf
  have hi : i < fs.size := (Array.getElem?_eq_some_iff.1 hf).1
  rw [List.getElem?_eq_getElem (by omega)] at h1
  refine ht enc w m _ _ h1 fun n hn => hwt n (DataW.weights_mem_each (j := i) (t := f.type) ?_ ?_ n hn)
  · rw [List.getElem?_map]
    have : fs.toList[i]? = some f := by simpa using hf
    rw [this]; rfl
  · rw [List.getElem?_map, List.getElem?_eq_getElem (by omega)]; rfl
theorem OpensW.arg {α : Type} {e : α → AV} {wf : α → Prop} (ho : OpensW P t e wf) {sz : Nat} (he : Enc Ty t sz e) (hd : TdOk P t (tdOf Ty t)) {H : Type} {enc : TypeId × Value → H} {w : World} {r : Reach} {b0 : Nat} {v : Value} {d : DataW H} {ps : List MemPlace} (hval : Value.okWide P w r b0 t v) (h : DataW.Trod enc P w 0 (fun _ => true) true t v d ps) (hwt : ∀ n ∈ d.weights P t, n ≤ reachBytes) : ∃ y : α, wf y ∧ Rel (argG w) v (e y) := by
  obtain ⟨fuel, hf⟩ := h
  obtain ⟨y, h1, h2, _⟩ := ho enc w fuel _ _ hf hwt
  refine ⟨y, h1, ?_⟩
  cases ha : isAggTD (tdOf Ty t) with
  | true =>
    have : ∃ cs, v = .agg cs := by
      cases htd : tdOf Ty t <;> rw [htd] at ha hd <;> simp [isAggTD] at ha
      · simp only [TdOk] at hd
        simp only [Value.okWide, hd] at hval
        obtain ⟨cs, h, _⟩ := hval; exact ⟨cs, h⟩
      · simp only [TdOk] at hd
        obtain ⟨fs, hd, _⟩ := hd
        simp only [Value.okWide, hd] at hval
        obtain ⟨cs, h, _⟩ := hval; exact ⟨cs, h⟩
    obtain ⟨cs, rfl⟩ := this
    rw [he.agg ha y]
    exact mkAgg (by simpa [Value.cells] using h2)
  | false =>
    rw [he.one ha y] at h2
    have hne : ∀ cs, v ≠ .agg cs := by
      rintro cs rfl
      have hl := h2.len
      simp only [Value.cells, List.length_singleton] at hl
      cases htd : tdOf Ty t <;> rw [htd] at ha hd <;> simp [isAggTD] at ha <;> simp only [TdOk] at hd
      case iface => obtain ⟨ms, hd⟩ := hd; simp [Value.okWide, hd, Cell.okWide, Cell.ok] at hval
      case func => obtain ⟨ps, rs, vv, hd⟩ := hd; simp [Value.okWide, hd, Cell.okWide, Cell.ok] at hval
      all_goals simp [Value.okWide, hd, Cell.okWide, Cell.ok] at hval
    have hc : v.cells.toList = [v] := by cases v <;> first | rfl | exact absurd rfl (hne _)
    rw [hc] at h2
    exact h2.at_ 0 v (e y) rfl rfl
end
end Go.Va
namespace Go.Proofs.YtekldjimdmkgaaaDoor
open Go Go.Va
set_option linter.unusedVariables false
set_option linter.unusedSimpArgs false
def wz_api_Step (x : api_Step) : Prop := wfZ x.Op ∧ wfI .i64 x.At ∧ wfI .i64 x.Code
def okE (e : Err) : Prop := ∀ x ∈ lnk e, x.Op.length ≤ 1125899906842624 ∧ x.At < 9223372036854775808 ∧ x.Code < 9223372036854775808
theorem okE_wrp {e : Err} {o : List (BitVec 8)} {a : Int} (h : okE e) (ho : wfZ o) (ha : wfI .i64 a) : okE (wrp o a e) := by
  unfold wrp
  split
  · intro x hx; cases hx
  · intro x hx
    rcases List.mem_cons.1 hx with rfl | hx
    · have := wfI_i64 ha
      unfold wfZ at ho
      exact ⟨by simp only; omega, by simp only; omega, by simp⟩
    · exact h x hx
theorem TroubleTells_pure (o : List (BitVec 8)) (a c : Int) (l : List api_Step) (ho : wfZ o) (ha : wfI .i64 a) (hc : wfI .i64 c) (hl : wfL wz_api_Step l) : butterylaw01_TroubleTells o a c l = some true := by
  obtain ⟨e0, h1, h2, h3⟩ := new1_eq o a c
  have l0 : (lnk e0).length ≤ 1 := by rcases h3 with ⟨_, rfl⟩ | ⟨_, rfl⟩ <;> simp [lnk]
  have k0 : okE e0 := by
    rcases h3 with ⟨_, rfl⟩ | ⟨_, rfl⟩
    · intro x hx; cases hx
    · intro x hx
      rcases List.mem_cons.1 hx with rfl | hx
      · have := wfI_i64 ha
        have := wfI_i64 hc
        unfold wfZ at ho
        exact ⟨by simp only; omega, by simp only; omega, by simp only; omega⟩
      · cases hx
  unfold butterylaw01_TroubleTells butterylaw01_TroubleTells_l0
  rw [h1, Option.bind_some, h2, Option.bind_some]
  simp only [lt_eq]
  have nl : ∀ e : Err, (((lnk e).length : Int) == (0 : Int)) = e.isNil := fun e => by
    rw [nil_lnk, Bool.eq_iff_iff, beq_iff_eq, decide_eq_true_eq]
    omega
  rw [nl, chain_eq (by omega), if_neg (by simp), Option.bind_some, same1_eq _ (by omega), Option.bind_some, Option.bind_some, if_neg (by simp)]
  have key := loopO_inv (body := fun s => butterylaw01_TroubleTells_b0 l s.1 s.2.1 s.2.2) (fun s => ∃ (e : Err) (j : Nat), s = (e, lnk e, (j : Int)) ∧ j ≤ 30 ∧ j ≤ l.length ∧ (lnk e).length ≤ j + 1 ∧ okE e) (fun s => (30 - s.2.2).toNat) (fun y => ∃ e : Err, y = .inl (e, lnk e) ∧ (lnk e).length ≤ 31 ∧ okE e) (s := (e0, lnk e0, (0 : Int))) ?_ ⟨e0, 0, rfl, by omega, by omega, l0, k0⟩
  · obtain ⟨y, k1, e, rfl, k2, k3⟩ := key
    rw [k1, Option.bind_some, Sum.elim_inl]
    simp only [trouble_Of, Option.bind_some]
    have ht := text_eq (e := e) ⟨by omega, k3⟩
    rw [nl, if_pos (by simp), chain_eq (by omega), Option.bind_some, same1_eq _ (by omega), Option.bind_some, if_pos rfl, ofF_eq1 (by omega), Option.bind_some, if_pos (by simp), ht.1, Option.bind_some, ht.2, Option.bind_some, if_pos (by simp), works01]
    rfl
  · rintro s ⟨e, j, rfl, hj, hjl, hlen, hok⟩
    unfold butterylaw01_TroubleTells_b0
    simp only [lt_eq]
    by_cases hg : j < l.length ∧ j < 30
    · left
      have hx := hl.2 l[j] (List.getElem_mem hg.1)
      have hw := wrp_len l[j].Op l[j].At e
      rw [if_pos (decide_eq_true (by omega)), Option.bind_some, if_pos (decide_eq_true (by omega)), ix_nat hg.1]
      simp only [Option.bind_some]
      rw [wrap1_eq, Option.bind_some, wrapF_eq _ _ (by omega), Option.bind_some, where_eq (by omega), Option.bind_some]
      generalize he' : wrp l[j].Op l[j].At e = e' at hw
      have hok' : okE e' := he' ▸ okE_wrp hok hx.1 hx.2.1
      have np : decide (((lnk e').length : Int) > 0) = !e'.isNil := by
        rw [nil_lnk]
        by_cases h : (lnk e').length = 0
        · simp [h]
        · rw [decide_eq_true (by omega), decide_eq_false h]; rfl
      rw [np]
      have cond : (if ((!e'.isNil) != (!e'.isNil)) = true then some true else if (!e'.isNil) = true then (ix (lnk e') (w64 (((lnk e').length : Int) - 1))).bind fun v82 => some (inAt e' != v82.At) else some false) = some false := by
        rw [if_neg (by simp)]
        by_cases hn : (lnk e').length = 0
        · rw [if_neg (by rw [nil_lnk]; simp [hn])]
        · rw [if_pos (by rw [nil_lnk]; simp [hn]), w64_eq (by omega) (by omega), show ((lnk e').length : Int) - 1 = (((lnk e').length - 1 : Nat) : Int) by omega, ix_get]
          have hlt : (lnk e').length - 1 < (lnk e').length := by omega
          rw [List.getElem?_eq_getElem hlt, Option.bind_some]
          unfold inAt
          rw [List.getLast?_eq_getElem?, List.getElem?_eq_getElem hlt]
          simp
      rw [cond, Option.bind_some, if_neg (by decide), w64_nat (by omega)]
      exact ⟨_, rfl, ⟨e', j + 1, rfl, by omega, by omega, by omega, hok'⟩, by simp only; omega⟩
    · right
      have : (if decide ((j : Int) < l.length) = true then some (decide ((j : Int) < 30)) else some false) = some false := by
        by_cases h : j < l.length
        · rw [if_pos (decide_eq_true (by omega)), decide_eq_false (by omega)]
        · rw [if_neg (by simp; omega)]
      rw [this, Option.bind_some, if_neg (by decide)]
      exact ⟨_, rfl, e, rfl, by omega, hok⟩
theorem opensWSt : OpensW Tryd.prog 32 e_api_Step wz_api_Step := by
  intro H enc w fuel cs x hx hwt
  obtain ⟨xs, m, _, he, hl, hn, hx⟩ := DataW.trod_struct Tryd.underlying32 hx
  rw [cellsOf_sz tk sz32 (by decide)] at hl
  have hwt' : ∀ n ∈ DataW.weightsEach Tryd.prog _ (xs.map (·.1)), n ≤ reachBytes := fun n hn => hwt n (by
    rw [he]
    simp only [DataW.weights, Tryd.underlying32]
    exact hn)
  obtain ⟨y0, w0, r0, o0⟩ := opensW_f hx hn hwt' 0 (o := 0) (s := 1) rfl (opensW_s Tryd.underlying9) rfl (cellsOf_sz tk sz9 (by decide))
  obtain ⟨y1, w1, r1, o1⟩ := opensW_f hx hn hwt' 1 (o := 1) (s := 1) rfl (Opens.w (opens_i64 Tryd.underlying3)) rfl (cellsOf_sz tk sz3 (by decide))
  obtain ⟨y2, w2, r2, o2⟩ := opensW_f hx hn hwt' 2 (o := 2) (s := 1) rfl (Opens.w (opens_i64 Tryd.underlying22)) rfl (cellsOf_sz tk sz22 (by decide))
  refine ⟨⟨y0, y1, y2⟩, ⟨w0, w1, w2⟩, ?_, ?_⟩
  · have h := (rel_piece r0 (rel_piece r1 (rel_piece r2 (rel_end hl))))
    rw [List.drop_zero] at h
    first | exact h | (simp only [List.append_nil, List.append_assoc] at h ⊢; exact h) | (simpa [AV.cells, e_api_Step, c_api_Step] using h)
  · have h := (one_piece o0 (one_piece o1 (one_piece o2 (one_end hl))))
    rw [List.drop_zero] at h
    exact h
end Go.Proofs.YtekldjimdmkgaaaDoor
namespace Go.Proofs.YtekldjimdmkgaaaDoor
open Go.ChangeShapes Go.WideShapes Go.RowKit
theorem own : ownKnob Tryd.prog.godebug = none := by kernel_rfl
theorem laidEt : Tryd.prog.globalNamed "errors.errorType" = some 0 := by kernel_rfl
theorem laidRt : (Tryd.prog.cutTypes.find? (·.1 == "internal/reflectlite.rtype")).map (·.2) = some 79 := by kernel_rfl
theorem laidRow : ((List.range 124).filter fun t => Tryd.prog.rowNamed t [101, 114, 114, 111, 114]) = [25] := by kernel_rfl
theorem laidSize : Tryd.prog.types.size = 124 := by kernel_rfl
def laidL {H : Type} : List (String × DataW H) := [("errors.errorType", Rows.laid_errors_errorType)]
theorem handle_of_laid {W : World} (h : laidMetH Tryd.prog laidL W) : W.cell? ⟨0, 0, none⟩ = some (.iface 79 (.agg #[.pointer (some ⟨1, 25, none⟩)])) := by
  have h' : laidMet Tryd.prog [] W ∧ handlesMet Tryd.prog laidL W := h
  obtain ⟨name, u, ty, e1, e2, e3, e4, e5⟩ := h'.2 _ (List.mem_singleton.2 rfl)
  have en : name = [101, 114, 114, 111, 114] := (Option.some.inj e1).symm
  subst en
  obtain rfl := Option.some.inj (laidRt.symm.trans e2)
  have hm : ty ∈ (List.range 124).filter fun t => Tryd.prog.rowNamed t [101, 114, 114, 111, 114] := List.mem_filter.2 ⟨List.mem_range.2 (by rw [← laidSize]; exact e3), e4⟩
  rw [laidRow] at hm
  obtain rfl := List.mem_singleton.1 hm
  have hh : typeHandle Tryd.prog 25 = .pointer (some ⟨1, 25, none⟩) := by kernel_rfl
  rw [hh] at e5
  simpa using World.var?_cell laidEt e5 0
/-- A world that meets the condition. -/
noncomputable def laidWorld (os : Os) : World :=
  let w0 := World.holding Tryd.prog os ⟨#[], #[], []⟩
  { w0 with heap := w0.heap.modify 0 fun
      | .cells _ t frozen => .cells #[.iface 79 (.agg #[.pointer (some ⟨1, 25, none⟩)])] t frozen
      | o => o }
theorem laidWorld_met (os : Os) (args : Array Value) : laidMetH Tryd.prog laidL ((laidWorld os).forCall (fun _ _ => 0) ⟨#[], args, []⟩).memory :=
  laidMetH_of_parts (laidMet_nil _ _) (by kernel_rfl)
theorem gls_met {W : World} (h : laidMetH Tryd.prog laidL W) : ∀ p ∈ gls, W.cell? p.1 = some p.2 := by
  intro p hp
  obtain rfl := List.mem_singleton.1 hp
  exact handle_of_laid h
theorem laidOut : laidOutB Tryd.prog = true := by kernel_rfl
end Go.Proofs.YtekldjimdmkgaaaDoor
