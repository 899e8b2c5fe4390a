/- Where nothing is wrong each hit is a write ahead of it, of that key, and value, and is not older than what its node served of the key. (part 4 of 5) -/
import Derived.Test.YtgeflfdonoicaaaDoorKJudgeFine3
import Derived.ChangeSame
import Derived.ChangeVars
import Derived.JoinedOf
import Derived.LaidHandle
import Derived.LaidLaws
import Derived.RowKit
import Derived.RowKitTokens
import Derived.Stop.Joined
import Derived.Test.YtgeflfdonoicaaaDoorRows
namespace Go.Proofs.YtgeflfdonoicaaaDoor
open Go Go.Va
set_option linter.unusedVariables false
set_option linter.unusedSimpArgs false
set_option maxRecDepth 20000
theorem L28_JudgeFine_ok {x0 : List api_Event} {r : Bool} (H : L28_JudgeFine x0 = some r) (σ : St)  (hg : σ.gl = gls) : ACall Tryd.prog 3 [((eL 8 e_api_Event) x0)] σ (fun a τ => a = eB r ∧ τ = σ) := by
 unfold L28_JudgeFine at H
 refine ACall.pure (acall_start tk Tryd.func3 (by decide) rfl (nb rfl) ?_)
 have hH := Holds.init σ
 refine sr rfl (ma tk (eB false) rfl rfl (wpo_nil (awp_seq (awp_seq ?_))))
 obtain ⟨s1, hs3, hj4⟩ := ob H
 refine awp_cutn (fun fr τ => WkF fr (fm [(0, ((eL 8 e_api_Event) x0)), (13, (eB s1))]) ∧ Holds σ [] [] τ) ?_ ?_
 ·rintro fr τ ⟨hfr, hH⟩
  have H14 := hj4
  refine AWP.fm [(0, ((eL 8 e_api_Event) x0)), (13, (eB s1))] hfr ?_
  refine awp_if H14 rfl (fun H15 => ?_) (fun H15 => ?_)
  ·refine sr rfl ?_
   refine wpo_bdr H15 eB rfl rfl rfl (fun v17 hv => h_callr rfl rfl .nil (L28_works_ok hv _ (hH.gl.trans hg))) fun v17 hv17 H16 => ?_
   refine ma tk (eB v17) rfl rfl (wpo_nil (awp_ret ?_))
   obtain rfl := oi H16
   exact ⟨_, (eB v17), rfl, wr, .of_eq ((enc_b td4 sz4).cut _ _ _), hH.noT⟩
  ·refine awp_skip (awp_seq (sr rfl (ma tk (eI (0 : Int)) rfl rfl (wpo_nil (awp_block ?_)))))
   obtain ⟨o19, hs20, hj21⟩ := ob H15
   refine awp_cutx 0 (fun fr τ => ∃ s26 : Unit, o19 = .inl s26 ∧ WkF fr (fm []) ∧ Holds σ [] [] τ) ?_ ?_
   ·rintro fr τ ⟨s26, rfl, hfr, hH⟩
    have H130 := hj21
    simp only [Sum.elim_inl] at H130
    refine AWP.fm [] hfr ?_
    refine sr rfl ?_
    refine wpo_bdr H130 eB rfl rfl rfl (fun v132 hv => h_callr rfl rfl .nil (L28_works_ok hv _ (hH.gl.trans hg))) fun v132 hv132 H131 => ?_
    refine ma tk (eB v132) rfl rfl (wpo_nil (awp_ret ?_))
    obtain rfl := oi H131
    exact ⟨_, (eB v132), rfl, wr, .of_eq ((enc_b td4 sz4).cut _ _ _), hH.noT⟩
   ·refine awp_loopO (body := fun s => L28_JudgeFine_b0 x0 s) hs20 (fun (s : Int) fr τ => WkF fr (fm [(0, ((eL 8 e_api_Event) x0)), (3, (eI s))]) ∧ Holds σ [] [] τ) ⟨(wc (wc (wkf_nil _))), hH⟩ ?_
    rintro c18 fr τ y22 ⟨hfr, hH⟩ hb24 hy25
    have H27 : L28_JudgeFine_b0 x0 c18 = some y22 := hb24
    unfold L28_JudgeFine_b0 at H27
    refine AWP.fm [(0, ((eL 8 e_api_Event) x0)), (3, (eI c18))] hfr ?_
    have hH : Holds σ [] [] τ := hH
    refine awp_seq (sr rfl (mm tk (eI c18) rfl rfl (mm tk ((eL 8 e_api_Event) x0) rfl rfl ?_)))
    refine l_ H27 eI rfl (o_len tk td22 rfl) fun v29 H28 => ?_
    refine l_ H28 eB rfl (o_ar tk rfl rfl rfl) fun v31 H30 => ?_
    refine wpo_nil ?_
    refine awp_if H30 rfl (fun H32 => ?_) (fun H32 => ?_)
    ·refine awp_skip (awp_seq (awp_block (awp_seq (sr rfl (mm tk ((eL 8 e_api_Event) x0) rfl rfl (mm tk (eI c18) rfl rfl ?_))))))
     refine b_ H32 (fun y => .fptr (e_api_Event y).cells 0) rfl (fun v34 hv => o_ixa tk hv td22 enc32 rfl rfl) fun v34 hv34 H33 => ?_
     refine mc tk (.fptr (c_api_Event v34) 0) rfl rfl (fun _ => rfl) (m_ (eI v34.Kind) rfl (o_ld tk rfl rfl) ?_)
     refine l_ H33 eB rfl (o_ar tk rfl rfl rfl) fun v36 H35 => ?_
     refine wpo_nil ?_
     refine awp_if H35 rfl (fun H37 => ?_) (fun H37 => ?_)
     ·refine awp_exit (awp_region rfl (mm tk (eI c18) rfl rfl ?_))
      refine l_ H37 eI rfl (o_ar tk rfl rfl rfl) fun v39 H38 => ?_
      refine ma tk (eI v39) rfl rfl (wpo_nil ?_)
      exact ⟨v39, inj_inl H38, (wc (wc (wkf_nil _))), hH⟩
     ·refine awp_skip (sr rfl (ma tk (eB false) rfl rfl (wpo_nil (awp_seq (sr rfl (ma tk (eI (0 : Int)) rfl rfl (wpo_nil (awp_block ?_))))))))
      obtain ⟨o42, hs43, hj44⟩ := ob H37
      refine awp_cutx 2 (fun fr τ => ∃ s49 : Bool, o42 = .inl s49 ∧ WkF fr (fm [(0, ((eL 8 e_api_Event) x0)), (3, (eI c18)), (4, (eB s49))]) ∧ Holds σ [] [] τ) ?_ ?_
      ·rintro fr τ ⟨s49, rfl, hfr, hH⟩
       have H123 := hj44
       simp only [Sum.elim_inl] at H123
       refine AWP.fm [(0, ((eL 8 e_api_Event) x0)), (3, (eI c18)), (4, (eB s49))] hfr ?_
       refine sr rfl (mm tk (eB s49) rfl rfl ?_)
       refine l_ H123 eB rfl (o_un tk rfl rfl) fun v125 H124 => ?_
       refine wpo_nil ?_
       refine awp_if H124 rfl (fun H126 => ?_) (fun H126 => ?_)
       ·refine sr rfl (ma tk (eB false) rfl rfl (wpo_nil (awp_ret ?_)))
        have hz := hy25 _ (inj_inr H126)
        refine ⟨⟨_, inj_inr H126⟩, ?_⟩
        rw [← hz] at hj21
        have H127 := (show some _ = some _ from hj21)
        obtain rfl := oi H127
        exact ⟨_, (eB false), rfl, wr, .of_eq ((enc_b td4 sz4).cut _ _ _), hH.noT⟩
       ·refine awp_skip (awp_region rfl (mm tk (eI c18) rfl rfl ?_))
        refine l_ H126 eI rfl (o_ar tk rfl rfl rfl) fun v129 H128 => ?_
        refine ma tk (eI v129) rfl rfl (wpo_nil ?_)
        exact ⟨v129, inj_inl H128, (wc (wc (wkf_nil _))), hH⟩
      ·refine awp_loopO (body := fun s => L28_JudgeFine_b1 x0 c18 s.1 s.2) hs43 (fun (s : Bool × Int) fr τ => WkF fr (fm [(0, ((eL 8 e_api_Event) x0)), (3, (eI c18)), (4, (eB s.1)), (5, (eI s.2))]) ∧ Holds σ [] [] τ) ⟨(wc (wc (wc (wc (wkf_nil _))))), hH⟩ ?_
       rintro ⟨c40, c41⟩ fr τ y45 ⟨hfr, hH⟩ hb47 hy48
       have H50 : L28_JudgeFine_b1 x0 c18 c40 c41 = some y45 := hb47
       unfold L28_JudgeFine_b1 at H50
       refine AWP.fm [(0, ((eL 8 e_api_Event) x0)), (3, (eI c18)), (4, (eB c40)), (5, (eI c41))] hfr ?_
       have hH : Holds σ [] [] τ := hH
       refine awp_seq (sr rfl (mm tk (eI c41) rfl rfl (mm tk (eI c18) rfl rfl ?_)))
       refine l_ H50 eB rfl (o_ar tk rfl rfl rfl) fun v52 H51 => ?_
       refine wpo_nil ?_
       refine awp_if H51 rfl (fun H53 => ?_) (fun H53 => ?_)
       ·refine awp_skip (awp_seq (awp_block (awp_seq ?_)))
        obtain ⟨s54, hs56, hj57⟩ := ob H53
        refine awp_cutn (fun fr τ => WkF fr (fm [(0, ((eL 8 e_api_Event) x0)), (3, (eI c18)), (4, (eB s54)), (5, (eI c41))]) ∧ Holds σ [] [] τ) ?_ ?_
        ·rintro fr τ ⟨hfr, hH⟩
         have H87 := hj57
         refine AWP.fm [(0, ((eL 8 e_api_Event) x0)), (3, (eI c18)), (4, (eB s54)), (5, (eI c41))] hfr ?_
         refine awp_seq ?_
         obtain ⟨s88, hs90, hj91⟩ := ob H87
         refine awp_cutn (fun fr τ => WkF fr (fm [(0, ((eL 8 e_api_Event) x0)), (3, (eI c18)), (4, (eB s54)), (5, (eI c41)), (143, (eB s88))]) ∧ Holds σ [] [] τ) ?_ ?_
         ·rintro fr τ ⟨hfr, hH⟩
          have H117 := hj91
          refine AWP.fm [(0, ((eL 8 e_api_Event) x0)), (3, (eI c18)), (4, (eB s54)), (5, (eI c41)), (143, (eB s88))] hfr ?_
          refine awp_if H117 rfl (fun H118 => ?_) (fun H118 => ?_)
          ·refine sr rfl (ma tk (eB false) rfl rfl (wpo_nil (awp_ret ?_)))
           have hz := hy48 _ (inj_inr H118)
           refine ⟨⟨_, inj_inr H118⟩, ?_⟩
           rw [← hz] at hj44
           have H119 := (show some _ = some _ from hj44)
           have hz := hy25 _ (inj_inr H119)
           refine ⟨⟨_, inj_inr H119⟩, ?_⟩
           rw [← hz] at hj21
           have H120 := (show some _ = some _ from hj21)
           obtain rfl := oi H120
           exact ⟨_, (eB false), rfl, wr, .of_eq ((enc_b td4 sz4).cut _ _ _), hH.noT⟩
          ·refine awp_skip (awp_region rfl (mm tk (eI c41) rfl rfl ?_))
           refine l_ H118 eI rfl (o_ar tk rfl rfl rfl) fun v122 H121 => ?_
           refine ma tk (eI v122) rfl rfl (wpo_nil ?_)
           exact ⟨(s54, v122), inj_inl H121, (wc (wc (wc (wc (wkf_nil _))))), hH⟩
         ·refine awp_drawS mixed [] rfl (by decide +kernel) rfl rfl ?_
          refine wpdS_mv (a := ((eL 8 e_api_Event) x0)) rfl rfl rfl (o_mv tk rfl (Wk.refl _)) (wpdS_mv (a := (eI c41)) rfl rfl rfl (o_mv tk rfl (Wk.refl _)) ?_)
          refine wpdS_bd hs90 (fun y => .fptr (e_api_Event y).cells 0) rfl rfl rfl (fun v93 hv => o_ixa tk hv td22 enc32 rfl rfl) fun v93 hv93 H92 => ?_
          refine wpdS_mv (a := (.fptr (c_api_Event v93) 0)) rfl rfl rfl (o_c tk false rfl (fun _ => rfl)) (wpdS_mv (a := (eI v93.Kind)) rfl rfl rfl (o_ld tk rfl rfl) ?_)
          refine wpdS_lt H92 eB rfl rfl rfl (o_ar tk rfl rfl rfl) fun v95 H94 => ?_
          refine wpdS_mv (a := (eB v95)) rfl rfl rfl (o_mv tk rfl (Wk.refl _)) ?_
          refine if_split H94 (fun hb H96 => ?_) (fun hb H96 => ?_)
          ·subst hb
           refine wpdS_mv (a := ((eL 8 e_api_Event) x0)) rfl rfl rfl (o_mv tk rfl (Wk.refl _)) (wpdS_mv (a := (eI c41)) rfl rfl rfl (o_mv tk rfl (Wk.refl _)) ?_)
           refine wpdS_bd H96 (fun y => .fptr (e_api_Event y).cells 0) rfl rfl rfl (fun v98 hv => o_ixa tk hv td22 enc32 rfl rfl) fun v98 hv98 H97 => ?_
           refine wpdS_mv (a := (.fptr (c_api_Event v98) 1)) rfl rfl rfl (o_c tk false rfl (fun _ => rfl)) (wpdS_mv (a := (eI v98.Node)) rfl rfl rfl (o_ld tk rfl rfl) (wpdS_mv (a := ((eL 8 e_api_Event) x0)) rfl rfl rfl (o_mv tk rfl (Wk.refl _)) (wpdS_mv (a := (eI c18)) rfl rfl rfl (o_mv tk rfl (Wk.refl _)) ?_)))
           refine wpdS_bd H97 (fun y => .fptr (e_api_Event y).cells 0) rfl rfl rfl (fun v100 hv => o_ixa tk hv td22 enc32 rfl rfl) fun v100 hv100 H99 => ?_
           refine wpdS_mv (a := (.fptr (c_api_Event v100) 1)) rfl rfl rfl (o_c tk false rfl (fun _ => rfl)) (wpdS_mv (a := (eI v100.Node)) rfl rfl rfl (o_ld tk rfl rfl) ?_)
           refine wpdS_lt H99 eB rfl rfl rfl (o_ar tk rfl rfl rfl) fun v102 H101 => ?_
           refine wpdS_mv (a := (eB v102)) rfl rfl rfl (o_pick_t tk rfl rfl (Wk.refl _)) (wpdS_mv (a := (eB v102)) rfl rfl rfl (o_mv tk rfl (Wk.refl _)) ?_)
           refine if_split H101 (fun hb H103 => ?_) (fun hb H103 => ?_)
           ·subst hb
            refine wpdS_mv (a := ((eL 8 e_api_Event) x0)) rfl rfl rfl (o_mv tk rfl (Wk.refl _)) (wpdS_mv (a := (eI c41)) rfl rfl rfl (o_mv tk rfl (Wk.refl _)) ?_)
            refine wpdS_bd H103 (fun y => .fptr (e_api_Event y).cells 0) rfl rfl rfl (fun v105 hv => o_ixa tk hv td22 enc32 rfl rfl) fun v105 hv105 H104 => ?_
            refine wpdS_mv (a := (.fptr (c_api_Event v105) 2)) rfl rfl rfl (o_c tk false rfl (fun _ => rfl)) (wpdS_mv (a := (.fptr (c_api_Event v105) 2)) rfl rfl rfl (o_c tk false rfl (fun _ => rfl)) (wpdS_mv (a := (eS v105.X.Key)) rfl rfl rfl (o_ld tk rfl rfl) (wpdS_mv (a := ((eL 8 e_api_Event) x0)) rfl rfl rfl (o_mv tk rfl (Wk.refl _)) (wpdS_mv (a := (eI c18)) rfl rfl rfl (o_mv tk rfl (Wk.refl _)) ?_))))
            refine wpdS_bd H104 (fun y => .fptr (e_api_Event y).cells 0) rfl rfl rfl (fun v107 hv => o_ixa tk hv td22 enc32 rfl rfl) fun v107 hv107 H106 => ?_
            refine wpdS_mv (a := (.fptr (c_api_Event v107) 2)) rfl rfl rfl (o_c tk false rfl (fun _ => rfl)) (wpdS_mv (a := (.fptr (c_api_Event v107) 2)) rfl rfl rfl (o_c tk false rfl (fun _ => rfl)) (wpdS_mv (a := (eS v107.X.Key)) rfl rfl rfl (o_ld tk rfl rfl) ?_))
            refine wpdS_lt H106 eB rfl rfl rfl (o_eql_s tk rfl rfl) fun v109 H108 => ?_
            refine wpdS_mv (a := (eB v109)) rfl rfl rfl (o_pick_t tk rfl rfl (Wk.refl _)) (wpdS_mv (a := (eB v109)) rfl rfl rfl (o_mv tk rfl (Wk.refl _)) ?_)
            refine if_split H108 (fun hb H110 => ?_) (fun hb H110 => ?_)
            ·subst hb
             refine wpdS_mv (a := ((eL 8 e_api_Event) x0)) rfl rfl rfl (o_mv tk rfl (Wk.refl _)) (wpdS_mv (a := (eI c41)) rfl rfl rfl (o_mv tk rfl (Wk.refl _)) ?_)
             refine wpdS_bd H110 (fun y => .fptr (e_api_Event y).cells 0) rfl rfl rfl (fun v112 hv => o_ixa tk hv td22 enc32 rfl rfl) fun v112 hv112 H111 => ?_
             refine wpdS_mv (a := (.fptr (c_api_Event v112) 2)) rfl rfl rfl (o_c tk false rfl (fun _ => rfl)) (wpdS_mv (a := (.fptr (c_api_Event v112) 3)) rfl rfl rfl (o_c tk false rfl (fun _ => rfl)) (wpdS_mv (a := (eI v112.X.Version)) rfl rfl rfl (o_ld tk rfl rfl) (wpdS_mv (a := ((eL 8 e_api_Event) x0)) rfl rfl rfl (o_mv tk rfl (Wk.refl _)) (wpdS_mv (a := (eI c18)) rfl rfl rfl (o_mv tk rfl (Wk.refl _)) ?_))))
             refine wpdS_bd H111 (fun y => .fptr (e_api_Event y).cells 0) rfl rfl rfl (fun v114 hv => o_ixa tk hv td22 enc32 rfl rfl) fun v114 hv114 H113 => ?_
             refine wpdS_mv (a := (.fptr (c_api_Event v114) 2)) rfl rfl rfl (o_c tk false rfl (fun _ => rfl)) (wpdS_mv (a := (.fptr (c_api_Event v114) 3)) rfl rfl rfl (o_c tk false rfl (fun _ => rfl)) (wpdS_mv (a := (eI v114.X.Version)) rfl rfl rfl (o_ld tk rfl rfl) ?_))
             refine wpdS_lt H113 eB rfl rfl rfl (o_ar tk rfl rfl rfl) fun v116 H115 => ?_
             refine wpdS_mv (a := (eB v116)) rfl rfl rfl (o_pick_t tk rfl rfl (Wk.refl _)) (wpdS_nil ?_)
             have e := oi H115
             subst e
             exact ⟨(wc (wc (wc (wc (wc (wkf_nil _)))))), hH⟩
            ·subst hb
             refine wpdS_skip rfl rfl rfl (wpdS_skip rfl rfl rfl (wpdS_skip rfl rfl rfl (wpdS_skip rfl rfl rfl (wpdS_skip rfl rfl rfl (wpdS_skip rfl rfl rfl (wpdS_skip rfl rfl rfl (wpdS_skip rfl rfl rfl (wpdS_skip rfl rfl rfl ?_))))))))
             refine wpdS_skip rfl rfl rfl (wpdS_skip rfl rfl rfl (wpdS_skip rfl rfl rfl (wpdS_skip rfl rfl rfl (wpdS_mv (a := (eB false)) rfl rfl rfl (o_pick_f tk rfl rfl (Wk.refl _)) (wpdS_nil ?_)))))
             have e := oi H110
             subst e
             exact ⟨(wc (wc (wc (wc (wc (wkf_nil _)))))), hH⟩
           ·subst hb
            refine wpdS_skip rfl rfl rfl (wpdS_skip rfl rfl rfl (wpdS_skip rfl rfl rfl (wpdS_skip rfl rfl rfl (wpdS_skip rfl rfl rfl (wpdS_skip rfl rfl rfl (wpdS_skip rfl rfl rfl (wpdS_skip rfl rfl rfl (wpdS_skip rfl rfl rfl ?_))))))))
            refine wpdS_skip rfl rfl rfl (wpdS_skip rfl rfl rfl (wpdS_skip rfl rfl rfl (wpdS_skip rfl rfl rfl (wpdS_mv (a := (eB false)) rfl rfl rfl (o_pick_f tk rfl rfl (Wk.refl _)) (wpdS_mv (a := (eB false)) rfl rfl rfl (o_mv tk rfl (Wk.refl _)) (wpdS_skip rfl rfl rfl (wpdS_skip rfl rfl rfl (wpdS_skip rfl rfl rfl ?_))))))))
            refine wpdS_skip rfl rfl rfl (wpdS_skip rfl rfl rfl (wpdS_skip rfl rfl rfl (wpdS_skip rfl rfl rfl (wpdS_skip rfl rfl rfl (wpdS_skip rfl rfl rfl (wpdS_skip rfl rfl rfl (wpdS_skip rfl rfl rfl (wpdS_skip rfl rfl rfl ?_))))))))
            refine wpdS_skip rfl rfl rfl (wpdS_mv (a := (eB false)) rfl rfl rfl (o_pick_f tk rfl rfl (Wk.refl _)) (wpdS_nil ?_))
            have e := oi H103
            subst e
            exact ⟨(wc (wc (wc (wc (wc (wkf_nil _)))))), hH⟩
          ·subst hb
           refine wpdS_skip rfl rfl rfl (wpdS_skip rfl rfl rfl (wpdS_skip rfl rfl rfl (wpdS_skip rfl rfl rfl (wpdS_skip rfl rfl rfl (wpdS_skip rfl rfl rfl (wpdS_skip rfl rfl rfl (wpdS_skip rfl rfl rfl (wpdS_skip rfl rfl rfl ?_))))))))
           refine wpdS_skip rfl rfl rfl (wpdS_skip rfl rfl rfl (wpdS_mv (a := (eB false)) rfl rfl rfl (o_pick_f tk rfl rfl (Wk.refl _)) (wpdS_mv (a := (eB false)) rfl rfl rfl (o_mv tk rfl (Wk.refl _)) (wpdS_skip rfl rfl rfl (wpdS_skip rfl rfl rfl (wpdS_skip rfl rfl rfl (wpdS_skip rfl rfl rfl (wpdS_skip rfl rfl rfl ?_))))))))
           refine wpdS_skip rfl rfl rfl (wpdS_skip rfl rfl rfl (wpdS_skip rfl rfl rfl (wpdS_skip rfl rfl rfl (wpdS_skip rfl rfl rfl (wpdS_skip rfl rfl rfl (wpdS_skip rfl rfl rfl (wpdS_skip rfl rfl rfl (wpdS_mv (a := (eB false)) rfl rfl rfl (o_pick_f tk rfl rfl (Wk.refl _)) ?_))))))))
           refine wpdS_mv (a := (eB false)) rfl rfl rfl (o_mv tk rfl (Wk.refl _)) (wpdS_skip rfl rfl rfl (wpdS_skip rfl rfl rfl (wpdS_skip rfl rfl rfl (wpdS_skip rfl rfl rfl (wpdS_skip rfl rfl rfl (wpdS_skip rfl rfl rfl (wpdS_skip rfl rfl rfl (wpdS_skip rfl rfl rfl ?_))))))))
           refine wpdS_skip rfl rfl rfl (wpdS_skip rfl rfl rfl (wpdS_skip rfl rfl rfl (wpdS_skip rfl rfl rfl (wpdS_skip rfl rfl rfl (wpdS_mv (a := (eB false)) rfl rfl rfl (o_pick_f tk rfl rfl (Wk.refl _)) (wpdS_nil ?_))))))
           have e := oi H96
           subst e
           exact ⟨(wc (wc (wc (wc (wc (wkf_nil _)))))), hH⟩
        ·refine awp_drawS mixed [] rfl (by decide +kernel) rfl rfl ?_
         refine wpdS_mv (a := (eB c40)) rfl rfl rfl (o_mv tk rfl (Wk.refl _)) (wpdS_mv (a := (eB c40)) rfl rfl rfl (o_mv tk rfl (Wk.refl _)) ?_)
         refine if_split hs56 (fun hb H58 => ?_) (fun hb H58 => ?_)
         ·subst hb
          refine wpdS_skip rfl rfl rfl (wpdS_skip rfl rfl rfl (wpdS_skip rfl rfl rfl (wpdS_skip rfl rfl rfl (wpdS_skip rfl rfl rfl (wpdS_skip rfl rfl rfl (wpdS_skip rfl rfl rfl (wpdS_skip rfl rfl rfl (wpdS_skip rfl rfl rfl ?_))))))))
          refine wpdS_skip rfl rfl rfl (wpdS_skip rfl rfl rfl (wpdS_skip rfl rfl rfl (wpdS_skip rfl rfl rfl (wpdS_skip rfl rfl rfl (wpdS_skip rfl rfl rfl (wpdS_skip rfl rfl rfl (wpdS_skip rfl rfl rfl (wpdS_skip rfl rfl rfl ?_))))))))
          refine wpdS_skip rfl rfl rfl (wpdS_skip rfl rfl rfl (wpdS_skip rfl rfl rfl (wpdS_skip rfl rfl rfl (wpdS_skip rfl rfl rfl (wpdS_skip rfl rfl rfl (wpdS_skip rfl rfl rfl (wpdS_skip rfl rfl rfl (wpdS_skip rfl rfl rfl ?_))))))))
          refine wpdS_skip rfl rfl rfl (wpdS_skip rfl rfl rfl (wpdS_skip rfl rfl rfl (wpdS_skip rfl rfl rfl (wpdS_skip rfl rfl rfl (wpdS_skip rfl rfl rfl (wpdS_skip rfl rfl rfl (wpdS_skip rfl rfl rfl (wpdS_skip rfl rfl rfl ?_))))))))
          refine wpdS_skip rfl rfl rfl (wpdS_skip rfl rfl rfl (wpdS_skip rfl rfl rfl (wpdS_skip rfl rfl rfl (wpdS_skip rfl rfl rfl (wpdS_skip rfl rfl rfl (wpdS_skip rfl rfl rfl (wpdS_skip rfl rfl rfl (wpdS_skip rfl rfl rfl ?_))))))))
          refine wpdS_skip rfl rfl rfl (wpdS_skip rfl rfl rfl (wpdS_skip rfl rfl rfl (wpdS_skip rfl rfl rfl (wpdS_skip rfl rfl rfl (wpdS_skip rfl rfl rfl (wpdS_skip rfl rfl rfl (wpdS_skip rfl rfl rfl (wpdS_skip rfl rfl rfl ?_))))))))
          refine wpdS_skip rfl rfl rfl (wpdS_skip rfl rfl rfl (wpdS_skip rfl rfl rfl (wpdS_skip rfl rfl rfl (wpdS_skip rfl rfl rfl (wpdS_skip rfl rfl rfl (wpdS_mv (a := (eB true)) rfl rfl rfl (o_pick_t tk rfl rfl (Wk.refl _)) (wpdS_mv (a := (eB true)) rfl rfl rfl (o_as tk rfl (Wk.refl _)) (wpdS_nil ?_))))))))
          have e := oi H58
          subst e
          exact ⟨(wc (wc (wc (wc (wkf_nil _))))), hH⟩
         ·subst hb
          refine wpdS_mv (a := ((eL 8 e_api_Event) x0)) rfl rfl rfl (o_mv tk rfl (Wk.refl _)) (wpdS_mv (a := (eI c41)) rfl rfl rfl (o_mv tk rfl (Wk.refl _)) ?_)
          refine wpdS_bd H58 (fun y => .fptr (e_api_Event y).cells 0) rfl rfl rfl (fun v60 hv => o_ixa tk hv td22 enc32 rfl rfl) fun v60 hv60 H59 => ?_
          refine wpdS_mv (a := (.fptr (c_api_Event v60) 0)) rfl rfl rfl (o_c tk false rfl (fun _ => rfl)) (wpdS_mv (a := (eI v60.Kind)) rfl rfl rfl (o_ld tk rfl rfl) ?_)
          refine wpdS_lt H59 eB rfl rfl rfl (o_ar tk rfl rfl rfl) fun v62 H61 => ?_
          refine wpdS_mv (a := (eB v62)) rfl rfl rfl (o_mv tk rfl (Wk.refl _)) ?_
          refine if_split H61 (fun hb H63 => ?_) (fun hb H63 => ?_)
          ·subst hb
           refine wpdS_mv (a := ((eL 8 e_api_Event) x0)) rfl rfl rfl (o_mv tk rfl (Wk.refl _)) (wpdS_mv (a := (eI c41)) rfl rfl rfl (o_mv tk rfl (Wk.refl _)) ?_)
           refine wpdS_bd H63 (fun y => .fptr (e_api_Event y).cells 0) rfl rfl rfl (fun v65 hv => o_ixa tk hv td22 enc32 rfl rfl) fun v65 hv65 H64 => ?_
           refine wpdS_mv (a := (.fptr (c_api_Event v65) 7)) rfl rfl rfl (o_c tk false rfl (fun _ => rfl)) (wpdS_mv (a := (eB v65.Found)) rfl rfl rfl (o_ld tk rfl rfl) (wpdS_mv (a := (eB v65.Found)) rfl rfl rfl (o_pick_t tk rfl rfl (Wk.refl _)) (wpdS_mv (a := (eB v65.Found)) rfl rfl rfl (o_mv tk rfl (Wk.refl _)) ?_)))
           refine if_split H64 (fun hb H66 => ?_) (fun hb H66 => ?_)
           ·rw [hb]
            refine wpdS_mv (a := ((eL 8 e_api_Event) x0)) rfl rfl rfl (o_mv tk rfl (Wk.refl _)) (wpdS_mv (a := (eI c41)) rfl rfl rfl (o_mv tk rfl (Wk.refl _)) ?_)
            refine wpdS_bd H66 (fun y => .fptr (e_api_Event y).cells 0) rfl rfl rfl (fun v68 hv => o_ixa tk hv td22 enc32 rfl rfl) fun v68 hv68 H67 => ?_
            refine wpdS_mv (a := (.fptr (c_api_Event v68) 2)) rfl rfl rfl (o_c tk false rfl (fun _ => rfl)) (wpdS_mv (a := (.fptr (c_api_Event v68) 2)) rfl rfl rfl (o_c tk false rfl (fun _ => rfl)) (wpdS_mv (a := (eS v68.X.Key)) rfl rfl rfl (o_ld tk rfl rfl) (wpdS_mv (a := ((eL 8 e_api_Event) x0)) rfl rfl rfl (o_mv tk rfl (Wk.refl _)) (wpdS_mv (a := (eI c18)) rfl rfl rfl (o_mv tk rfl (Wk.refl _)) ?_))))
            refine wpdS_bd H67 (fun y => .fptr (e_api_Event y).cells 0) rfl rfl rfl (fun v70 hv => o_ixa tk hv td22 enc32 rfl rfl) fun v70 hv70 H69 => ?_
            refine wpdS_mv (a := (.fptr (c_api_Event v70) 2)) rfl rfl rfl (o_c tk false rfl (fun _ => rfl)) (wpdS_mv (a := (.fptr (c_api_Event v70) 2)) rfl rfl rfl (o_c tk false rfl (fun _ => rfl)) (wpdS_mv (a := (eS v70.X.Key)) rfl rfl rfl (o_ld tk rfl rfl) ?_))
            refine wpdS_lt H69 eB rfl rfl rfl (o_eql_s tk rfl rfl) fun v72 H71 => ?_
            refine wpdS_mv (a := (eB v72)) rfl rfl rfl (o_pick_t tk rfl rfl (Wk.refl _)) (wpdS_mv (a := (eB v72)) rfl rfl rfl (o_mv tk rfl (Wk.refl _)) ?_)
            refine if_split H71 (fun hb H73 => ?_) (fun hb H73 => ?_)
            ·subst hb
             refine wpdS_mv (a := ((eL 8 e_api_Event) x0)) rfl rfl rfl (o_mv tk rfl (Wk.refl _)) (wpdS_mv (a := (eI c41)) rfl rfl rfl (o_mv tk rfl (Wk.refl _)) ?_)
             refine wpdS_bd H73 (fun y => .fptr (e_api_Event y).cells 0) rfl rfl rfl (fun v75 hv => o_ixa tk hv td22 enc32 rfl rfl) fun v75 hv75 H74 => ?_
             refine wpdS_mv (a := (.fptr (c_api_Event v75) 2)) rfl rfl rfl (o_c tk false rfl (fun _ => rfl)) (wpdS_mv (a := (.fptr (c_api_Event v75) 3)) rfl rfl rfl (o_c tk false rfl (fun _ => rfl)) (wpdS_mv (a := (eI v75.X.Version)) rfl rfl rfl (o_ld tk rfl rfl) (wpdS_mv (a := ((eL 8 e_api_Event) x0)) rfl rfl rfl (o_mv tk rfl (Wk.refl _)) (wpdS_mv (a := (eI c18)) rfl rfl rfl (o_mv tk rfl (Wk.refl _)) ?_))))
             refine wpdS_bd H74 (fun y => .fptr (e_api_Event y).cells 0) rfl rfl rfl (fun v77 hv => o_ixa tk hv td22 enc32 rfl rfl) fun v77 hv77 H76 => ?_
             refine wpdS_mv (a := (.fptr (c_api_Event v77) 2)) rfl rfl rfl (o_c tk false rfl (fun _ => rfl)) (wpdS_mv (a := (.fptr (c_api_Event v77) 3)) rfl rfl rfl (o_c tk false rfl (fun _ => rfl)) (wpdS_mv (a := (eI v77.X.Version)) rfl rfl rfl (o_ld tk rfl rfl) ?_))
             refine wpdS_lt H76 eB rfl rfl rfl (o_ar tk rfl rfl rfl) fun v79 H78 => ?_
             refine wpdS_mv (a := (eB v79)) rfl rfl rfl (o_pick_t tk rfl rfl (Wk.refl _)) (wpdS_mv (a := (eB v79)) rfl rfl rfl (o_mv tk rfl (Wk.refl _)) ?_)
             refine if_split H78 (fun hb H80 => ?_) (fun hb H80 => ?_)
             ·subst hb
              refine wpdS_mv (a := ((eL 8 e_api_Event) x0)) rfl rfl rfl (o_mv tk rfl (Wk.refl _)) (wpdS_mv (a := (eI c41)) rfl rfl rfl (o_mv tk rfl (Wk.refl _)) ?_)
              refine wpdS_bd H80 (fun y => .fptr (e_api_Event y).cells 0) rfl rfl rfl (fun v82 hv => o_ixa tk hv td22 enc32 rfl rfl) fun v82 hv82 H81 => ?_
              refine wpdS_mv (a := (.fptr (c_api_Event v82) 2)) rfl rfl rfl (o_c tk false rfl (fun _ => rfl)) (wpdS_mv (a := (.fptr (c_api_Event v82) 6)) rfl rfl rfl (o_c tk false rfl (fun _ => rfl)) (wpdS_mv (a := ((eL 1 (@eU .u8 8)) v82.X.Value)) rfl rfl rfl (o_ld tk rfl rfl) (wpdS_mv (a := (eS v82.X.Value)) rfl rfl rfl (o_b2s tk td28 td9 td5 rfl) (wpdS_mv (a := ((eL 8 e_api_Event) x0)) rfl rfl rfl (o_mv tk rfl (Wk.refl _)) (wpdS_mv (a := (eI c18)) rfl rfl rfl (o_mv tk rfl (Wk.refl _)) ?_)))))
              refine wpdS_bd H81 (fun y => .fptr (e_api_Event y).cells 0) rfl rfl rfl (fun v84 hv => o_ixa tk hv td22 enc32 rfl rfl) fun v84 hv84 H83 => ?_
              refine wpdS_mv (a := (.fptr (c_api_Event v84) 2)) rfl rfl rfl (o_c tk false rfl (fun _ => rfl)) (wpdS_mv (a := (.fptr (c_api_Event v84) 6)) rfl rfl rfl (o_c tk false rfl (fun _ => rfl)) (wpdS_mv (a := ((eL 1 (@eU .u8 8)) v84.X.Value)) rfl rfl rfl (o_ld tk rfl rfl) (wpdS_mv (a := (eS v84.X.Value)) rfl rfl rfl (o_b2s tk td28 td9 td5 rfl) ?_)))
              refine wpdS_lt H83 eB rfl rfl rfl (o_eql_s tk rfl rfl) fun v86 H85 => ?_
              refine wpdS_mv (a := (eB v86)) rfl rfl rfl (o_pick_t tk rfl rfl (Wk.refl _)) (wpdS_mv (a := (eB v86)) rfl rfl rfl (o_pick_f tk rfl rfl (Wk.refl _)) (wpdS_mv (a := (eB v86)) rfl rfl rfl (o_as tk rfl (Wk.refl _)) (wpdS_nil ?_)))
              have e := oi H85
              subst e
              exact ⟨(wc (wc (wc (wc (wkf_nil _))))), hH⟩
             ·subst hb
              refine wpdS_skip rfl rfl rfl (wpdS_skip rfl rfl rfl (wpdS_skip rfl rfl rfl (wpdS_skip rfl rfl rfl (wpdS_skip rfl rfl rfl (wpdS_skip rfl rfl rfl (wpdS_skip rfl rfl rfl (wpdS_skip rfl rfl rfl (wpdS_skip rfl rfl rfl ?_))))))))
              refine wpdS_skip rfl rfl rfl (wpdS_skip rfl rfl rfl (wpdS_skip rfl rfl rfl (wpdS_skip rfl rfl rfl (wpdS_skip rfl rfl rfl (wpdS_skip rfl rfl rfl (wpdS_mv (a := (eB false)) rfl rfl rfl (o_pick_f tk rfl rfl (Wk.refl _)) (wpdS_mv (a := (eB false)) rfl rfl rfl (o_pick_f tk rfl rfl (Wk.refl _)) (wpdS_mv (a := (eB false)) rfl rfl rfl (o_as tk rfl (Wk.refl _)) ?_))))))))
              refine wpdS_nil ?_
              have e := oi H80
              subst e
              exact ⟨(wc (wc (wc (wc (wkf_nil _))))), hH⟩
            ·subst hb
             refine wpdS_skip rfl rfl rfl (wpdS_skip rfl rfl rfl (wpdS_skip rfl rfl rfl (wpdS_skip rfl rfl rfl (wpdS_skip rfl rfl rfl (wpdS_skip rfl rfl rfl (wpdS_skip rfl rfl rfl (wpdS_skip rfl rfl rfl (wpdS_skip rfl rfl rfl ?_))))))))
             refine wpdS_skip rfl rfl rfl (wpdS_skip rfl rfl rfl (wpdS_skip rfl rfl rfl (wpdS_skip rfl rfl rfl (wpdS_mv (a := (eB false)) rfl rfl rfl (o_pick_f tk rfl rfl (Wk.refl _)) (wpdS_mv (a := (eB false)) rfl rfl rfl (o_mv tk rfl (Wk.refl _)) (wpdS_skip rfl rfl rfl (wpdS_skip rfl rfl rfl (wpdS_skip rfl rfl rfl ?_))))))))
             refine wpdS_skip rfl rfl rfl (wpdS_skip rfl rfl rfl (wpdS_skip rfl rfl rfl (wpdS_skip rfl rfl rfl (wpdS_skip rfl rfl rfl (wpdS_skip rfl rfl rfl (wpdS_skip rfl rfl rfl (wpdS_skip rfl rfl rfl (wpdS_skip rfl rfl rfl ?_))))))))
             refine wpdS_skip rfl rfl rfl (wpdS_skip rfl rfl rfl (wpdS_skip rfl rfl rfl (wpdS_mv (a := (eB false)) rfl rfl rfl (o_pick_f tk rfl rfl (Wk.refl _)) (wpdS_mv (a := (eB false)) rfl rfl rfl (o_pick_f tk rfl rfl (Wk.refl _)) (wpdS_mv (a := (eB false)) rfl rfl rfl (o_as tk rfl (Wk.refl _)) (wpdS_nil ?_))))))
             have e := oi H73
             subst e
             exact ⟨(wc (wc (wc (wc (wkf_nil _))))), hH⟩
           ·rw [hb]
            refine wpdS_skip rfl rfl rfl (wpdS_skip rfl rfl rfl (wpdS_skip rfl rfl rfl (wpdS_skip rfl rfl rfl (wpdS_skip rfl rfl rfl (wpdS_skip rfl rfl rfl (wpdS_skip rfl rfl rfl (wpdS_skip rfl rfl rfl (wpdS_skip rfl rfl rfl ?_))))))))
            refine wpdS_skip rfl rfl rfl (wpdS_skip rfl rfl rfl (wpdS_skip rfl rfl rfl (wpdS_skip rfl rfl rfl (wpdS_mv (a := (eB false)) rfl rfl rfl (o_pick_f tk rfl rfl (Wk.refl _)) (wpdS_mv (a := (eB false)) rfl rfl rfl (o_mv tk rfl (Wk.refl _)) (wpdS_skip rfl rfl rfl (wpdS_skip rfl rfl rfl (wpdS_skip rfl rfl rfl ?_))))))))
            refine wpdS_skip rfl rfl rfl (wpdS_skip rfl rfl rfl (wpdS_skip rfl rfl rfl (wpdS_skip rfl rfl rfl (wpdS_skip rfl rfl rfl (wpdS_skip rfl rfl rfl (wpdS_skip rfl rfl rfl (wpdS_skip rfl rfl rfl (wpdS_skip rfl rfl rfl ?_))))))))
            refine wpdS_skip rfl rfl rfl (wpdS_mv (a := (eB false)) rfl rfl rfl (o_pick_f tk rfl rfl (Wk.refl _)) (wpdS_mv (a := (eB false)) rfl rfl rfl (o_mv tk rfl (Wk.refl _)) (wpdS_skip rfl rfl rfl (wpdS_skip rfl rfl rfl (wpdS_skip rfl rfl rfl (wpdS_skip rfl rfl rfl (wpdS_skip rfl rfl rfl (wpdS_skip rfl rfl rfl ?_))))))))
            refine wpdS_skip rfl rfl rfl (wpdS_skip rfl rfl rfl (wpdS_skip rfl rfl rfl (wpdS_skip rfl rfl rfl (wpdS_skip rfl rfl rfl (wpdS_skip rfl rfl rfl (wpdS_skip rfl rfl rfl (wpdS_skip rfl rfl rfl (wpdS_skip rfl rfl rfl ?_))))))))
            refine wpdS_mv (a := (eB false)) rfl rfl rfl (o_pick_f tk rfl rfl (Wk.refl _)) (wpdS_mv (a := (eB false)) rfl rfl rfl (o_pick_f tk rfl rfl (Wk.refl _)) (wpdS_mv (a := (eB false)) rfl rfl rfl (o_as tk rfl (Wk.refl _)) (wpdS_nil ?_)))
            have e := oi H66
            subst e
            exact ⟨(wc (wc (wc (wc (wkf_nil _))))), hH⟩
          ·subst hb
           refine wpdS_skip rfl rfl rfl (wpdS_skip rfl rfl rfl (wpdS_skip rfl rfl rfl (wpdS_skip rfl rfl rfl (wpdS_skip rfl rfl rfl (wpdS_mv (a := (eB false)) rfl rfl rfl (o_pick_f tk rfl rfl (Wk.refl _)) (wpdS_mv (a := (eB false)) rfl rfl rfl (o_mv tk rfl (Wk.refl _)) (wpdS_skip rfl rfl rfl (wpdS_skip rfl rfl rfl ?_))))))))
           refine wpdS_skip rfl rfl rfl (wpdS_skip rfl rfl rfl (wpdS_skip rfl rfl rfl (wpdS_skip rfl rfl rfl (wpdS_skip rfl rfl rfl (wpdS_skip rfl rfl rfl (wpdS_skip rfl rfl rfl (wpdS_skip rfl rfl rfl (wpdS_skip rfl rfl rfl ?_))))))))
           refine wpdS_skip rfl rfl rfl (wpdS_skip rfl rfl rfl (wpdS_mv (a := (eB false)) rfl rfl rfl (o_pick_f tk rfl rfl (Wk.refl _)) (wpdS_mv (a := (eB false)) rfl rfl rfl (o_mv tk rfl (Wk.refl _)) (wpdS_skip rfl rfl rfl (wpdS_skip rfl rfl rfl (wpdS_skip rfl rfl rfl (wpdS_skip rfl rfl rfl (wpdS_skip rfl rfl rfl ?_))))))))
           refine wpdS_skip rfl rfl rfl (wpdS_skip rfl rfl rfl (wpdS_skip rfl rfl rfl (wpdS_skip rfl rfl rfl (wpdS_skip rfl rfl rfl (wpdS_skip rfl rfl rfl (wpdS_skip rfl rfl rfl (wpdS_skip rfl rfl rfl (wpdS_mv (a := (eB false)) rfl rfl rfl (o_pick_f tk rfl rfl (Wk.refl _)) ?_))))))))
           refine wpdS_mv (a := (eB false)) rfl rfl rfl (o_mv tk rfl (Wk.refl _)) (wpdS_skip rfl rfl rfl (wpdS_skip rfl rfl rfl (wpdS_skip rfl rfl rfl (wpdS_skip rfl rfl rfl (wpdS_skip rfl rfl rfl (wpdS_skip rfl rfl rfl (wpdS_skip rfl rfl rfl (wpdS_skip rfl rfl rfl ?_))))))))
           refine wpdS_skip rfl rfl rfl (wpdS_skip rfl rfl rfl (wpdS_skip rfl rfl rfl (wpdS_skip rfl rfl rfl (wpdS_skip rfl rfl rfl (wpdS_skip rfl rfl rfl (wpdS_skip rfl rfl rfl (wpdS_mv (a := (eB false)) rfl rfl rfl (o_pick_f tk rfl rfl (Wk.refl _)) (wpdS_mv (a := (eB false)) rfl rfl rfl (o_pick_f tk rfl rfl (Wk.refl _)) ?_))))))))
           refine wpdS_mv (a := (eB false)) rfl rfl rfl (o_as tk rfl (Wk.refl _)) (wpdS_nil ?_)
           have e := oi H63
           subst e
           exact ⟨(wc (wc (wc (wc (wkf_nil _))))), hH⟩
       ·refine awp_exit ?_
        have hz := hy48 _ (inj_inr H53)
        exact ⟨⟨_, inj_inr H53⟩, c40, hz.symm, (wc (wc (wc (wkf_nil _)))), hH⟩
    ·refine awp_exit ?_
     have hz := hy25 _ (inj_inr H32)
     exact ⟨⟨_, inj_inr H32⟩, (), hz.symm, (wkf_nil _), hH⟩
 ·refine awp_region rfl (mm tk ((eL 8 e_api_Event) x0) rfl rfl ?_)
  refine b_ hs3 eI rfl (fun v6 hv => OpP.of_call rfl rfl (.cons wr .nil) (L28_Light_ok hv)) fun v6 hv6 H5 => ?_
  refine l_ H5 eB rfl (o_ar tk rfl rfl rfl) fun v8 H7 => ?_
  refine mm tk (eB v8) rfl rfl ?_
  refine if_split H7 (fun hb H9 => ?_) (fun hb H9 => ?_)
  ·subst hb
   refine k_ rfl (k_ rfl (k_ rfl (pt tk (eB true) rfl rfl rfl (wpo_nil ?_))))
   have e := oi H9
   subst e
   exact ⟨(wc (wc (wkf_nil _))), hH⟩
  ·subst hb
   refine mm tk ((eL 8 e_api_Event) x0) rfl rfl ?_
   refine b_ H9 eErr rfl (fun v11 hv => OpP.of_call rfl rfl (.cons wr .nil) (judge_All_ok hv)) fun v11 hv11 H10 => ?_
   refine l_ H10 eB rfl (o_err_neq tk rfl rfl rfl) fun v13 H12 => ?_
   refine pf tk (eB v13) rfl rfl rfl (wpo_nil ?_)
   have e := oi H12
   subst e
   exact ⟨(wc (wc (wkf_nil _))), hH⟩
end Go.Proofs.YtgeflfdonoicaaaDoor
namespace Go.Proofs.YtgeflfdonoicaaaDoor
open Go Go.Va
set_option linter.unusedVariables false
set_option linter.unusedSimpArgs false
section
variable {α β : Type} [DecidableEq α]
theorem mget_cons (a : α) (b : β) (m : List (α × β)) (k : α) : mget ((a, b) :: m) k = if a = k then some b else mget m k := by
  unfold mget mix
  rw [List.map_cons, List.findIdx?_cons]
  by_cases h : a = k
  · simp [h]
  · simp only [h, decide_false, if_false, Bool.false_eq_true]
    cases (List.findIdx? (fun x => decide (x = k)) (List.map (·.1) m)) <;> simp
theorem mset_nil (k : α) (v : β) : mset ([] : List (α × β)) k v = [(k, v)] := rfl
theorem mset_cons (a : α) (b : β) (m : List (α × β)) (k : α) (v : β) : mset ((a, b) :: m) k v = if a = k then (k, v) :: m else (a, b) :: mset m k v := by
  unfold mset mix
  rw [List.map_cons, List.findIdx?_cons]
  by_cases h : a = k
  · simp [h]
  · simp only [h, decide_false, if_false, Bool.false_eq_true]
    cases (List.findIdx? (fun x => decide (x = k)) (List.map (·.1) m)) <;> simp
theorem mget_set (m : List (α × β)) (k : α) (v : β) (k' : α) : mget (mset m k v) k' = if k = k' then some v else mget m k' := by
  induction m with
  | nil => rw [mset_nil, mget_cons]
  | cons p m ih =>
    obtain ⟨a, b⟩ := p
    rw [mset_cons]
    by_cases h : a = k
    · rw [if_pos h, mget_cons, mget_cons]
      subst h
      by_cases h2 : a = k' <;> simp [h2]
    · rw [if_neg h, mget_cons, mget_cons, ih]
      by_cases h2 : a = k'
      · subst h2; simp [Ne.symm h]
      · simp [h2]
end
def hitP (s : judge_Judge) (e : api_Event) : Int × judge_Judge :=
  let w := (mget s.written e.X.Version).getD z_api_Event
  let last := (mget s.served ⟨e.Node, e.X.Key⟩).getD 0
  (if (mget s.written e.X.Version).isSome = false ∨ w.Found = false ∨ w.X.Key ≠ e.X.Key ∨ w.X.Value ≠ e.X.Value then 1 else if e.X.Version < (mget s.done e.X.Key).getD 0 then 2 else if e.X.Version < last then 3 else 0,
    { s with served := mset s.served ⟨e.Node, e.X.Key⟩ (if e.X.Version > last then e.X.Version else last) })
theorem hit_eq (s : judge_Judge) (e : api_Event) : judge_Judge_hit s e = some (hitP s e) := by
  unfold judge_Judge_hit hitP
  simp only [lt_eq, Option.bind_some]
  generalize (mget s.written e.X.Version).getD z_api_Event = w
  generalize (mget s.written e.X.Version).isSome = ok
  cases ok with
  | false => simp
  | true =>
    cases hf : w.Found with
    | false => simp
    | true =>
      by_cases hk : w.X.Key = e.X.Key
      · by_cases hv : w.X.Value = e.X.Value
        · simp only [hk, hv, Bool.not_true, Bool.false_eq_true, if_false, bne_self_eq_false, Option.bind_some, ne_eq, not_true_eq_false, or_false, false_or, reduceCtorEq, decide_eq_true_eq]
          split
          · rfl
          · split <;> rfl
        · have : (w.X.Value != e.X.Value) = true := by simpa using hv
          simp [hk, hv, this]
      · have : (w.X.Key != e.X.Key) = true := by simpa using hk
        simp [hk, this]
def cntP (c : Vector Int 5) (k : Int) : Vector Int 5 := if h : 1 ≤ k ∧ k ≤ 4 then c.set k.toNat (w64 (c[k.toNat]'(by omega) + 1)) (by omega) else c
def tellP (s : judge_Judge) (e : api_Event) : Int × judge_Judge :=
  let t : judge_Judge := { s with n := w64 (s.n + 1), counts := cntP s.counts e.Kind }
  if e.Kind = 1 then hitP t e
  else if e.Kind = 3 then (0, { t with written := mset s.written e.X.Version e, open_ := mset s.open_ e.X.Version t.n })
  else if e.Kind = 4 then
    if (mget s.written e.X.Version).isSome = false ∨ (mget s.open_ e.X.Version).isSome = false then (4, t)
    else
      let k := ((mget s.written e.X.Version).getD z_api_Event).X.Key
      let d := (mget s.done k).getD 0
      (0, { t with open_ := mdel s.open_ e.X.Version, done := mset s.done k (if e.X.Version > d then e.X.Version else d) })
  else (0, t)
theorem tell_eq (s : judge_Judge) (e : api_Event) : judge_Judge_Tell s e = some (tellP s e) := by
  have hc : (((if decide (e.Kind ≥ (1 : Int)) = true then some (decide (e.Kind ≤ (4 : Int))) else some false).bind fun s6 => if s6 = true then (chk 5 e.Kind).bind fun _ => (ixA 5 s.counts.toList e.Kind).bind fun v24 => (chk 5 e.Kind).bind fun _ => (updV s.counts e.Kind (fun _ => w64 (v24 + (1 : Int)))).bind fun v30 => some ({ s with n := w64 (s.n + 1), counts := v30 } : judge_Judge) else some ({ s with n := w64 (s.n + 1) } : judge_Judge) : Option judge_Judge)) = some ({ s with n := w64 (s.n + 1), counts := cntP s.counts e.Kind } : judge_Judge) := by
    by_cases h1 : 1 ≤ e.Kind
    · rw [if_pos (decide_eq_true h1)]
      by_cases h2 : e.Kind ≤ 4
      · obtain ⟨k, hk⟩ : ∃ k : Nat, e.Kind = (k : Int) := ⟨e.Kind.toNat, by omega⟩
        rw [hk] at h1 h2 ⊢
        have h3 : chk 5 (k : Int) = some () := by unfold chk; rw [if_pos (by omega)]
        have hl : s.counts.toList.length = 5 := by simp
        have h4 : ixA 5 s.counts.toList (k : Int) = some (s.counts[k]'(by omega)) := by
          rw [ixA_nat (by omega) (by omega)]
          simp
        rw [decide_eq_true h2]
        simp only [Option.bind_some, if_true, h3, h4]
        unfold updV cntP
        rw [dif_pos (by omega), dif_pos (by omega)]
        rfl
      · rw [decide_eq_false h2]
        unfold cntP
        rw [dif_neg (by omega)]
        rfl
    · rw [if_neg (by simpa using h1)]
      unfold cntP
      rw [dif_neg (by omega)]
      rfl
  unfold judge_Judge_Tell
  simp only [lt_eq]
  refine Eq.trans (Option.bind_assoc _ _ _).symm ?_
  rw [hc]
  simp only [Option.bind_some]
  unfold tellP
  by_cases k1 : e.Kind = 1
  · rw [if_pos (beq_iff_eq.2 k1), hit_eq, if_pos k1]
    rfl
  rw [if_neg (by simpa using k1), if_neg k1]
  by_cases k3 : e.Kind = 3
  · rw [if_pos (beq_iff_eq.2 k3), if_pos k3]
  rw [if_neg (by simpa using k3), if_neg k3]
  by_cases k4 : e.Kind = 4
  · rw [if_pos (beq_iff_eq.2 k4), if_pos k4]
    cases (mget s.written e.X.Version).isSome <;> cases (mget s.open_ e.X.Version).isSome <;> simp
  · rw [if_neg (by simpa using k4), if_neg k4]
def allP : List api_Event → Int → judge_Judge → Err
  | [], _, _ => .nil
  | e :: l, i, s =>
    if (tellP s e).1 = 1 then .fault [102#8, 111#8, 114#8, 103#8, 101#8, 100#8] i 5 .nil
    else if (tellP s e).1 = 2 then .fault [115#8, 116#8, 97#8, 108#8, 101#8] i 10 .nil
    else if (tellP s e).1 = 3 then .fault [102#8, 97#8, 108#8, 108#8, 115#8] i 2 .nil
    else if (tellP s e).1 = 4 then .fault [108#8, 111#8, 111#8, 115#8, 101#8] i 9 .nil
    else allP l (i + 1) (tellP s e).2
def newJ : judge_Judge := ⟨0, [], [], [], [], Vector.replicate 5 0⟩
theorem newj_eq : judge_New = some newJ := rfl
theorem tnew_eq (op : List (BitVec 8)) (n c : Int) (hc : c ≠ 0) : trouble_New op n c = some (.fault op n c .nil) := by
  unfold trouble_New
  simp only [lt_eq]
  rw [if_neg (by simpa using hc)]
theorem all_l28 {l : List api_Event} (hl : l.length ≤ 1000000) : ∀ (d i : Nat) (s : judge_Judge), i + d = l.length → ∃ y, loopO (fun s => judge_All_b0 l (l.length : Int) s.1 s.2.1 s.2.2.1 s.2.2.2.1 s.2.2.2.2.1 s.2.2.2.2.2) ((i : Int), s, s.written, s.done, s.served, s.open_) = some y ∧ Sum.elim (fun _ => some Err.nil) (fun y => some y) y = some (allP (l.drop i) (i : Int) s)
  | 0, i, s, hi => by
    refine ⟨.inl (s, s.written, s.done, s.served, s.open_), loopO_out ?_, ?_⟩
    · unfold judge_All_b0
      simp only [lt_eq]
      rw [if_neg (by simp; omega)]
    · rw [List.drop_of_length_le (by omega)]; rfl
  | d + 1, i, s, hi => by
    have hil : i < l.length := by omega
    rw [List.drop_eq_getElem_cons hil]
    have hb : judge_All_b0 l (l.length : Int) (i : Int) s s.written s.done s.served s.open_ = if (tellP s l[i]).1 = 1 then some (.inr (.inr (.fault [102#8, 111#8, 114#8, 103#8, 101#8, 100#8] i 5 .nil)))
    else if (tellP s l[i]).1 = 2 then some (.inr (.inr (.fault [115#8, 116#8, 97#8, 108#8, 101#8] i 10 .nil)))
    else if (tellP s l[i]).1 = 3 then some (.inr (.inr (.fault [102#8, 97#8, 108#8, 108#8, 115#8] i 2 .nil)))
    else if (tellP s l[i]).1 = 4 then some (.inr (.inr (.fault [108#8, 111#8, 111#8, 115#8, 101#8] i 9 .nil)))
    else some (.inl (((i + 1 : Nat) : Int), (tellP s l[i]).2, (tellP s l[i]).2.written, (tellP s l[i]).2.done, (tellP s l[i]).2.served, (tellP s l[i]).2.open_)) := by
      unfold judge_All_b0
      simp only [lt_eq]
      rw [if_pos (decide_eq_true (by omega)), ix_nat hil]
      simp only [Option.bind_some]
      rw [show (({ s with written := s.written, done := s.done, served := s.served, open_ := s.open_ } : judge_Judge)) = s from rfl, tell_eq]
      simp only [Option.bind_some, beq_iff_eq]
      rw [tnew_eq _ _ 5 (by decide), tnew_eq _ _ 10 (by decide), tnew_eq _ _ 2 (by decide), tnew_eq _ _ 9 (by decide), w64_nat (by omega)]
      rfl
    unfold allP
    by_cases h1 : (tellP s l[i]).1 = 1
    · rw [if_pos h1] at hb ⊢; exact ⟨_, loopO_out hb, rfl⟩
    rw [if_neg h1] at hb ⊢
    by_cases h2 : (tellP s l[i]).1 = 2
    · rw [if_pos h2] at hb ⊢; exact ⟨_, loopO_out hb, rfl⟩
    rw [if_neg h2] at hb ⊢
    by_cases h3 : (tellP s l[i]).1 = 3
    · rw [if_pos h3] at hb ⊢; exact ⟨_, loopO_out hb, rfl⟩
    rw [if_neg h3] at hb ⊢
    by_cases h4 : (tellP s l[i]).1 = 4
    · rw [if_pos h4] at hb ⊢; exact ⟨_, loopO_out hb, rfl⟩
    rw [if_neg h4] at hb ⊢
    obtain ⟨y, e1, e2⟩ := all_l28 hl d (i + 1) (tellP s l[i]).2 (by omega)
    refine ⟨y, ?_, e2⟩
    rw [← e1]
    exact loopO_in hb
theorem all_eq28 {l : List api_Event} (hl : l.length ≤ 1000000) : judge_All l = some (allP l 0 newJ) := by
  unfold judge_All
  simp only [lt_eq]
  rw [newj_eq]
  simp only [Option.bind_some]
  obtain ⟨y, e1, e2⟩ := all_l28 hl l.length 0 newJ (by omega)
  have e1' : judge_All_l0 l (l.length : Int) ((0 : Int), newJ, newJ.written, newJ.done, newJ.served, newJ.open_) = some y := e1
  rw [e1']
  simpa using e2
structure JI (p : List api_Event) (s : judge_Judge) : Prop where
  W : ∀ n w, mget s.written n = some w → w ∈ p ∧ w.Kind = 3 ∧ w.X.Version = n
  S : ∀ h ∈ p, h.Kind = 1 → h.X.Version ≤ (mget s.served ⟨h.Node, h.X.Key⟩).getD 0
def FineAt (p : List api_Event) (e : api_Event) : Prop := e.Kind = 1 → (∃ w ∈ p, w.Kind = 3 ∧ w.Found = true ∧ w.X.Key = e.X.Key ∧ w.X.Version = e.X.Version ∧ w.X.Value = e.X.Value) ∧ ∀ h ∈ p, h.Kind = 1 → h.Node = e.Node → h.X.Key = e.X.Key → h.X.Version ≤ e.X.Version
theorem JI.tell {p : List api_Event} {s : judge_Judge} (J : JI p s) (e : api_Event) : JI (p ++ [e]) (tellP s e).2 := by
  have hm : ∀ {x}, x ∈ p → x ∈ p ++ [e] := fun h => List.mem_append_left _ h
  have W0 : ∀ n w, mget s.written n = some w → w ∈ p ++ [e] ∧ w.Kind = 3 ∧ w.X.Version = n := fun n w h => ⟨hm (J.W n w h).1, (J.W n w h).2⟩
  have S0 : e.Kind ≠ 1 → ∀ h ∈ p ++ [e], h.Kind = 1 → h.X.Version ≤ (mget s.served ⟨h.Node, h.X.Key⟩).getD 0 := fun hk h hh h1 => by
    rcases List.mem_append.1 hh with q | q
    · exact J.S h q h1
    · rw [List.mem_singleton.1 q] at h1; exact absurd h1 hk
  unfold tellP
  by_cases k1 : e.Kind = 1
  · rw [if_pos k1]
    refine ⟨W0, fun h hh h1 => ?_⟩
    show _ ≤ (mget (mset s.served ⟨e.Node, e.X.Key⟩ _) ⟨h.Node, h.X.Key⟩).getD 0
    rw [mget_set]
    by_cases hs : (⟨e.Node, e.X.Key⟩ : judge_spot) = ⟨h.Node, h.X.Key⟩
    · rw [if_pos hs]
      simp only [Option.getD_some]
      rcases List.mem_append.1 hh with q | q
      · have := J.S h q h1
        rw [← hs] at this
        split <;> omega
      · rw [List.mem_singleton.1 q]
        split <;> omega
    · rw [if_neg hs]
      rcases List.mem_append.1 hh with q | q
      · exact J.S h q h1
      · rw [List.mem_singleton.1 q] at hs; exact absurd rfl hs
  rw [if_neg k1]
  by_cases k3 : e.Kind = 3
  · rw [if_pos k3]
    refine ⟨fun n w h => ?_, S0 k1⟩
    have h : mget (mset s.written e.X.Version e) n = some w := h
    rw [mget_set] at h
    by_cases hn : e.X.Version = n
    · rw [if_pos hn] at h; cases h; exact ⟨List.mem_append_right _ List.mem_cons_self, k3, hn⟩
    · rw [if_neg hn] at h; exact W0 n w h
  rw [if_neg k3]
  by_cases k4 : e.Kind = 4
  · rw [if_pos k4]
    split
    · exact ⟨W0, S0 k1⟩
    · exact ⟨W0, S0 k1⟩
  · rw [if_neg k4]; exact ⟨W0, S0 k1⟩
theorem JI.fine {p : List api_Event} {s : judge_Judge} (J : JI p s) {e : api_Event} (h1 : (tellP s e).1 ≠ 1) (h3 : (tellP s e).1 ≠ 3) (h2 : (tellP s e).1 ≠ 2) : FineAt p e := by
  intro k1
  have hh : (tellP s e).1 = if (mget s.written e.X.Version).isSome = false ∨ ((mget s.written e.X.Version).getD z_api_Event).Found = false ∨ ((mget s.written e.X.Version).getD z_api_Event).X.Key ≠ e.X.Key ∨ ((mget s.written e.X.Version).getD z_api_Event).X.Value ≠ e.X.Value then 1 else if e.X.Version < (mget s.done e.X.Key).getD 0 then 2 else if e.X.Version < (mget s.served ⟨e.Node, e.X.Key⟩).getD 0 then 3 else 0 := by
    unfold tellP
    rw [if_pos k1]
    rfl
  rw [hh] at h1 h2 h3
  split at h1
  · exact absurd rfl h1
  · rename_i hw
    simp only [if_neg hw] at h2 h3
    split at h2
    · exact absurd rfl h2
    · rename_i hd
      simp only [if_neg hd] at h3
      split at h3
      · exact absurd rfl h3
      · rename_i hv
        simp only [not_or, Bool.not_eq_false, ne_eq, Decidable.not_not] at hw
        obtain ⟨w1, w2, w3, w4⟩ := hw
        obtain ⟨w, hw⟩ := Option.isSome_iff_exists.1 w1
        rw [hw, Option.getD_some] at w2 w3 w4
        obtain ⟨q1, q2, q3⟩ := J.W _ _ hw
        refine ⟨⟨w, q1, q2, w2, w3, q3, w4⟩, fun h hp hk hn hx => ?_⟩
        have := J.S h hp hk
        rw [hn, hx] at this
        omega
theorem allP_fine : ∀ (l p : List api_Event) (i : Int) (s : judge_Judge), JI p s → allP l i s = .nil → ∀ (j : Nat) (h : j < l.length), FineAt (p ++ l.take j) l[j]
  | [], p, i, s, J, h, j, hj => by simp at hj
  | e :: l, p, i, s, J, h, j, hj => by
    unfold allP at h
    split at h
    · cases h
    split at h
    · cases h
    split at h
    · cases h
    split at h
    · cases h
    rename_i h1 h2 h3 h4
    cases j with
    | zero => simpa using J.fine h1 h3 h2
    | succ j =>
      have := allP_fine l (p ++ [e]) (i + 1) _ (J.tell e) h j (by simpa using hj)
      simpa using this
theorem light6_some (l : List api_Entry) : ∃ r, L06_Light l = some r := by
  unfold L06_Light
  simp only [lt_eq]
  by_cases h : l.length > 40
  · rw [if_pos (decide_eq_true (by omega))]; exact ⟨_, rfl⟩
  · rw [if_neg (by rw [decide_eq_false (by omega)]; decide)]
    unfold L06_Light_l0
    obtain ⟨y, e, -⟩ := loopO_inv (body := fun s => L06_Light_b0 l s.1 s.2) (fun z => ∃ j : Nat, z.2 = (j : Int) ∧ j ≤ l.length) (fun z => l.length - z.2.toNat) (fun _ => True) (fun z => by
      rintro ⟨j, hz, hj⟩
      obtain ⟨c, z2⟩ := z
      simp only at hz
      subst hz
      unfold L06_Light_b0
      simp only [lt_eq]
      by_cases hjl : j < l.length
      · rw [if_pos (decide_eq_true (by omega)), ix_nat hjl]
        simp only [Option.bind_some]
        generalize hb : (if decide ((l[j].Key.length : Int) > 200) = true then some true else some (decide ((l[j].Value.length : Int) > 5000))) = b
        have : ∃ x, b = some x := by rw [← hb]; split <;> exact ⟨_, rfl⟩
        obtain ⟨x, rfl⟩ := this
        simp only [Option.bind_some]
        cases x with
        | true => exact .inr ⟨_, rfl, trivial⟩
        | false =>
          rw [if_neg (by decide)]
          split
          · exact .inr ⟨_, rfl, trivial⟩
          · left
            rw [w64_nat (by omega)]
            exact ⟨_, rfl, ⟨j + 1, rfl, hjl⟩, by simp only; omega⟩
      · right
        rw [if_neg (by simp; omega)]
        exact ⟨_, rfl, trivial⟩) (s := ((0 : Int), (0 : Int))) ⟨0, rfl, Nat.zero_le _⟩
    rw [e]
    cases y <;> exact ⟨_, rfl⟩
theorem light_eq28 (l : List api_Event) : L28_Light l = some 1 ∨ (l.length ≤ 40 ∧ ∃ r, L28_Light l = some r) := by
  unfold L28_Light
  simp only [lt_eq]
  by_cases h : l.length > 40
  · left; rw [if_pos (decide_eq_true (by omega))]
  · right
    refine ⟨by omega, ?_⟩
    rw [if_neg (by rw [decide_eq_false (by omega)]; decide)]
    unfold L28_Light_l0
    have key := loopO_up (body := fun s => L28_Light_b0 l s.1 s.2) (fun j => ((l.take j).map (·.X), (j : Int))) l.length (x := (l.take l.length).map (·.X)) (fun j hj => by
      unfold L28_Light_b0
      simp only [lt_eq]
      rw [if_pos (decide_eq_true (by omega)), ix_nat hj]
      simp only [Option.bind_some]
      rw [app_eq (by simp; omega), w64_nat (by omega), List.take_succ_eq_append_getElem hj, List.map_append]
      rfl) (by
      unfold L28_Light_b0
      simp only [lt_eq]
      rw [if_neg (by simp)])
    have k2 : loopO (fun s => L28_Light_b0 l s.1 s.2) ([], 0) = _ := key
    rw [k2]
    simp only [Option.bind_some]
    obtain ⟨r, hr⟩ := light6_some ((l.take l.length).map (·.X))
    rw [hr]
    exact ⟨_, rfl⟩
theorem chain1 (o : List (BitVec 8)) (a c : Int) : trouble_Chain (.fault o a c .nil) = some [⟨o, a, c⟩] := by
  unfold trouble_Chain
  have h1 : trouble_Chain_b0 (.fault o a c .nil, []) = some (.inl (.nil, [⟨o, a, c⟩])) := by
    simp only [trouble_Chain_b0]
    rw [app_eq (by simp)]
    rfl
  rw [loopO_in h1]
  exact loopO_out rfl
theorem where1 (o : List (BitVec 8)) (a c : Int) : trouble_Where (.fault o a c .nil) = some (a, true) := by
  unfold trouble_Where
  rw [chain1]
  simp only [lt_eq, Option.bind_some]
  rfl
def wJ : api_Event := ⟨3, 0, ⟨[107#8], 1, 0, 0, [118#8]⟩, true⟩
def hJ : api_Event := ⟨1, 2, ⟨[107#8], 1, 4, 0, [118#8]⟩, false⟩
def dJ : api_Event := ⟨4, 0, ⟨[], 2, 0, 0, []⟩, false⟩
def xJ : api_Event := ⟨3, 0, ⟨[107#8], 2, 0, 0, []⟩, false⟩
theorem works28 : L28_works = some true := by
  have a1 : judge_All [wJ, hJ, xJ, hJ, dJ, hJ] = some (.fault [115#8, 116#8, 97#8, 108#8, 101#8] 5 10 .nil) := by
    rw [all_eq28 (by simp)]
    exact congrArg some (by decide +kernel)
  have a2 : judge_All [hJ] = some (.fault [102#8, 111#8, 114#8, 103#8, 101#8, 100#8] 0 5 .nil) := by
    rw [all_eq28 (by simp)]
    exact congrArg some (by decide +kernel)
  have a3 : judge_All [dJ] = some (.fault [108#8, 111#8, 111#8, 115#8, 101#8] 0 9 .nil) := by
    rw [all_eq28 (by simp)]
    exact congrArg some (by decide +kernel)
  have a4 : judge_All [wJ, hJ] = some .nil := by
    rw [all_eq28 (by simp)]
    exact congrArg some (by decide +kernel)
  have t1 : (tellP newJ hJ).1 = 1 := by decide +kernel
  have t2 : (tellP (tellP newJ hJ).2 wJ).1 = 0 := by decide +kernel
  have c1 : judge_Judge_Count (tellP (tellP newJ hJ).2 wJ).2 1 = some 1 := by
    unfold judge_Judge_Count
    simp only [lt_eq]
    rw [if_neg (by decide)]
    simp only [Option.bind_some]
    rw [if_neg (by decide)]
    have h1 : chk 5 (1 : Int) = some () := rfl
    have h2 : ixA 5 ((tellP (tellP newJ hJ).2 wJ).2.counts).toList 1 = some 1 := by decide +kernel
    rw [h1, h2]
    rfl
  have o1 : judge_Judge_Open (tellP (tellP newJ hJ).2 wJ).2 = some 1 := congrArg some (by decide +kernel)
  have n1 : judge_Judge_Told (tellP (tellP newJ hJ).2 wJ).2 = some 2 := congrArg some (by decide +kernel)
  unfold L28_works
  simp only [lt_eq]
  rw [show (⟨3, 0, ⟨[107#8], 1, 0, 0, [118#8]⟩, true⟩ : api_Event) = wJ from rfl, show (⟨1, 2, ⟨[107#8], 1, 4, 0, [118#8]⟩, false⟩ : api_Event) = hJ from rfl, show (⟨4, 0, ⟨[], 2, 0, 0, []⟩, false⟩ : api_Event) = dJ from rfl, show (⟨3, 0, ⟨[107#8], 2, 0, 0, []⟩, false⟩ : api_Event) = xJ from rfl]
  rw [a1, a2, a3, a4, newj_eq]
  simp only [Option.bind_some, where1, tell_eq, t1, t2, c1, o1, n1, trouble_Of, codeOf, Err.isNil]
  rfl
end Go.Proofs.YtgeflfdonoicaaaDoor
namespace Go.Proofs.YtgeflfdonoicaaaDoor
open Go Go.Va
set_option linter.unusedSimpArgs false
set_option linter.unusedVariables false
def wf_runtime_boundsError (x : runtime_boundsError) : Prop := (wfI .i64) x.x ∧ (wfI .i64) x.y ∧ wfT x.signed ∧ wfT x.code
def wf_runtime_errorAddressString (x : runtime_errorAddressString) : Prop := wfS x.msg ∧ wfT x.addr
def wf_api_Entry (x : api_Entry) : Prop := wfS x.Key ∧ (wfI .i64) x.Version ∧ (wfI .i64) x.AsOf ∧ (wfI .i64) x.Ends ∧ (wfL wfT) x.Value
theorem opens30 : Opens Tryd.prog 30 e_api_Entry wf_api_Entry := by
  intro H enc w fuel cs x hx
  obtain ⟨xs, m, _, _, hl, hn, hx⟩ := DataW.trod_struct Tryd.underlying30 hx
  rw [cellsOf_sz tk sz30 (by decide)] at hl
  obtain ⟨y0, w0, r0, o0⟩ := opens_f hx hn 0 (o := 0) (s := 1) rfl (opens_s Tryd.underlying9) rfl (cellsOf_sz tk sz9 (by decide))
  obtain ⟨y1, w1, r1, o1⟩ := opens_f hx hn 1 (o := 1) (s := 1) rfl (opens_i64 Tryd.underlying3) rfl (cellsOf_sz tk sz3 (by decide))
  obtain ⟨y2, w2, r2, o2⟩ := opens_f hx hn 2 (o := 2) (s := 1) rfl (opens_i64 Tryd.underlying3) rfl (cellsOf_sz tk sz3 (by decide))
  obtain ⟨y3, w3, r3, o3⟩ := opens_f hx hn 3 (o := 3) (s := 1) rfl (opens_i64 Tryd.underlying3) rfl (cellsOf_sz tk sz3 (by decide))
  obtain ⟨y4, w4, r4, o4⟩ := opens_f hx hn 4 (o := 4) (s := 1) rfl (opens_l tk Tryd.underlying28 (enc_u td5 sz5) (opens_u rfl rfl Tryd.underlying5)) rfl (cellsOf_sz tk sz28 (by decide))
  refine ⟨⟨y0, y1, y2, y3, y4⟩, ⟨w0, w1, w2, w3, w4⟩, ?_, ?_⟩
  · have h := (rel_piece r0 (rel_piece r1 (rel_piece r2 (rel_piece r3 (rel_piece r4 (rel_end hl))))))
    rw [List.drop_zero] at h
    first | exact h | (simp only [List.append_nil, List.append_assoc] at h ⊢; exact h) | (simpa [AV.cells, e_api_Entry, c_api_Entry] using h)
  · have h := (one_piece o0 (one_piece o1 (one_piece o2 (one_piece o3 (one_piece o4 (one_end hl))))))
    rw [List.drop_zero] at h
    exact h
def wf_api_Event (x : api_Event) : Prop := (wfI .i64) x.Kind ∧ (wfI .i64) x.Node ∧ wf_api_Entry x.X ∧ wfT x.Found
theorem opens32 : Opens Tryd.prog 32 e_api_Event wf_api_Event := by
  intro H enc w fuel cs x hx
  obtain ⟨xs, m, _, _, hl, hn, hx⟩ := DataW.trod_struct Tryd.underlying32 hx
  rw [cellsOf_sz tk sz32 (by decide)] at hl
  obtain ⟨y0, w0, r0, o0⟩ := opens_f hx hn 0 (o := 0) (s := 1) rfl (opens_i64 Tryd.underlying3) rfl (cellsOf_sz tk sz3 (by decide))
  obtain ⟨y1, w1, r1, o1⟩ := opens_f hx hn 1 (o := 1) (s := 1) rfl (opens_i64 Tryd.underlying3) rfl (cellsOf_sz tk sz3 (by decide))
  obtain ⟨y2, w2, r2, o2⟩ := opens_f hx hn 2 (o := 2) (s := 5) rfl opens30 rfl (cellsOf_sz tk sz30 (by decide))
  obtain ⟨y3, w3, r3, o3⟩ := opens_f hx hn 3 (o := 7) (s := 1) rfl (opens_b Tryd.underlying4) rfl (cellsOf_sz tk sz4 (by decide))
  refine ⟨⟨y0, y1, y2, y3⟩, ⟨w0, w1, w2, w3⟩, ?_, ?_⟩
  · have h := (rel_piece r0 (rel_piece r1 (rel_piece r2 (rel_piece r3 (rel_end hl)))))
    rw [List.drop_zero] at h
    first | exact h | (simp only [List.append_nil, List.append_assoc] at h ⊢; exact h) | (simpa [AV.cells, e_api_Event, c_api_Event] using h)
  · have h := (one_piece o0 (one_piece o1 (one_piece o2 (one_piece o3 (one_end hl)))))
    rw [List.drop_zero] at h
    exact h
def wf_judge_spot (x : judge_spot) : Prop := (wfI .i64) x.node ∧ wfS x.key
def wf_api_Step (x : api_Step) : Prop := wfS x.Op ∧ (wfI .i64) x.At ∧ (wfI .i64) x.Code
def wf_reflectlite_ValueError (x : reflectlite_ValueError) : Prop := wfS x.Method ∧ wfT x.Kind
def wf_abi_Method (x : abi_Method) : Prop := (wfI .i32) x.Name ∧ (wfI .i32) x.Mtyp ∧ (wfI .i32) x.Ifn ∧ (wfI .i32) x.Tfn
end Go.Proofs.YtgeflfdonoicaaaDoor
namespace Go.Proofs.YtgeflfdonoicaaaDoor
open Go Go.Va
set_option linter.unusedVariables false
set_option linter.unusedSimpArgs false
def metP (e : api_Event) (w : api_Event) : Bool := decide (w.Kind = 3 ∧ w.Found = true ∧ w.X.Key = e.X.Key ∧ w.X.Version = e.X.Version ∧ w.X.Value = e.X.Value)
theorem inner_eq (l : List api_Event) (hl : l.length ≤ 40) {i : Nat} (hi : i < l.length) (hk : l[i].Kind = 1) (F : FineAt (l.take i) l[i]) : L28_JudgeFine_l1 l (i : Int) (false, 0) = some (.inl true) := by
  obtain ⟨F1, F2⟩ := F hk
  have key := loopO_up (body := fun s => L28_JudgeFine_b1 l (i : Int) s.1 s.2) (fun j => ((l.take j).any (metP l[i]), (j : Int))) i (x := .inl ((l.take i).any (metP l[i]))) (fun j hj => by
    have hjl : j < l.length := by omega
    unfold L28_JudgeFine_b1
    simp only [lt_eq]
    rw [if_pos (decide_eq_true (by omega)), List.take_succ_eq_append_getElem hjl, List.any_append]
    simp only [ix_nat hjl, ix_nat hi, Option.bind_some]
    have hmem : l[j] ∈ l.take i := List.mem_take_iff_getElem.2 ⟨j, by omega, rfl⟩
    have h1 : (if (l.take j).any (metP l[i]) = true then some true else if (l[j].Kind == (3 : Int)) = true then if l[j].Found = true then if (l[j].X.Key == l[i].X.Key) = true then if (l[j].X.Version == l[i].X.Version) = true then some (l[j].X.Value == l[i].X.Value) else some false else some false else some false else some false) = some ((l.take j).any (metP l[i]) || metP l[i] l[j]) := by
      cases (l.take j).any (metP l[i]) with
      | true => rfl
      | false =>
        rw [if_neg (by decide), Bool.false_or]
        unfold metP
        by_cases a1 : l[j].Kind = 3
        · by_cases a2 : l[j].Found = true
          · by_cases a3 : l[j].X.Key = l[i].X.Key
            · by_cases a4 : l[j].X.Version = l[i].X.Version
              · by_cases a5 : l[j].X.Value = l[i].X.Value <;> simp [a1, a2, a3, a4, a5]
              · simp [a1, a2, a3, a4]
            · simp [a1, a2, a3]
          · simp [a1, a2]
        · simp [a1]
    have h2 : (if (l[j].Kind == (1 : Int)) = true then if (l[j].Node == l[i].Node) = true then if (l[j].X.Key == l[i].X.Key) = true then some (decide (l[j].X.Version > l[i].X.Version)) else some false else some false else some false) = some false := by
      by_cases a1 : l[j].Kind = 1
      · by_cases a2 : l[j].Node = l[i].Node
        · by_cases a3 : l[j].X.Key = l[i].X.Key
          · have := F2 _ hmem a1 a2 a3
            simp [a1, a2, a3, this]
          · simp [a1, a2, a3]
        · simp [a1, a2]
      · simp [a1]
    rw [h1]
    simp only [Option.bind_some]
    rw [h2]
    simp only [Option.bind_some, Bool.false_eq_true, if_false]
    rw [w64_nat (by omega)]
    simp) (by
    unfold L28_JudgeFine_b1
    simp only [lt_eq]
    rw [if_neg (by simp)])
  have e : (l.take i).any (metP l[i]) = true := by
    obtain ⟨w, hw, hp⟩ := F1
    exact List.any_eq_true.2 ⟨w, hw, decide_eq_true hp⟩
  rw [e] at key
  exact key
theorem JudgeFine_pure (l : List api_Event) (hw : wfL wf_api_Event l) : L28_JudgeFine l = some true := by
  unfold L28_JudgeFine
  simp only [lt_eq]
  have go : ∀ b : Bool, (b = false → l.length ≤ 40 ∧ allP l 0 newJ = .nil) → ((some b).bind fun s1 => if s1 = true then L28_works.bind fun v17 => some v17 else (L28_JudgeFine_l0 l (0 : Int)).bind fun o19 => Sum.elim (fun s26 : Unit => L28_works.bind fun v132 => some v132) (fun y => some y) o19) = some true := by
    intro b hb
    simp only [Option.bind_some, works28]
    cases b with
    | true => rfl
    | false =>
      obtain ⟨hl, ha⟩ := hb rfl
      rw [if_neg (by decide)]
      have F := allP_fine l [] 0 newJ ⟨fun n w h => (by cases h), fun h hh => (by cases hh)⟩ ha
      simp only [List.nil_append] at F
      have key := loopO_up (body := fun s => L28_JudgeFine_b0 l s) (fun j => ((j : Nat) : Int)) l.length (x := .inl ()) (fun j hj => by
        unfold L28_JudgeFine_b0
        simp only [lt_eq]
        rw [if_pos (decide_eq_true (by omega)), ix_nat hj]
        simp only [Option.bind_some]
        by_cases hk : l[j].Kind = 1
        · rw [if_neg (by simp [hk]), inner_eq l hl hj hk (F j hj)]
          simp only [Option.bind_some, Sum.elim_inl, Bool.not_true, Bool.false_eq_true, if_false]
          rw [w64_nat (by omega)]
        · rw [if_pos (by simpa using hk), w64_nat (by omega)]) (by
        unfold L28_JudgeFine_b0
        simp only [lt_eq]
        rw [if_neg (by simp)])
      have k2 : L28_JudgeFine_l0 l 0 = some (.inl ()) := key
      rw [k2]
      rfl
  rcases light_eq28 l with h | ⟨hl, r, h⟩
  · rw [h]
    simp only [Option.bind_some]
    rw [if_pos (by decide)]
    exact go true (fun h => by cases h)
  · rw [h]
    simp only [Option.bind_some]
    by_cases hr : r > 0
    · rw [if_pos (decide_eq_true hr)]
      exact go true (fun h => by cases h)
    · rw [if_neg (by simpa using hr), all_eq28 (by omega)]
      simp only [Option.bind_some]
      exact go _ (fun h => ⟨hl, by cases ha : allP l 0 newJ with
        | nil => rfl
        | fault _ _ _ _ => rw [ha] at h; cases h⟩)
end Go.Proofs.YtgeflfdonoicaaaDoor
namespace Go.Proofs.YtgeflfdonoicaaaDoor
open Go.ChangeShapes Go.WideShapes Go.RowKit
theorem own : ownKnob Tryd.prog.godebug = none := by kernel_rfl
theorem laidEt : Tryd.prog.globalNamed "errors.errorType" = some 0 := by kernel_rfl
theorem laidRt : (Tryd.prog.cutTypes.find? (·.1 == "internal/reflectlite.rtype")).map (·.2) = some 78 := by kernel_rfl
theorem laidRow : ((List.range 120).filter fun t => Tryd.prog.rowNamed t [101, 114, 114, 111, 114]) = [25] := by kernel_rfl
theorem laidSize : Tryd.prog.types.size = 120 := by kernel_rfl
def laidL {H : Type} : List (String × DataW H) := [("errors.errorType", Rows.laid_errors_errorType)]
theorem handle_of_laid {W : World} (h : laidMetH Tryd.prog laidL W) : W.cell? ⟨0, 0, none⟩ = some (.iface 78 (.agg #[.pointer (some ⟨1, 25, none⟩)])) := by
  have h' : laidMet Tryd.prog [] W ∧ handlesMet Tryd.prog laidL W := h
  obtain ⟨name, u, ty, e1, e2, e3, e4, e5⟩ := h'.2 _ (List.mem_singleton.2 rfl)
  have en : name = [101, 114, 114, 111, 114] := (Option.some.inj e1).symm
  subst en
  obtain rfl := Option.some.inj (laidRt.symm.trans e2)
  have hm : ty ∈ (List.range 120).filter fun t => Tryd.prog.rowNamed t [101, 114, 114, 111, 114] := List.mem_filter.2 ⟨List.mem_range.2 (by rw [← laidSize]; exact e3), e4⟩
  rw [laidRow] at hm
  obtain rfl := List.mem_singleton.1 hm
  have hh : typeHandle Tryd.prog 25 = .pointer (some ⟨1, 25, none⟩) := by kernel_rfl
  rw [hh] at e5
  simpa using World.var?_cell laidEt e5 0
noncomputable def laidWorld (os : Os) : World :=
  let w0 := World.holding Tryd.prog os ⟨#[], #[], []⟩
  { w0 with heap := w0.heap.modify 0 fun
      | .cells _ t frozen => .cells #[.iface 78 (.agg #[.pointer (some ⟨1, 25, none⟩)])] t frozen
      | o => o }
theorem laidWorld_met (os : Os) (args : Array Value) : laidMetH Tryd.prog laidL ((laidWorld os).forCall (fun _ _ => 0) ⟨#[], args, []⟩).memory :=
  laidMetH_of_parts (laidMet_nil _ _) (by kernel_rfl)
theorem gls_met {W : World} (h : laidMetH Tryd.prog laidL W) : ∀ p ∈ gls, W.cell? p.1 = some p.2 := by
  intro p hp
  obtain rfl := List.mem_singleton.1 hp
  exact handle_of_laid h
theorem laidOut : laidOutB Tryd.prog = true := by kernel_rfl
end Go.Proofs.YtgeflfdonoicaaaDoor
