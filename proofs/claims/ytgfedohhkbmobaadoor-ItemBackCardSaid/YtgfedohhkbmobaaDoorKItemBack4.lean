/- THERE AND BACK: entries that may be are read from their bytes as they were; bytes that are read are those of what they are. (part 4 of 6) -/
import Derived.Test.YtgfedohhkbmobaaDoorKItemBack3
namespace Go.Proofs.YtgfedohhkbmobaaDoor
open Go Go.Va
set_option linter.unusedVariables false
set_option linter.unusedSimpArgs false
set_option maxRecDepth 20000
theorem butterylaw06_Light_ok {x0 : List api_Entry} {r : Int} (H : butterylaw06_Light x0 = some r) (σ : St)  : ACall Tryd.prog 25 [((eL 5 e_api_Entry) x0)] σ (fun a τ => a = eI r ∧ τ = σ) := by
  unfold butterylaw06_Light at H
  refine ACall.pure (acall_start tk Tryd.func25 (by decide) rfl (Nat.le_of_ble_eq_true rfl) ?_)
  have hH := Holds.init σ
  refine awp_seq ?_
  refine awp_region rfl ?_
  refine wpo_mv (a := (eI (0 : Int))) rfl rfl rfl (o_as tk rfl (Wk.refl _)) ?_
  refine wpo_nil ?_
  refine awp_seq ?_
  refine awp_seq ?_
  refine awp_region rfl ?_
  refine wpo_mv (a := ((eL 5 e_api_Entry) x0)) rfl rfl rfl (o_mv tk rfl (Wk.refl _)) ?_
  refine wpo_lt H eI rfl rfl rfl (o_len tk td52 rfl) fun v2 H1 => ?_
  refine wpo_lt H1 eB rfl rfl rfl (o_ar tk rfl rfl rfl) fun v4 H3 => ?_
  refine wpo_nil ?_
  refine awp_if H3 rfl (fun H5 => ?_) (fun H5 => ?_)
  · refine awp_seq ?_
    refine awp_region rfl ?_
    refine wpo_mv (a := (eI (1 : Int))) rfl rfl rfl (o_as tk rfl (Wk.refl _)) ?_
    refine wpo_nil ?_
    refine awp_ret ?_
    obtain rfl := Option.some.inj H5
    exact ⟨_, (eI (1 : Int)), rfl, (.of_eq rfl), .of_eq ((enc_i64 td3 sz3).cut _ _ _), hH.noT⟩
  · refine awp_skip ?_
    refine awp_seq ?_
    refine awp_region rfl ?_
    refine wpo_mv (a := (eI (0 : Int))) rfl rfl rfl (o_as tk rfl (Wk.refl _)) ?_
    refine wpo_nil ?_
    refine awp_seq ?_
    refine awp_seq ?_
    refine awp_region rfl ?_
    refine wpo_mv (a := (eI (0 : Int))) rfl rfl rfl (o_as tk rfl (Wk.refl _)) ?_
    refine wpo_nil ?_
    refine awp_block ?_
    obtain ⟨o8, hs9, hj10⟩ := Option.bind_eq_some_iff.1 H5
    refine awp_cutx 0 (fun fr τ => ∃ s15 : Unit, o8 = .inl s15 ∧ WkF fr (fm []) ∧ Holds σ [] [] τ) ?_ ?_
    · rintro fr τ ⟨s15, rfl, hfr, hH⟩
      have H54 := hj10
      simp only [Sum.elim_inl] at H54
      refine AWP.fm [] hfr ?_
      refine awp_seq ?_
      refine awp_region rfl ?_
      refine wpo_mv (a := (eI (0 : Int))) rfl rfl rfl (o_as tk rfl (Wk.refl _)) ?_
      refine wpo_nil ?_
      refine awp_ret ?_
      obtain rfl := Option.some.inj H54
      exact ⟨_, (eI (0 : Int)), rfl, (.of_eq rfl), .of_eq ((enc_i64 td3 sz3).cut _ _ _), hH.noT⟩
    · refine awp_loopO (body := fun s => butterylaw06_Light_b0 x0 s.1 s.2) hs9 (fun (s : Int × Int) fr τ => WkF fr (fm [(0, ((eL 5 e_api_Entry) x0)), (3, (eI s.1)), (4, (eI s.2))]) ∧ Holds σ [] [] τ) ⟨(wkf_cons (.of_eq rfl) (wkf_cons (.of_eq rfl) (wkf_cons (.of_eq rfl) (wkf_nil _)))), hH⟩ ?_
      rintro ⟨c6, c7⟩ fr τ y11 ⟨hfr, hH⟩ hb13 hy14
      have H16 : butterylaw06_Light_b0 x0 c6 c7 = some y11 := hb13
      unfold butterylaw06_Light_b0 at H16
      refine AWP.fm [(0, ((eL 5 e_api_Entry) x0)), (3, (eI c6)), (4, (eI c7))] hfr ?_
      have hH : Holds σ [] [] τ := hH
      refine awp_seq ?_
      refine awp_seq ?_
      refine awp_region rfl ?_
      refine wpo_mv (a := (eI c7)) rfl rfl rfl (o_mv tk rfl (Wk.refl _)) ?_
      refine wpo_mv (a := ((eL 5 e_api_Entry) x0)) rfl rfl rfl (o_mv tk rfl (Wk.refl _)) ?_
      refine wpo_lt H16 eI rfl rfl rfl (o_len tk td52 rfl) fun v18 H17 => ?_
      refine wpo_lt H17 eB rfl rfl rfl (o_ar tk rfl rfl rfl) fun v20 H19 => ?_
      refine wpo_nil ?_
      refine awp_if H19 rfl (fun H21 => ?_) (fun H21 => ?_)
      · refine awp_skip ?_
        refine awp_seq ?_
        refine awp_block ?_
        refine awp_seq ?_
        refine awp_seq ?_
        obtain ⟨s22, hs24, hj25⟩ := Option.bind_eq_some_iff.1 H21
        refine awp_cutn (fun fr τ => WkF fr (fm [(0, ((eL 5 e_api_Entry) x0)), (3, (eI c6)), (4, (eI c7)), (29, (eB s22))]) ∧ Holds σ [] [] τ) ?_ ?_
        · rintro fr τ ⟨hfr, hH⟩
          have H39 := hj25
          refine AWP.fm [(0, ((eL 5 e_api_Entry) x0)), (3, (eI c6)), (4, (eI c7)), (29, (eB s22))] hfr ?_
          refine awp_if H39 rfl (fun H40 => ?_) (fun H40 => ?_)
          · refine awp_seq ?_
            refine awp_region rfl ?_
            refine wpo_mv (a := (eI (1 : Int))) rfl rfl rfl (o_as tk rfl (Wk.refl _)) ?_
            refine wpo_nil ?_
            refine awp_ret ?_
            have hz := hy14 _ (inj_inr H40)
            refine ⟨⟨_, inj_inr H40⟩, ?_⟩
            rw [← hz] at hj10
            have H41 := (show some _ = some _ from hj10)
            obtain rfl := Option.some.inj H41
            exact ⟨_, (eI (1 : Int)), rfl, (.of_eq rfl), .of_eq ((enc_i64 td3 sz3).cut _ _ _), hH.noT⟩
          · refine awp_skip ?_
            refine awp_seq ?_
            refine awp_region rfl ?_
            refine wpo_mv (a := (eI c6)) rfl rfl rfl (o_mv tk rfl (Wk.refl _)) ?_
            refine wpo_mv (a := ((eL 5 e_api_Entry) x0)) rfl rfl rfl (o_mv tk rfl (Wk.refl _)) ?_
            refine wpo_mv (a := (eI c7)) rfl rfl rfl (o_mv tk rfl (Wk.refl _)) ?_
            refine wpo_bd H40 (fun y => .fptr (e_api_Entry y).cells 0) rfl rfl rfl (fun v43 hv => o_ixa tk hv td52 enc50 rfl rfl) fun v43 hv43 H42 => ?_
            refine wpo_mv (a := (.fptr (c_api_Entry v43) 4)) rfl rfl rfl (o_c tk false rfl (fun _ => rfl)) ?_
            refine wpo_mv (a := ((eL 1 (@eU .u8 8)) v43.Value)) rfl rfl rfl (o_ld tk rfl rfl) ?_
            refine wpo_lt H42 eI rfl rfl rfl (o_len tk td22 rfl) fun v45 H44 => ?_
            refine wpo_lt H44 eI rfl rfl rfl (o_ar tk rfl rfl rfl) fun v47 H46 => ?_
            refine wpo_mv (a := (eI v47)) rfl rfl rfl (o_as tk rfl (Wk.refl _)) ?_
            refine wpo_nil ?_
            refine awp_seq ?_
            refine awp_region rfl ?_
            refine wpo_mv (a := (eI v47)) rfl rfl rfl (o_mv tk rfl (Wk.refl _)) ?_
            refine wpo_lt H46 eB rfl rfl rfl (o_ar tk rfl rfl rfl) fun v49 H48 => ?_
            refine wpo_nil ?_
            refine awp_if H48 rfl (fun H50 => ?_) (fun H50 => ?_)
            · refine awp_seq ?_
              refine awp_region rfl ?_
              refine wpo_mv (a := (eI (1 : Int))) rfl rfl rfl (o_as tk rfl (Wk.refl _)) ?_
              refine wpo_nil ?_
              refine awp_ret ?_
              have hz := hy14 _ (inj_inr H50)
              refine ⟨⟨_, inj_inr H50⟩, ?_⟩
              rw [← hz] at hj10
              have H51 := (show some _ = some _ from hj10)
              obtain rfl := Option.some.inj H51
              exact ⟨_, (eI (1 : Int)), rfl, (.of_eq rfl), .of_eq ((enc_i64 td3 sz3).cut _ _ _), hH.noT⟩
            · refine awp_skip ?_
              refine awp_region rfl ?_
              refine wpo_mv (a := (eI c7)) rfl rfl rfl (o_mv tk rfl (Wk.refl _)) ?_
              refine wpo_lt H50 eI rfl rfl rfl (o_ar tk rfl rfl rfl) fun v53 H52 => ?_
              refine wpo_mv (a := (eI v53)) rfl rfl rfl (o_as tk rfl (Wk.refl _)) ?_
              refine wpo_nil ?_
              exact ⟨(v47, v53), inj_inl H52, (wkf_cons (.of_eq rfl) (wkf_cons (.of_eq rfl) (wkf_cons (.of_eq rfl) (wkf_nil _)))), hH⟩
        · refine awp_region rfl ?_
          refine wpo_mv (a := ((eL 5 e_api_Entry) x0)) rfl rfl rfl (o_mv tk rfl (Wk.refl _)) ?_
          refine wpo_mv (a := (eI c7)) rfl rfl rfl (o_mv tk rfl (Wk.refl _)) ?_
          refine wpo_bd hs24 (fun y => .fptr (e_api_Entry y).cells 0) rfl rfl rfl (fun v27 hv => o_ixa tk hv td52 enc50 rfl rfl) fun v27 hv27 H26 => ?_
          refine wpo_mv (a := (.fptr (c_api_Entry v27) 0)) rfl rfl rfl (o_c tk false rfl (fun _ => rfl)) ?_
          refine wpo_mv (a := (eS v27.Key)) rfl rfl rfl (o_ld tk rfl rfl) ?_
          refine wpo_lt H26 eI rfl rfl rfl (o_len_s tk td9 rfl) fun v29 H28 => ?_
          refine wpo_lt H28 eB rfl rfl rfl (o_ar tk rfl rfl rfl) fun v31 H30 => ?_
          refine wpo_mv (a := (eB v31)) rfl rfl rfl (o_mv tk rfl (Wk.refl _)) ?_
          refine if_split H30 (fun hb H32 => ?_) (fun hb H32 => ?_)
          · subst hb
            refine wpo_skip rfl rfl rfl ?_
            refine wpo_skip rfl rfl rfl ?_
            refine wpo_skip rfl rfl rfl ?_
            refine wpo_skip rfl rfl rfl ?_
            refine wpo_skip rfl rfl rfl ?_
            refine wpo_skip rfl rfl rfl ?_
            refine wpo_skip rfl rfl rfl ?_
            refine wpo_mv (a := (eB true)) rfl rfl rfl (o_pick_t tk rfl rfl (Wk.refl _)) ?_
            refine wpo_nil ?_
            have e := Option.some.inj H32
            subst e
            exact ⟨(wkf_cons (.of_eq rfl) (wkf_cons (.of_eq rfl) (wkf_cons (.of_eq rfl) (wkf_cons (.of_eq rfl) (wkf_nil _))))), hH⟩
          · subst hb
            refine wpo_mv (a := ((eL 5 e_api_Entry) x0)) rfl rfl rfl (o_mv tk rfl (Wk.refl _)) ?_
            refine wpo_mv (a := (eI c7)) rfl rfl rfl (o_mv tk rfl (Wk.refl _)) ?_
            refine wpo_bd H32 (fun y => .fptr (e_api_Entry y).cells 0) rfl rfl rfl (fun v34 hv => o_ixa tk hv td52 enc50 rfl rfl) fun v34 hv34 H33 => ?_
            refine wpo_mv (a := (.fptr (c_api_Entry v34) 4)) rfl rfl rfl (o_c tk false rfl (fun _ => rfl)) ?_
            refine wpo_mv (a := ((eL 1 (@eU .u8 8)) v34.Value)) rfl rfl rfl (o_ld tk rfl rfl) ?_
            refine wpo_lt H33 eI rfl rfl rfl (o_len tk td22 rfl) fun v36 H35 => ?_
            refine wpo_lt H35 eB rfl rfl rfl (o_ar tk rfl rfl rfl) fun v38 H37 => ?_
            refine wpo_mv (a := (eB v38)) rfl rfl rfl (o_pick_f tk rfl rfl (Wk.refl _)) ?_
            refine wpo_nil ?_
            have e := Option.some.inj H37
            subst e
            exact ⟨(wkf_cons (.of_eq rfl) (wkf_cons (.of_eq rfl) (wkf_cons (.of_eq rfl) (wkf_cons (.of_eq rfl) (wkf_nil _))))), hH⟩
      · refine awp_exit ?_
        have hz := hy14 _ (inj_inr H21)
        exact ⟨⟨_, inj_inr H21⟩, (), hz.symm, (wkf_nil _), hH⟩
end Go.Proofs.YtgfedohhkbmobaaDoor
namespace Go.Proofs.YtgfedohhkbmobaaDoor
open Go Go.Va
set_option linter.unusedVariables false
set_option linter.unusedSimpArgs false
set_option maxRecDepth 20000
theorem trouble_Of_ok {x0 : Err} {r : Int} (H : trouble_Of x0 = some r) (σ : St) (hg : σ.gl = gls) : ACall Tryd.prog 16 [eErr x0] σ (fun a τ => a = eI r ∧ τ = σ) := by
  obtain rfl := Option.some.inj H
  refine ACall.pure (acall_start tk Tryd.func16 (by decide) rfl (Nat.le_of_ble_eq_true rfl) ?_)
  have hH := Holds.init σ
  refine awp_seq ?_
  refine awp_region rfl ?_
  refine wpo_mv (a := (eI (0 : Int))) rfl rfl rfl (o_as tk rfl (Wk.refl _)) ?_
  refine wpo_nil ?_
  refine awp_seq ?_
  refine awp_block ?_
  have hs := trouble_Of_l0 x0
  refine awp_cutx 0 (fun fr τ => codeOf x0 = 0 ∧ WkF fr (fm []) ∧ Holds σ [] [] τ) ?_ ?_
  · rintro fr τ ⟨h0, hfr, hH⟩
    refine AWP.fm [] hfr ?_
    refine awp_seq ?_
    refine awp_region rfl ?_
    refine wpo_mv (a := (eI 0)) rfl rfl rfl (o_as tk rfl (Wk.refl _)) ?_
    refine wpo_nil ?_
    refine awp_ret ?_
    rw [h0]
    exact ⟨_, (eI 0), rfl, (.of_eq rfl), .of_eq rfl, hH.noT⟩
  · refine awp_loopO (body := trouble_Of_b0) hs (fun (s : Err) fr τ => WkF fr (fm [(0, eErr s)]) ∧ Holds σ [] [] τ) ⟨(wkf_cons (.of_eq rfl) (wkf_nil _)), hH⟩ ?_
    rintro c1 fr τ y ⟨hfr, hH⟩ hb hy
    refine AWP.fm [(0, eErr c1)] hfr ?_
    cases c1 with
    | nil =>
      refine awp_seq ?_
      refine awp_seq ?_
      refine awp_region rfl ?_
      refine wpo_mv (a := eErr .nil) rfl rfl rfl (o_mv tk rfl (Wk.refl _)) ?_
      refine wpo_mv (a := eB false) rfl rfl rfl (o_err_neq (x := .nil) tk rfl rfl rfl) ?_
      refine wpo_nil ?_
      refine awp_false rfl ?_
      refine awp_exit ?_
      have hb : some (Sum.inr (Sum.inl ())) = some y := hb
      have hz := hy _ (Option.some.inj hb).symm
      refine ⟨⟨_, (Option.some.inj hb).symm⟩, ?_, (wkf_nil _), hH⟩
      split at hz
      · assumption
      · cases hz
    | fault o a c u =>
      refine awp_seq ?_
      refine awp_seq ?_
      refine awp_region rfl ?_
      refine wpo_mv (a := eErr (.fault o a c u)) rfl rfl rfl (o_mv tk rfl (Wk.refl _)) ?_
      refine wpo_mv (a := eB true) rfl rfl rfl (o_err_neq (x := .fault o a c u) tk rfl rfl rfl) ?_
      refine wpo_nil ?_
      refine awp_true rfl ?_
      refine awp_skip ?_
      refine awp_block ?_
      refine awp_seq ?_
      refine awp_region rfl ?_
      refine wpo_a (av := fun id => .ref id 0) rfl rfl rfl (h_alloc tk hH ty83 [.nilp] rfl) fun id τ ⟨hH, hn⟩ => ?_
      refine wpo_nil ?_
      refine awp_seq ?_
      refine awp_seq ?_
      refine awp_region rfl ?_
      refine wpo_mv (a := eErr (.fault o a c u)) rfl rfl rfl (o_mv tk rfl (Wk.refl _)) ?_
      refine wpo_mv (a := .iface 85 (.ref id 0)) rfl rfl rfl (o_c tk false rfl (fun _ => rfl)) ?_
      refine wpo_cb (α := Unit) (z := some ()) (k := fun _ => some ()) (r := ()) rfl (fun _ _ => eB true) rfl rfl rfl (fun v hv => h_call1 hH [(0, (id, [(Err.fault o a c u).ptr]))] ⟨⟨_, rfl⟩, trivial⟩ rfl rfl (.cons (.of_eq rfl) (.cons (.of_eq rfl) .nil)) (as_ok (x := .fault o a c u) rfl (hH.at_ 0 rfl) (hH.gl.trans hg))) fun _ _ τ _ _ hH => ?_
      refine wpo_mv (a := eB false) rfl rfl rfl (o_un tk rfl rfl) ?_
      refine wpo_nil ?_
      refine awp_false rfl ?_
      refine awp_skip ?_
      refine awp_seq ?_
      refine awp_seq ?_
      refine awp_region rfl ?_
      refine wpo_rd (a := (Err.fault o a c u).ptr) rfl rfl rfl (h_ld tk hH 0 rfl rfl rfl) ?_
      refine wpo_mv (a := (Err.fault o a c u).ptr) rfl rfl rfl (o_c tk false rfl (fun _ => rfl)) ?_
      refine wpo_mv (a := .fptr [eS o, eI a, eI c, eErr u] 2) rfl rfl rfl (o_c tk false rfl (fun _ => rfl)) ?_
      refine wpo_mv (a := eI c) rfl rfl rfl (o_ld tk rfl rfl) ?_
      refine wpo_mv (a := eB (c != 0)) rfl rfl rfl (o_ar tk rfl rfl rfl) ?_
      refine wpo_nil ?_
      have hb : (if (c != 0) = true then some (.inr (.inr c)) else some (.inl u)) = some y := hb
      refine awp_if hb rfl (fun hb => ?_) (fun hb => ?_)
      · refine awp_seq ?_
        refine awp_region rfl ?_
        refine wpo_rd (a := (Err.fault o a c u).ptr) rfl rfl rfl (h_ld tk hH 0 rfl rfl rfl) ?_
        refine wpo_mv (a := (Err.fault o a c u).ptr) rfl rfl rfl (o_c tk false rfl (fun _ => rfl)) ?_
        refine wpo_mv (a := .fptr [eS o, eI a, eI c, eErr u] 2) rfl rfl rfl (o_c tk false rfl (fun _ => rfl)) ?_
        refine wpo_mv (a := eI c) rfl rfl rfl (o_ld tk rfl rfl) ?_
        refine wpo_mv (a := eI c) rfl rfl rfl (o_as tk rfl (Wk.refl _)) ?_
        refine wpo_nil ?_
        refine awp_ret ?_
        have hz := hy _ (Option.some.inj hb).symm
        refine ⟨⟨_, (Option.some.inj hb).symm⟩, ?_⟩
        have hc : codeOf x0 = c := by
          split at hz
          · cases hz
          · exact Sum.inr.inj hz.symm
        rw [hc]
        exact ⟨_, (eI c), rfl, (.of_eq rfl), .of_eq rfl, (hH.noT.drop hn)⟩
      · refine awp_skip ?_
        refine awp_region rfl ?_
        refine wpo_rd (a := (Err.fault o a c u).ptr) rfl rfl rfl (h_ld tk hH 0 rfl rfl rfl) ?_
        refine wpo_mv (a := (Err.fault o a c u).ptr) rfl rfl rfl (o_c tk false rfl (fun _ => rfl)) ?_
        refine wpo_mv (a := .fptr [eS o, eI a, eI c, eErr u] 3) rfl rfl rfl (o_c tk false rfl (fun _ => rfl)) ?_
        refine wpo_mv (a := eErr u) rfl rfl rfl (o_ld tk rfl (by cases u <;> rfl)) ?_
        refine wpo_mv (a := eErr u) rfl rfl rfl (o_as tk rfl (Wk.refl _)) ?_
        refine wpo_nil ?_
        exact ⟨u, (Option.some.inj hb).symm, (wkf_cons (.of_eq rfl) (wkf_nil _)), hH.drop hn⟩
end Go.Proofs.YtgfedohhkbmobaaDoor
namespace Go.Proofs.YtgfedohhkbmobaaDoor
open Go Go.Va
set_option linter.unusedVariables false
set_option linter.unusedSimpArgs false
set_option maxRecDepth 20000
theorem trouble_New_ok {x0 : List (BitVec 8)} {x1 : Int} {x2 : Int} {r : Err} (H : trouble_New x0 x1 x2 = some r) (σ : St)  : ACall Tryd.prog 54 [(eS x0), (eI x1), (eI x2)] σ (fun a τ => a = eErr r ∧ τ = σ) := by
  unfold trouble_New at H
  refine ACall.pure (acall_start tk Tryd.func54 (by decide) rfl (Nat.le_of_ble_eq_true rfl) ?_)
  have hH := Holds.init σ
  refine awp_seq ?_
  refine awp_region rfl ?_
  refine wpo_mv (a := (eErr Err.nil)) rfl rfl rfl (o_as tk rfl (Wk.refl _)) ?_
  refine wpo_nil ?_
  refine awp_seq ?_
  refine awp_seq ?_
  refine awp_region rfl ?_
  refine wpo_mv (a := (eI x2)) rfl rfl rfl (o_mv tk rfl (Wk.refl _)) ?_
  refine wpo_lt H eB rfl rfl rfl (o_ar tk rfl rfl rfl) fun v2 H1 => ?_
  refine wpo_nil ?_
  refine awp_if H1 rfl (fun H3 => ?_) (fun H3 => ?_)
  · refine awp_seq ?_
    refine awp_region rfl ?_
    refine wpo_mv (a := (eErr Err.nil)) rfl rfl rfl (o_as tk rfl (Wk.refl _)) ?_
    refine wpo_nil ?_
    refine awp_ret ?_
    obtain rfl := Option.some.inj H3
    exact ⟨_, (eErr Err.nil), rfl, (.of_eq rfl), .of_eq (encErr.cut _ _ _), hH.noT⟩
  · refine awp_skip ?_
    refine awp_seq ?_
    refine awp_region rfl ?_
    refine wpo_mv (a := (eS x0)) rfl rfl rfl (o_mv tk rfl (Wk.refl _)) ?_
    refine wpo_mv (a := (eI x1)) rfl rfl rfl (o_mv tk rfl (Wk.refl _)) ?_
    refine wpo_mv (a := (eI x2)) rfl rfl rfl (o_mv tk rfl (Wk.refl _)) ?_
    refine wpo_lt H3 e_trouble_fault rfl rfl rfl (o_c tk false rfl (fun _ => rfl)) fun v5 H4 => ?_
    refine wpo_mv (a := (.fptr (c_trouble_fault v5) 0)) rfl rfl rfl (o_boxf tk rfl (.of_eq rfl) (b := (e_trouble_fault v5)) (enc87.flat _)) ?_
    refine wpo_mv (a := (eErr (Err.fault v5.op v5.at_ v5.code v5.under))) rfl rfl rfl (o_c tk false rfl (fun _ => rfl)) ?_
    refine wpo_mv (a := (eErr (Err.fault v5.op v5.at_ v5.code v5.under))) rfl rfl rfl (o_as tk rfl (Wk.refl _)) ?_
    refine wpo_nil ?_
    refine awp_ret ?_
    obtain rfl := Option.some.inj H4
    exact ⟨_, (eErr (Err.fault v5.op v5.at_ v5.code v5.under)), rfl, (.of_eq rfl), .of_eq (encErr.cut _ _ _), hH.noT⟩
end Go.Proofs.YtgfedohhkbmobaaDoor
namespace Go.Proofs.YtgfedohhkbmobaaDoor
open Go Go.Va
set_option linter.unusedVariables false
set_option linter.unusedSimpArgs false
set_option maxRecDepth 20000
theorem octets_Key_ok {x0 : List (BitVec 8)} {r : Int} (H : octets_Key x0 = some r) (σ : St)  : ACall Tryd.prog 61 [(eS x0)] σ (fun a τ => a = eI r ∧ τ = σ) := by
  unfold octets_Key at H
  refine ACall.pure (acall_start tk Tryd.func61 (by decide) rfl (Nat.le_of_ble_eq_true rfl) ?_)
  have hH := Holds.init σ
  refine awp_seq ?_
  refine awp_region rfl ?_
  refine wpo_mv (a := (eI (0 : Int))) rfl rfl rfl (o_as tk rfl (Wk.refl _)) ?_
  refine wpo_nil ?_
  refine awp_seq ?_
  refine awp_seq ?_
  refine awp_region rfl ?_
  refine wpo_mv (a := (eS x0)) rfl rfl rfl (o_mv tk rfl (Wk.refl _)) ?_
  refine wpo_lt H eI rfl rfl rfl (o_len_s tk td9 rfl) fun v2 H1 => ?_
  refine wpo_mv (a := (eI v2)) rfl rfl rfl (o_as tk rfl (Wk.refl _)) ?_
  refine wpo_nil ?_
  refine awp_block ?_
  refine awp_seq ?_
  refine awp_region rfl ?_
  refine wpo_mv (a := (eI v2)) rfl rfl rfl (o_mv tk rfl (Wk.refl _)) ?_
  refine wpo_lt H1 eB rfl rfl rfl (o_ar tk rfl rfl rfl) fun v4 H3 => ?_
  refine wpo_mv (a := (eB v4)) rfl rfl rfl (o_as tk rfl (Wk.refl _)) ?_
  refine wpo_nil ?_
  refine awp_if H3 rfl (fun H5 => ?_) (fun H5 => ?_)
  · refine awp_seq ?_
    refine awp_region rfl ?_
    refine wpo_mv (a := (eI (1 : Int))) rfl rfl rfl (o_as tk rfl (Wk.refl _)) ?_
    refine wpo_nil ?_
    refine awp_ret ?_
    obtain rfl := Option.some.inj H5
    exact ⟨_, (eI (1 : Int)), rfl, (.of_eq rfl), .of_eq ((enc_i64 td30 sz30).cut _ _ _), hH.noT⟩
  · refine awp_seq ?_
    refine awp_region rfl ?_
    refine wpo_mv (a := (eI v2)) rfl rfl rfl (o_mv tk rfl (Wk.refl _)) ?_
    refine wpo_lt H5 eB rfl rfl rfl (o_ar tk rfl rfl rfl) fun v7 H6 => ?_
    refine wpo_mv (a := (eB v7)) rfl rfl rfl (o_as tk rfl (Wk.refl _)) ?_
    refine wpo_nil ?_
    refine awp_if H6 rfl (fun H8 => ?_) (fun H8 => ?_)
    · refine awp_seq ?_
      refine awp_region rfl ?_
      refine wpo_mv (a := (eI (3 : Int))) rfl rfl rfl (o_as tk rfl (Wk.refl _)) ?_
      refine wpo_nil ?_
      refine awp_ret ?_
      obtain rfl := Option.some.inj H8
      exact ⟨_, (eI (3 : Int)), rfl, (.of_eq rfl), .of_eq ((enc_i64 td30 sz30).cut _ _ _), hH.noT⟩
    · refine awp_skip ?_
      refine awp_seq ?_
      refine awp_region rfl ?_
      refine wpo_mv (a := (eI (0 : Int))) rfl rfl rfl (o_as tk rfl (Wk.refl _)) ?_
      refine wpo_nil ?_
      refine awp_ret ?_
      obtain rfl := Option.some.inj H8
      exact ⟨_, (eI (0 : Int)), rfl, (.of_eq rfl), .of_eq ((enc_i64 td30 sz30).cut _ _ _), hH.noT⟩
end Go.Proofs.YtgfedohhkbmobaaDoor
namespace Go.Proofs.YtgfedohhkbmobaaDoor
open Go Go.Va
set_option linter.unusedVariables false
set_option linter.unusedSimpArgs false
set_option maxRecDepth 20000
theorem item_Check_1_c_ok {x0 : List (BitVec 8)} {x1 : Int} {x2 : Int} {x3 : Err} {r : Err} (H : item_Check_1_c x0 x1 x2 x3 = some r) (σ : St) {p3 : Nat} (h3 : σ.objs[p3]? = some [eErr x3]) : ACall Tryd.prog 62 [(eS x0), (eI x1), (eI x2), (.ref p3 0)] σ (fun a τ => a = .tup [] ∧ τ = σ.puts [(p3, [eErr r])]) := by
  unfold item_Check_1_c at H
  refine ACall.out [(p3, [eErr r])] (by simp only [List.mem_cons, List.not_mem_nil, or_false]; rintro _ (rfl) ρ κ <;> exact (by simp only [cutL, encErr.cut ρ κ])) (acall_start tk Tryd.func62 (by decide) rfl (Nat.le_of_ble_eq_true rfl) ?_)
  have hH := Holds.init σ
  have hH := hH.bring h3 (fun _ h => by cases h)
  refine awp_seq ?_
  obtain ⟨s1, hs3, hj4⟩ := Option.bind_eq_some_iff.1 H
  refine awp_cutn (fun fr τ => WkF fr (fm [(0, (eS x0)), (1, (eI x1)), (3, (.ref p3 0)), (17, (eB s1))]) ∧ Holds σ [(p3, [eErr x3])] [] τ) ?_ ?_
  · rintro fr τ ⟨hfr, hH⟩
    have H13 := hj4
    refine AWP.fm [(0, (eS x0)), (1, (eI x1)), (3, (.ref p3 0)), (17, (eB s1))] hfr ?_
    refine awp_if H13 rfl (fun H14 => ?_) (fun H14 => ?_)
    · refine awp_region rfl ?_
      refine wpo_mv (a := (eS x0)) rfl rfl rfl (o_mv tk rfl (Wk.refl _)) ?_
      refine wpo_mv (a := (eI x1)) rfl rfl rfl (o_mv tk rfl (Wk.refl _)) ?_
      refine wpo_bd H14 eErr rfl rfl rfl (fun v16 hv => OpP.of_call rfl rfl (.cons (.of_eq rfl) (.cons (.of_eq rfl) (.cons (.of_eq rfl) .nil))) (trouble_New_ok hv)) fun v16 hv16 H15 => ?_
      obtain ⟨c18, hc19, H17⟩ := lt_ex H15
      refine wpo_z rfl rfl (h_st tk hH 0 rfl ty27 (by simp) rfl rfl (.of_eq rfl) (b := (eErr v16)) (encErr.flat _) (by rw [show (eErr _).cells = [eErr _] from encErr.one rfl _]; rfl) (Nat.le_of_ble_eq_true rfl) [eErr c18] (by rw [← hc19, show (eErr _).cells = [eErr _] from encErr.one rfl _]; rfl)) fun τ hH => ?_
      refine wpo_nil ?_
      obtain rfl := Option.some.inj H17
      exact ⟨_, (.tup []), rfl, (.of_eq rfl), .of_eq rfl, hH.noT⟩
    · refine awp_skip ?_
      obtain rfl := Option.some.inj H14
      exact ⟨_, (.tup []), rfl, (.of_eq rfl), .of_eq rfl, hH.noT⟩
  · refine awp_region rfl ?_
    refine wpo_rd (a := (eErr x3)) rfl rfl rfl (h_ld tk hH 0 rfl rfl rfl) ?_
    refine wpo_lt hs3 eB rfl rfl rfl (o_err_eql tk rfl rfl rfl) fun v6 H5 => ?_
    refine wpo_mv (a := (eB v6)) rfl rfl rfl (o_mv tk rfl (Wk.refl _)) ?_
    refine if_split H5 (fun hb H7 => ?_) (fun hb H7 => ?_)
    · subst hb
      refine wpo_mv (a := (eI x1)) rfl rfl rfl (o_mv tk rfl (Wk.refl _)) ?_
      refine wpo_mv (a := (eI x2)) rfl rfl rfl (o_mv tk rfl (Wk.refl _)) ?_
      refine wpo_lt H7 eB rfl rfl rfl (o_ar tk rfl rfl rfl) fun v9 H8 => ?_
      refine wpo_mv (a := (eB v9)) rfl rfl rfl (o_mv tk rfl (Wk.refl _)) ?_
      refine if_split H8 (fun hb H10 => ?_) (fun hb H10 => ?_)
      · subst hb
        refine wpo_skip rfl rfl rfl ?_
        refine wpo_skip rfl rfl rfl ?_
        refine wpo_mv (a := (eB true)) rfl rfl rfl (o_pick_t tk rfl rfl (Wk.refl _)) ?_
        refine wpo_mv (a := (eB true)) rfl rfl rfl (o_pick_t tk rfl rfl (Wk.refl _)) ?_
        refine wpo_nil ?_
        have e := Option.some.inj H10
        subst e
        exact ⟨(wkf_cons (.of_eq rfl) (wkf_cons (.of_eq rfl) (wkf_cons (.of_eq rfl) (wkf_cons (.of_eq rfl) (wkf_nil _))))), hH⟩
      · subst hb
        refine wpo_mv (a := (eI x1)) rfl rfl rfl (o_mv tk rfl (Wk.refl _)) ?_
        refine wpo_lt H10 eB rfl rfl rfl (o_ar tk rfl rfl rfl) fun v12 H11 => ?_
        refine wpo_mv (a := (eB v12)) rfl rfl rfl (o_pick_f tk rfl rfl (Wk.refl _)) ?_
        refine wpo_mv (a := (eB v12)) rfl rfl rfl (o_pick_t tk rfl rfl (Wk.refl _)) ?_
        refine wpo_nil ?_
        have e := Option.some.inj H11
        subst e
        exact ⟨(wkf_cons (.of_eq rfl) (wkf_cons (.of_eq rfl) (wkf_cons (.of_eq rfl) (wkf_cons (.of_eq rfl) (wkf_nil _))))), hH⟩
    · subst hb
      refine wpo_skip rfl rfl rfl ?_
      refine wpo_skip rfl rfl rfl ?_
      refine wpo_skip rfl rfl rfl ?_
      refine wpo_skip rfl rfl rfl ?_
      refine wpo_skip rfl rfl rfl ?_
      refine wpo_skip rfl rfl rfl ?_
      refine wpo_skip rfl rfl rfl ?_
      refine wpo_mv (a := (eB false)) rfl rfl rfl (o_pick_f tk rfl rfl (Wk.refl _)) ?_
      refine wpo_nil ?_
      have e := Option.some.inj H7
      subst e
      exact ⟨(wkf_cons (.of_eq rfl) (wkf_cons (.of_eq rfl) (wkf_cons (.of_eq rfl) (wkf_cons (.of_eq rfl) (wkf_nil _))))), hH⟩
end Go.Proofs.YtgfedohhkbmobaaDoor
namespace Go.Proofs.YtgfedohhkbmobaaDoor
open Go Go.Va
set_option linter.unusedVariables false
set_option linter.unusedSimpArgs false
set_option maxRecDepth 20000
theorem item_Check_ok {x0 : api_Entry} {r : Err} (H : item_Check x0 = some r) (σ : St)  : ACall Tryd.prog 27 [(e_api_Entry x0)] σ (fun a τ => a = eErr r ∧ τ = σ) := by
  unfold item_Check at H
  refine ACall.pure (acall_start tk Tryd.func27 (by decide) rfl (Nat.le_of_ble_eq_true rfl) ?_)
  have hH := Holds.init σ
  refine awp_seq ?_
  refine awp_region rfl ?_
  refine wpo_mv (a := (.fptr (c_api_Entry x0) 0)) rfl rfl rfl (o_boxf tk rfl (.of_eq rfl) (b := (e_api_Entry x0)) (enc50.flat _)) ?_
  refine wpo_mv (a := (eErr Err.nil)) rfl rfl rfl (o_as tk rfl (Wk.refl _)) ?_
  refine wpo_nil ?_
  refine awp_seq ?_
  refine awp_seq ?_
  refine awp_region rfl ?_
  refine wpo_mv (a := (.fptr (c_api_Entry x0) 0)) rfl rfl rfl (o_c tk false rfl (fun _ => rfl)) ?_
  refine wpo_mv (a := (eS x0.Key)) rfl rfl rfl (o_ld tk rfl rfl) ?_
  refine wpo_bd H eI rfl rfl rfl (fun v2 hv => OpP.of_call rfl rfl (.cons (.of_eq rfl) .nil) (octets_Key_ok hv)) fun v2 hv2 H1 => ?_
  refine wpo_mv (a := (eI v2)) rfl rfl rfl (o_as tk rfl (Wk.refl _)) ?_
  refine wpo_nil ?_
  refine awp_seq ?_
  refine awp_region rfl ?_
  refine wpo_mv (a := (eI v2)) rfl rfl rfl (o_mv tk rfl (Wk.refl _)) ?_
  refine wpo_lt H1 eB rfl rfl rfl (o_ar tk rfl rfl rfl) fun v4 H3 => ?_
  refine wpo_nil ?_
  refine awp_if H3 rfl (fun H5 => ?_) (fun H5 => ?_)
  · refine awp_seq ?_
    refine awp_region rfl ?_
    refine wpo_mv (a := (.fptr (c_api_Entry x0) 0)) rfl rfl rfl (o_c tk false rfl (fun _ => rfl)) ?_
    refine wpo_mv (a := (eS x0.Key)) rfl rfl rfl (o_ld tk rfl rfl) ?_
    refine wpo_lt H5 eI rfl rfl rfl (o_len_s tk td9 rfl) fun v7 H6 => ?_
    refine wpo_mv (a := (eI v2)) rfl rfl rfl (o_mv tk rfl (Wk.refl _)) ?_
    refine wpo_bd H6 eErr rfl rfl rfl (fun v9 hv => OpP.of_call rfl rfl (.cons (.of_eq rfl) (.cons (.of_eq rfl) (.cons (.of_eq rfl) .nil))) (trouble_New_ok hv)) fun v9 hv9 H8 => ?_
    refine wpo_mv (a := (eErr v9)) rfl rfl rfl (o_as tk rfl (Wk.refl _)) ?_
    refine wpo_nil ?_
    refine awp_ret ?_
    obtain rfl := Option.some.inj H8
    exact ⟨_, (eErr v9), rfl, (.of_eq rfl), .of_eq (encErr.cut _ _ _), hH.noT⟩
  · refine awp_skip ?_
    refine awp_seq ?_
    refine awp_region rfl ?_
    refine wpo_a (av := fun id => .ref id 0) rfl rfl rfl (h_alloc tk hH ty27 [eErr Err.nil] rfl) fun id10 τ ⟨hH, n11⟩ => ?_
    refine wpo_nil ?_
    refine awp_seq ?_
    refine awp_region rfl ?_
    refine wpo_mv (a := (.fn (.func 62) [] [(.ref id10 0)])) rfl rfl rfl (o_c tk false rfl (fun _ => rfl)) ?_
    refine wpo_mv (a := (.fn (.func 62) [] [(.ref id10 0)])) rfl rfl rfl (o_as tk rfl (Wk.refl _)) ?_
    refine wpo_nil ?_
    refine awp_seq ?_
    refine awp_region rfl ?_
    refine wpo_mv (a := (.fn (.func 62) [] [(.ref id10 0)])) rfl rfl rfl (o_mv tk rfl (Wk.refl _)) ?_
    refine wpo_mv (a := (.fptr (c_api_Entry x0) 1)) rfl rfl rfl (o_c tk false rfl (fun _ => rfl)) ?_
    refine wpo_mv (a := (eI x0.Version)) rfl rfl rfl (o_ld tk rfl rfl) ?_
    refine wpo_cb H5 (fun x _ => .tup []) rfl rfl rfl (fun v13 hv => h_call1 hH [(0, (id10, [eErr v13]))] ⟨⟨_, rfl⟩, trivial⟩ rfl rfl (.cons (.of_eq rfl) (.cons (.of_eq rfl) (.cons (.of_eq rfl) (.cons (.of_eq rfl) .nil)))) (item_Check_1_c_ok hv _ (hH.at_ 0 rfl))) fun v13 _ τ hv13 H12 hH => ?_
    refine wpo_nil ?_
    refine awp_seq ?_
    refine awp_region rfl ?_
    refine wpo_mv (a := (.fn (.func 62) [] [(.ref id10 0)])) rfl rfl rfl (o_mv tk rfl (Wk.refl _)) ?_
    refine wpo_mv (a := (.fptr (c_api_Entry x0) 2)) rfl rfl rfl (o_c tk false rfl (fun _ => rfl)) ?_
    refine wpo_mv (a := (eI x0.AsOf)) rfl rfl rfl (o_ld tk rfl rfl) ?_
    refine wpo_mv (a := (.fptr (c_api_Entry x0) 1)) rfl rfl rfl (o_c tk false rfl (fun _ => rfl)) ?_
    refine wpo_mv (a := (eI x0.Version)) rfl rfl rfl (o_ld tk rfl rfl) ?_
    refine wpo_cb H12 (fun x _ => .tup []) rfl rfl rfl (fun v15 hv => h_call1 hH [(0, (id10, [eErr v15]))] ⟨⟨_, rfl⟩, trivial⟩ rfl rfl (.cons (.of_eq rfl) (.cons (.of_eq rfl) (.cons (.of_eq rfl) (.cons (.of_eq rfl) .nil)))) (item_Check_1_c_ok hv _ (hH.at_ 0 rfl))) fun v15 _ τ hv15 H14 hH => ?_
    refine wpo_nil ?_
    refine awp_seq ?_
    refine awp_region rfl ?_
    refine wpo_mv (a := (.fn (.func 62) [] [(.ref id10 0)])) rfl rfl rfl (o_mv tk rfl (Wk.refl _)) ?_
    refine wpo_mv (a := (.fptr (c_api_Entry x0) 3)) rfl rfl rfl (o_c tk false rfl (fun _ => rfl)) ?_
    refine wpo_mv (a := (eI x0.Ends)) rfl rfl rfl (o_ld tk rfl rfl) ?_
    refine wpo_cb H14 (fun x _ => .tup []) rfl rfl rfl (fun v17 hv => h_call1 hH [(0, (id10, [eErr v17]))] ⟨⟨_, rfl⟩, trivial⟩ rfl rfl (.cons (.of_eq rfl) (.cons (.of_eq rfl) (.cons (.of_eq rfl) (.cons (.of_eq rfl) .nil)))) (item_Check_1_c_ok hv _ (hH.at_ 0 rfl))) fun v17 _ τ hv17 H16 hH => ?_
    refine wpo_nil ?_
    refine awp_seq ?_
    refine awp_seq ?_
    obtain ⟨s18, hs20, hj21⟩ := Option.bind_eq_some_iff.1 H16
    refine awp_cutn (fun fr τ => WkF fr (fm [(1, (.fptr (c_api_Entry x0) 0)), (4, (.ref id10 0)), (38, (eB s18))]) ∧ Holds σ [(id10, [eErr v17])] [] τ) ?_ ?_
    · rintro fr τ ⟨hfr, hH⟩
      have H29 := hj21
      refine AWP.fm [(1, (.fptr (c_api_Entry x0) 0)), (4, (.ref id10 0)), (38, (eB s18))] hfr ?_
      refine awp_if H29 rfl (fun H30 => ?_) (fun H30 => ?_)
      · refine awp_region rfl ?_
        refine wpo_mv (a := (.fptr (c_api_Entry x0) 4)) rfl rfl rfl (o_c tk false rfl (fun _ => rfl)) ?_
        refine wpo_mv (a := ((eL 1 (@eU .u8 8)) x0.Value)) rfl rfl rfl (o_ld tk rfl rfl) ?_
        refine wpo_lt H30 eI rfl rfl rfl (o_len tk td22 rfl) fun v32 H31 => ?_
        refine wpo_bd H31 eErr rfl rfl rfl (fun v34 hv => OpP.of_call rfl rfl (.cons (.of_eq rfl) (.cons (.of_eq rfl) (.cons (.of_eq rfl) .nil))) (trouble_New_ok hv)) fun v34 hv34 H33 => ?_
        obtain ⟨c36, hc37, H35⟩ := lt_ex H33
        refine wpo_z rfl rfl (h_st tk hH 0 rfl ty27 (by simp) rfl rfl (.of_eq rfl) (b := (eErr v34)) (encErr.flat _) (by rw [show (eErr _).cells = [eErr _] from encErr.one rfl _]; rfl) (Nat.le_of_ble_eq_true rfl) [eErr c36] (by rw [← hc37, show (eErr _).cells = [eErr _] from encErr.one rfl _]; rfl)) fun τ hH => ?_
        refine wpo_nil ?_
        refine awp_seq ?_
        refine awp_region rfl ?_
        refine wpo_rd (a := (eErr c36)) rfl rfl rfl (h_ld tk hH 0 rfl rfl rfl) ?_
        refine wpo_mv (a := (eErr c36)) rfl rfl rfl (o_as tk rfl (Wk.refl _)) ?_
        refine wpo_nil ?_
        refine awp_ret ?_
        obtain rfl := Option.some.inj H35
        exact ⟨_, (eErr c36), rfl, (.of_eq rfl), .of_eq (encErr.cut _ _ _), (hH.noT.drop n11)⟩
      · refine awp_skip ?_
        refine awp_seq ?_
        refine awp_region rfl ?_
        refine wpo_rd (a := (eErr v17)) rfl rfl rfl (h_ld tk hH 0 rfl rfl rfl) ?_
        refine wpo_mv (a := (eErr v17)) rfl rfl rfl (o_as tk rfl (Wk.refl _)) ?_
        refine wpo_nil ?_
        refine awp_ret ?_
        obtain rfl := Option.some.inj H30
        exact ⟨_, (eErr v17), rfl, (.of_eq rfl), .of_eq (encErr.cut _ _ _), (hH.noT.drop n11)⟩
    · refine awp_region rfl ?_
      refine wpo_rd (a := (eErr v17)) rfl rfl rfl (h_ld tk hH 0 rfl rfl rfl) ?_
      refine wpo_lt hs20 eB rfl rfl rfl (o_err_eql tk rfl rfl rfl) fun v23 H22 => ?_
      refine wpo_mv (a := (eB v23)) rfl rfl rfl (o_mv tk rfl (Wk.refl _)) ?_
      refine if_split H22 (fun hb H24 => ?_) (fun hb H24 => ?_)
      · subst hb
        refine wpo_mv (a := (.fptr (c_api_Entry x0) 4)) rfl rfl rfl (o_c tk false rfl (fun _ => rfl)) ?_
        refine wpo_mv (a := ((eL 1 (@eU .u8 8)) x0.Value)) rfl rfl rfl (o_ld tk rfl rfl) ?_
        refine wpo_lt H24 eI rfl rfl rfl (o_len tk td22 rfl) fun v26 H25 => ?_
        refine wpo_lt H25 eB rfl rfl rfl (o_ar tk rfl rfl rfl) fun v28 H27 => ?_
        refine wpo_mv (a := (eB v28)) rfl rfl rfl (o_pick_t tk rfl rfl (Wk.refl _)) ?_
        refine wpo_nil ?_
        have e := Option.some.inj H27
        subst e
        exact ⟨(wkf_cons (.of_eq rfl) (wkf_cons (.of_eq rfl) (wkf_cons (.of_eq rfl) (wkf_nil _)))), hH⟩
      · subst hb
        refine wpo_skip rfl rfl rfl ?_
        refine wpo_skip rfl rfl rfl ?_
        refine wpo_skip rfl rfl rfl ?_
        refine wpo_skip rfl rfl rfl ?_
        refine wpo_mv (a := (eB false)) rfl rfl rfl (o_pick_f tk rfl rfl (Wk.refl _)) ?_
        refine wpo_nil ?_
        have e := Option.some.inj H24
        subst e
        exact ⟨(wkf_cons (.of_eq rfl) (wkf_cons (.of_eq rfl) (wkf_cons (.of_eq rfl) (wkf_nil _)))), hH⟩
end Go.Proofs.YtgfedohhkbmobaaDoor
namespace Go.Proofs.YtgfedohhkbmobaaDoor
open Go Go.Va
set_option linter.unusedVariables false
set_option linter.unusedSimpArgs false
set_option maxRecDepth 20000
theorem item_Same_ok {x0 : api_Entry} {x1 : api_Entry} {r : Bool} (H : item_Same x0 x1 = some r) (σ : St)  : ACall Tryd.prog 29 [(e_api_Entry x0), (e_api_Entry x1)] σ (fun a τ => a = eB r ∧ τ = σ) := by
  unfold item_Same at H
  refine ACall.pure (acall_start tk Tryd.func29 (by decide) rfl (Nat.le_of_ble_eq_true rfl) ?_)
  have hH := Holds.init σ
  refine awp_seq ?_
  refine awp_region rfl ?_
  refine wpo_mv (a := (.fptr (c_api_Entry x0) 0)) rfl rfl rfl (o_boxf tk rfl (.of_eq rfl) (b := (e_api_Entry x0)) (enc50.flat _)) ?_
  refine wpo_mv (a := (.fptr (c_api_Entry x1) 0)) rfl rfl rfl (o_boxf tk rfl (.of_eq rfl) (b := (e_api_Entry x1)) (enc50.flat _)) ?_
  refine wpo_mv (a := (eB false)) rfl rfl rfl (o_as tk rfl (Wk.refl _)) ?_
  refine wpo_nil ?_
  refine awp_seq ?_
  refine awp_region rfl ?_
  refine wpo_mv (a := (.fptr (c_api_Entry x0) 0)) rfl rfl rfl (o_c tk false rfl (fun _ => rfl)) ?_
  refine wpo_mv (a := (eS x0.Key)) rfl rfl rfl (o_ld tk rfl rfl) ?_
  refine wpo_mv (a := (.fptr (c_api_Entry x1) 0)) rfl rfl rfl (o_c tk false rfl (fun _ => rfl)) ?_
  refine wpo_mv (a := (eS x1.Key)) rfl rfl rfl (o_ld tk rfl rfl) ?_
  refine wpo_lt H eB rfl rfl rfl (o_eql_s tk rfl rfl) fun v2 H1 => ?_
  refine wpo_mv (a := (eB v2)) rfl rfl rfl (o_mv tk rfl (Wk.refl _)) ?_
  refine if_split H1 (fun hb H3 => ?_) (fun hb H3 => ?_)
  · subst hb
    refine wpo_mv (a := (.fptr (c_api_Entry x0) 1)) rfl rfl rfl (o_c tk false rfl (fun _ => rfl)) ?_
    refine wpo_mv (a := (eI x0.Version)) rfl rfl rfl (o_ld tk rfl rfl) ?_
    refine wpo_mv (a := (.fptr (c_api_Entry x1) 1)) rfl rfl rfl (o_c tk false rfl (fun _ => rfl)) ?_
    refine wpo_mv (a := (eI x1.Version)) rfl rfl rfl (o_ld tk rfl rfl) ?_
    refine wpo_lt H3 eB rfl rfl rfl (o_ar tk rfl rfl rfl) fun v5 H4 => ?_
    refine wpo_mv (a := (eB v5)) rfl rfl rfl (o_pick_t tk rfl rfl (Wk.refl _)) ?_
    refine wpo_mv (a := (eB v5)) rfl rfl rfl (o_mv tk rfl (Wk.refl _)) ?_
    refine if_split H4 (fun hb H6 => ?_) (fun hb H6 => ?_)
    · subst hb
      refine wpo_mv (a := (.fptr (c_api_Entry x0) 2)) rfl rfl rfl (o_c tk false rfl (fun _ => rfl)) ?_
      refine wpo_mv (a := (eI x0.AsOf)) rfl rfl rfl (o_ld tk rfl rfl) ?_
      refine wpo_mv (a := (.fptr (c_api_Entry x1) 2)) rfl rfl rfl (o_c tk false rfl (fun _ => rfl)) ?_
      refine wpo_mv (a := (eI x1.AsOf)) rfl rfl rfl (o_ld tk rfl rfl) ?_
      refine wpo_lt H6 eB rfl rfl rfl (o_ar tk rfl rfl rfl) fun v8 H7 => ?_
      refine wpo_mv (a := (eB v8)) rfl rfl rfl (o_pick_t tk rfl rfl (Wk.refl _)) ?_
      refine wpo_mv (a := (eB v8)) rfl rfl rfl (o_mv tk rfl (Wk.refl _)) ?_
      refine if_split H7 (fun hb H9 => ?_) (fun hb H9 => ?_)
      · subst hb
        refine wpo_mv (a := (.fptr (c_api_Entry x0) 3)) rfl rfl rfl (o_c tk false rfl (fun _ => rfl)) ?_
        refine wpo_mv (a := (eI x0.Ends)) rfl rfl rfl (o_ld tk rfl rfl) ?_
        refine wpo_mv (a := (.fptr (c_api_Entry x1) 3)) rfl rfl rfl (o_c tk false rfl (fun _ => rfl)) ?_
        refine wpo_mv (a := (eI x1.Ends)) rfl rfl rfl (o_ld tk rfl rfl) ?_
        refine wpo_lt H9 eB rfl rfl rfl (o_ar tk rfl rfl rfl) fun v11 H10 => ?_
        refine wpo_mv (a := (eB v11)) rfl rfl rfl (o_pick_t tk rfl rfl (Wk.refl _)) ?_
        refine wpo_mv (a := (eB v11)) rfl rfl rfl (o_mv tk rfl (Wk.refl _)) ?_
        refine if_split H10 (fun hb H12 => ?_) (fun hb H12 => ?_)
        · subst hb
          refine wpo_mv (a := (.fptr (c_api_Entry x0) 4)) rfl rfl rfl (o_c tk false rfl (fun _ => rfl)) ?_
          refine wpo_mv (a := ((eL 1 (@eU .u8 8)) x0.Value)) rfl rfl rfl (o_ld tk rfl rfl) ?_
          refine wpo_mv (a := (eS x0.Value)) rfl rfl rfl (o_b2s tk td22 td9 td5 rfl) ?_
          refine wpo_mv (a := (.fptr (c_api_Entry x1) 4)) rfl rfl rfl (o_c tk false rfl (fun _ => rfl)) ?_
          refine wpo_mv (a := ((eL 1 (@eU .u8 8)) x1.Value)) rfl rfl rfl (o_ld tk rfl rfl) ?_
          refine wpo_mv (a := (eS x1.Value)) rfl rfl rfl (o_b2s tk td22 td9 td5 rfl) ?_
          refine wpo_lt H12 eB rfl rfl rfl (o_eql_s tk rfl rfl) fun v14 H13 => ?_
          refine wpo_mv (a := (eB v14)) rfl rfl rfl (o_pick_t tk rfl rfl (Wk.refl _)) ?_
          refine wpo_mv (a := (eB v14)) rfl rfl rfl (o_as tk rfl (Wk.refl _)) ?_
          refine wpo_nil ?_
          refine awp_ret ?_
          obtain rfl := Option.some.inj H13
          exact ⟨_, (eB v14), rfl, (.of_eq rfl), .of_eq ((enc_b td4 sz4).cut _ _ _), hH.noT⟩
        · subst hb
          refine wpo_skip rfl rfl rfl ?_
          refine wpo_skip rfl rfl rfl ?_
          refine wpo_skip rfl rfl rfl ?_
          refine wpo_skip rfl rfl rfl ?_
          refine wpo_skip rfl rfl rfl ?_
          refine wpo_skip rfl rfl rfl ?_
          refine wpo_skip rfl rfl rfl ?_
          refine wpo_mv (a := (eB false)) rfl rfl rfl (o_pick_f tk rfl rfl (Wk.refl _)) ?_
          refine wpo_mv (a := (eB false)) rfl rfl rfl (o_as tk rfl (Wk.refl _)) ?_
          refine wpo_nil ?_
          refine awp_ret ?_
          obtain rfl := Option.some.inj H12
          exact ⟨_, (eB false), rfl, (.of_eq rfl), .of_eq ((enc_b td4 sz4).cut _ _ _), hH.noT⟩
      · subst hb
        refine wpo_skip rfl rfl rfl ?_
        refine wpo_skip rfl rfl rfl ?_
        refine wpo_skip rfl rfl rfl ?_
        refine wpo_skip rfl rfl rfl ?_
        refine wpo_skip rfl rfl rfl ?_
        refine wpo_mv (a := (eB false)) rfl rfl rfl (o_pick_f tk rfl rfl (Wk.refl _)) ?_
        refine wpo_mv (a := (eB false)) rfl rfl rfl (o_mv tk rfl (Wk.refl _)) ?_
        refine wpo_skip rfl rfl rfl ?_
        refine wpo_skip rfl rfl rfl ?_
        refine wpo_skip rfl rfl rfl ?_
        refine wpo_skip rfl rfl rfl ?_
        refine wpo_skip rfl rfl rfl ?_
        refine wpo_skip rfl rfl rfl ?_
        refine wpo_skip rfl rfl rfl ?_
        refine wpo_mv (a := (eB false)) rfl rfl rfl (o_pick_f tk rfl rfl (Wk.refl _)) ?_
        refine wpo_mv (a := (eB false)) rfl rfl rfl (o_as tk rfl (Wk.refl _)) ?_
        refine wpo_nil ?_
        refine awp_ret ?_
        obtain rfl := Option.some.inj H9
        exact ⟨_, (eB false), rfl, (.of_eq rfl), .of_eq ((enc_b td4 sz4).cut _ _ _), hH.noT⟩
    · subst hb
      refine wpo_skip rfl rfl rfl ?_
      refine wpo_skip rfl rfl rfl ?_
      refine wpo_skip rfl rfl rfl ?_
      refine wpo_skip rfl rfl rfl ?_
      refine wpo_skip rfl rfl rfl ?_
      refine wpo_mv (a := (eB false)) rfl rfl rfl (o_pick_f tk rfl rfl (Wk.refl _)) ?_
      refine wpo_mv (a := (eB false)) rfl rfl rfl (o_mv tk rfl (Wk.refl _)) ?_
      refine wpo_skip rfl rfl rfl ?_
      refine wpo_skip rfl rfl rfl ?_
      refine wpo_skip rfl rfl rfl ?_
      refine wpo_skip rfl rfl rfl ?_
      refine wpo_skip rfl rfl rfl ?_
      refine wpo_mv (a := (eB false)) rfl rfl rfl (o_pick_f tk rfl rfl (Wk.refl _)) ?_
      refine wpo_mv (a := (eB false)) rfl rfl rfl (o_mv tk rfl (Wk.refl _)) ?_
      refine wpo_skip rfl rfl rfl ?_
      refine wpo_skip rfl rfl rfl ?_
      refine wpo_skip rfl rfl rfl ?_
      refine wpo_skip rfl rfl rfl ?_
      refine wpo_skip rfl rfl rfl ?_
      refine wpo_skip rfl rfl rfl ?_
      refine wpo_skip rfl rfl rfl ?_
      refine wpo_mv (a := (eB false)) rfl rfl rfl (o_pick_f tk rfl rfl (Wk.refl _)) ?_
      refine wpo_mv (a := (eB false)) rfl rfl rfl (o_as tk rfl (Wk.refl _)) ?_
      refine wpo_nil ?_
      refine awp_ret ?_
      obtain rfl := Option.some.inj H6
      exact ⟨_, (eB false), rfl, (.of_eq rfl), .of_eq ((enc_b td4 sz4).cut _ _ _), hH.noT⟩
  · subst hb
    refine wpo_skip rfl rfl rfl ?_
    refine wpo_skip rfl rfl rfl ?_
    refine wpo_skip rfl rfl rfl ?_
    refine wpo_skip rfl rfl rfl ?_
    refine wpo_skip rfl rfl rfl ?_
    refine wpo_mv (a := (eB false)) rfl rfl rfl (o_pick_f tk rfl rfl (Wk.refl _)) ?_
    refine wpo_mv (a := (eB false)) rfl rfl rfl (o_mv tk rfl (Wk.refl _)) ?_
    refine wpo_skip rfl rfl rfl ?_
    refine wpo_skip rfl rfl rfl ?_
    refine wpo_skip rfl rfl rfl ?_
    refine wpo_skip rfl rfl rfl ?_
    refine wpo_skip rfl rfl rfl ?_
    refine wpo_mv (a := (eB false)) rfl rfl rfl (o_pick_f tk rfl rfl (Wk.refl _)) ?_
    refine wpo_mv (a := (eB false)) rfl rfl rfl (o_mv tk rfl (Wk.refl _)) ?_
    refine wpo_skip rfl rfl rfl ?_
    refine wpo_skip rfl rfl rfl ?_
    refine wpo_skip rfl rfl rfl ?_
    refine wpo_skip rfl rfl rfl ?_
    refine wpo_skip rfl rfl rfl ?_
    refine wpo_mv (a := (eB false)) rfl rfl rfl (o_pick_f tk rfl rfl (Wk.refl _)) ?_
    refine wpo_mv (a := (eB false)) rfl rfl rfl (o_mv tk rfl (Wk.refl _)) ?_
    refine wpo_skip rfl rfl rfl ?_
    refine wpo_skip rfl rfl rfl ?_
    refine wpo_skip rfl rfl rfl ?_
    refine wpo_skip rfl rfl rfl ?_
    refine wpo_skip rfl rfl rfl ?_
    refine wpo_skip rfl rfl rfl ?_
    refine wpo_skip rfl rfl rfl ?_
    refine wpo_mv (a := (eB false)) rfl rfl rfl (o_pick_f tk rfl rfl (Wk.refl _)) ?_
    refine wpo_mv (a := (eB false)) rfl rfl rfl (o_as tk rfl (Wk.refl _)) ?_
    refine wpo_nil ?_
    refine awp_ret ?_
    obtain rfl := Option.some.inj H3
    exact ⟨_, (eB false), rfl, (.of_eq rfl), .of_eq ((enc_b td4 sz4).cut _ _ _), hH.noT⟩
end Go.Proofs.YtgfedohhkbmobaaDoor
namespace Go.Proofs.YtgfedohhkbmobaaDoor
open Go Go.Va
set_option linter.unusedVariables false
set_option linter.unusedSimpArgs false
set_option maxRecDepth 20000
theorem item_Live_ok {x0 : api_Entry} {x1 : Int} {r : Bool} (H : item_Live x0 x1 = some r) (σ : St)  : ACall Tryd.prog 31 [(e_api_Entry x0), (eI x1)] σ (fun a τ => a = eB r ∧ τ = σ) := by
  unfold item_Live at H
  refine ACall.pure (acall_start tk Tryd.func31 (by decide) rfl (Nat.le_of_ble_eq_true rfl) ?_)
  have hH := Holds.init σ
  refine awp_seq ?_
  refine awp_region rfl ?_
  refine wpo_mv (a := (.fptr (c_api_Entry x0) 0)) rfl rfl rfl (o_boxf tk rfl (.of_eq rfl) (b := (e_api_Entry x0)) (enc50.flat _)) ?_
  refine wpo_mv (a := (eB false)) rfl rfl rfl (o_as tk rfl (Wk.refl _)) ?_
  refine wpo_nil ?_
  refine awp_seq ?_
  refine awp_region rfl ?_
  refine wpo_mv (a := (.fptr (c_api_Entry x0) 3)) rfl rfl rfl (o_c tk false rfl (fun _ => rfl)) ?_
  refine wpo_mv (a := (eI x0.Ends)) rfl rfl rfl (o_ld tk rfl rfl) ?_
  refine wpo_lt H eB rfl rfl rfl (o_ar tk rfl rfl rfl) fun v2 H1 => ?_
  refine wpo_mv (a := (eB v2)) rfl rfl rfl (o_mv tk rfl (Wk.refl _)) ?_
  refine if_split H1 (fun hb H3 => ?_) (fun hb H3 => ?_)
  · subst hb
    refine wpo_skip rfl rfl rfl ?_
    refine wpo_skip rfl rfl rfl ?_
    refine wpo_skip rfl rfl rfl ?_
    refine wpo_skip rfl rfl rfl ?_
    refine wpo_mv (a := (eB true)) rfl rfl rfl (o_pick_t tk rfl rfl (Wk.refl _)) ?_
    refine wpo_mv (a := (eB true)) rfl rfl rfl (o_as tk rfl (Wk.refl _)) ?_
    refine wpo_nil ?_
    refine awp_ret ?_
    obtain rfl := Option.some.inj H3
    exact ⟨_, (eB true), rfl, (.of_eq rfl), .of_eq ((enc_b td4 sz4).cut _ _ _), hH.noT⟩
  · subst hb
    refine wpo_mv (a := (.fptr (c_api_Entry x0) 3)) rfl rfl rfl (o_c tk false rfl (fun _ => rfl)) ?_
    refine wpo_mv (a := (eI x0.Ends)) rfl rfl rfl (o_ld tk rfl rfl) ?_
    refine wpo_mv (a := (eI x1)) rfl rfl rfl (o_mv tk rfl (Wk.refl _)) ?_
    refine wpo_lt H3 eB rfl rfl rfl (o_ar tk rfl rfl rfl) fun v5 H4 => ?_
    refine wpo_mv (a := (eB v5)) rfl rfl rfl (o_pick_f tk rfl rfl (Wk.refl _)) ?_
    refine wpo_mv (a := (eB v5)) rfl rfl rfl (o_as tk rfl (Wk.refl _)) ?_
    refine wpo_nil ?_
    refine awp_ret ?_
    obtain rfl := Option.some.inj H4
    exact ⟨_, (eB v5), rfl, (.of_eq rfl), .of_eq ((enc_b td4 sz4).cut _ _ _), hH.noT⟩
end Go.Proofs.YtgfedohhkbmobaaDoor
namespace Go.Proofs.YtgfedohhkbmobaaDoor
open Go Go.Va
set_option linter.unusedVariables false
set_option linter.unusedSimpArgs false
set_option maxRecDepth 20000
theorem item_Copy_ok {x0 : api_Entry} {r : api_Entry} (H : item_Copy x0 = some r) (σ : St)  : ACall Tryd.prog 33 [(e_api_Entry x0)] σ (fun a τ => a = e_api_Entry r ∧ τ = σ) := by
  unfold item_Copy at H
  refine ACall.pure (acall_start tk Tryd.func33 (by decide) rfl (Nat.le_of_ble_eq_true rfl) ?_)
  have hH := Holds.init σ
  refine awp_seq ?_
  refine awp_region rfl ?_
  refine wpo_a (av := fun id => .ref id 0) rfl rfl rfl (h_box tk hH rfl (.of_eq rfl) (b := (e_api_Entry x0)) (enc50.flat _) (c_api_Entry x0) rfl) fun id1 τ ⟨hH, n2⟩ => ?_
  refine wpo_a (av := fun id => .ref id 0) rfl rfl rfl (h_alloc tk hH ty50 [(eS z_api_Entry.Key), (eI z_api_Entry.Version), (eI z_api_Entry.AsOf), (eI z_api_Entry.Ends), AV.nils] rfl) fun id3 τ ⟨hH, n4⟩ => ?_
  refine wpo_nil ?_
  refine awp_seq ?_
  refine awp_region rfl ?_
  refine wpo_mv (a := (eF 1 (@eU .u8 8) ([] : List (BitVec 8)))) rfl rfl rfl (o_c tk false rfl (fun _ => rfl)) ?_
  refine wpo_mv (a := (.ref id1 4)) rfl rfl rfl (o_c tk false rfl (fun _ => rfl)) ?_
  refine wpo_rd (a := ((eL 1 (@eU .u8 8)) x0.Value)) rfl rfl rfl (h_ld tk hH 1 rfl rfl rfl) ?_
  obtain ⟨v6, hv7, H5⟩ := Option.bind_eq_some_iff.1 H
  refine wpo_a (av := fun t => eT t 1 (@eU .u8 8) v6) rfl rfl rfl (h_app0 tk hH hv7 td22 ty5 rfl (by decide) (.inr rfl) (src_l td22 rfl)) fun tk8 τ hH => ?_
  refine wpo_mv (a := (.ref id1 4)) rfl rfl rfl (o_c tk false rfl (fun _ => rfl)) ?_
  obtain ⟨c10, hc11, H9⟩ := lt_ex H5
  refine wpo_z rfl rfl (h_st (y := (eT tk8 1 (@eU .u8 8) v6)) tk hH 1 rfl ty22 (by simp) rfl rfl wk_no (b := ((eL 1 (@eU .u8 8)) v6)) rfl rfl (Nat.le_of_ble_eq_true rfl) (c_api_Entry c10) (by rw [← hc11]; rfl)) fun τ hH => ?_
  refine wpo_nil ?_
  refine awp_seq ?_
  refine awp_region rfl ?_
  refine wpo_rd (a := (e_api_Entry c10)) rfl rfl rfl (h_ld tk hH 1 rfl rfl rfl) ?_
  refine wpo_z rfl rfl (h_st tk hH 0 rfl ty50 (by simp) rfl rfl (.of_eq rfl) (b := (e_api_Entry c10)) (enc50.flat _) rfl (Nat.le_of_ble_eq_true rfl) (c_api_Entry (c10 : api_Entry)) rfl) fun τ hH => ?_
  refine wpo_nil ?_
  refine awp_ret ?_
  obtain rfl := Option.some.inj H9
  exact ⟨_, (e_api_Entry (c10 : api_Entry)), (ares_1 (ares_cell hH 0 rfl rfl rfl)), (.of_eq rfl), .of_eq (enc50.cut _ _ _), ((hH.noT.drop n4).drop n2)⟩
end Go.Proofs.YtgfedohhkbmobaaDoor
namespace Go.Proofs.YtgfedohhkbmobaaDoor
open Go Go.Va
set_option linter.unusedVariables false
set_option linter.unusedSimpArgs false
set_option maxRecDepth 20000
theorem octets_Put_app {x0 : List (BitVec 8)} {x1 : List Int} {r : (List (BitVec 8))} (H : octets_Put x0 x1 = some r) (σ : St)  : ACall Tryd.prog 70 [((eL 1 (@eU .u8 8)) x0), ((eL 1 eI) x1)] σ (fun a τ => a = .sl (.own σ.opn.length) 1 (r.map (@eU .u8 8)) ∧ τ = σ.more) := by
  unfold octets_Put at H
  refine ACall.app (fun ρ κ => cutL_enc (enc_u td5 sz5).cut ρ κ r) (acall_start tk Tryd.func70 (by decide) rfl (Nat.le_of_ble_eq_true rfl) ?_)
  have hH := Holds.init σ
  refine awp_seq ?_
  refine awp_region rfl ?_
  refine wpo_mv (a := AV.nils) rfl rfl rfl (o_as tk rfl (Wk.refl _)) ?_
  refine wpo_nil ?_
  refine awp_seq ?_
  refine awp_region rfl ?_
  refine wpo_mv (a := (eF 1 (@eU .u8 8) ([] : List (BitVec 8)))) rfl rfl rfl (o_c tk false rfl (fun _ => rfl)) ?_
  refine wpo_mv (a := ((eL 1 (@eU .u8 8)) x0)) rfl rfl rfl (o_mv tk rfl (Wk.refl _)) ?_
  obtain ⟨v2, hv3, H1⟩ := Option.bind_eq_some_iff.1 H
  refine wpo_a (av := fun t => eT t 1 (@eU .u8 8) v2) rfl rfl rfl (h_app0 tk hH hv3 td22 ty5 rfl (by decide) (.inr rfl) (src_l td22 rfl)) fun tk4 τ hH => ?_
  refine wpo_mv (a := (eT tk4 1 (@eU .u8 8) v2)) rfl rfl rfl (o_as tk rfl (Wk.refl _)) ?_
  refine wpo_nil ?_
  refine awp_seq ?_
  refine awp_seq ?_
  refine awp_region rfl ?_
  refine wpo_mv (a := ((eL 1 eI) x1)) rfl rfl rfl (o_mv tk rfl (Wk.refl _)) ?_
  refine wpo_lt H1 eI rfl rfl rfl (o_len tk td109 rfl) fun v6 H5 => ?_
  refine wpo_mv (a := (eI (0 : Int))) rfl rfl rfl (o_mv tk rfl (Wk.refl _)) ?_
  refine wpo_nil ?_
  refine awp_block ?_
  obtain ⟨s16, hs10, hj11⟩ := Option.bind_eq_some_iff.1 H5
  refine awp_cutx 0 (fun fr τ => ∃ tk_5, WkF fr (fm [(5, (eT tk_5 1 (@eU .u8 8) s16))]) ∧ Holds σ [] [tk_5] τ) ?_ ?_
  · rintro fr τ ⟨tk_5, hfr, hH⟩
    have H86 := hj11
    refine AWP.fm [(5, (eT tk_5 1 (@eU .u8 8) s16))] hfr ?_
    refine awp_seq ?_
    refine awp_region rfl ?_
    refine wpo_mv (a := (eT tk_5 1 (@eU .u8 8) s16)) rfl rfl rfl (o_mv tk rfl (Wk.refl _)) ?_
    refine wpo_mv (a := (eT tk_5 1 (@eU .u8 8) s16)) rfl rfl rfl (o_as tk rfl (Wk.refl _)) ?_
    refine wpo_nil ?_
    refine awp_ret ?_
    obtain rfl := Option.some.inj H86
    exact ⟨_, (eT tk_5 1 (@eU .u8 8) s16), rfl, .of_eq rfl, tk_5, rfl, hH⟩
  · refine awp_loopO (body := fun s => octets_Put_b0 x1 v6 s.1 s.2) hs10 (fun (s : (List (BitVec 8)) × Int) fr τ => ∃ tk_5, WkF fr (fm [(5, (eT tk_5 1 (@eU .u8 8) s.1)), (12, ((eL 1 eI) x1)), (13, (eI v6)), (14, (eI s.2))]) ∧ Holds σ [] [tk_5] τ) ⟨tk4, (wkf_cons (.of_eq rfl) (wkf_cons (.of_eq rfl) (wkf_cons (.of_eq rfl) (wkf_cons (.of_eq rfl) (wkf_nil _))))), hH⟩ ?_
    rintro ⟨c7, c8⟩ fr τ y12 ⟨tk_5, hfr, hH⟩ hb14 hy15
    have H17 : octets_Put_b0 x1 v6 c7 c8 = some y12 := hb14
    unfold octets_Put_b0 at H17
    refine AWP.fm [(5, (eT tk_5 1 (@eU .u8 8) c7)), (12, ((eL 1 eI) x1)), (13, (eI v6)), (14, (eI c8))] hfr ?_
    have hH : Holds σ [] [tk_5] τ := hH
    refine awp_seq ?_
    refine awp_region rfl ?_
    refine wpo_lt H17 eB rfl rfl rfl (o_ar tk rfl rfl rfl) fun v19 H18 => ?_
    refine wpo_nil ?_
    refine awp_seq ?_
    refine awp_if H18 rfl (fun H20 => ?_) (fun H20 => ?_)
    · refine awp_skip ?_
      refine awp_seq ?_
      refine awp_block ?_
      refine awp_seq ?_
      refine awp_region rfl ?_
      refine wpo_bd H20 (fun y => .fptr (eI y).cells 0) rfl rfl rfl (fun v22 hv => o_ixa tk hv td109 (enc_i64 td3 sz3) rfl rfl) fun v22 hv22 H21 => ?_
      refine wpo_mv (a := (eI v22)) rfl rfl rfl (o_ld_e tk (enc_i64 td3 sz3) rfl rfl) ?_
      refine wpo_mv (a := (eI v22)) rfl rfl rfl (o_as tk rfl (Wk.refl _)) ?_
      refine wpo_nil ?_
      refine awp_seq ?_
      refine awp_region rfl ?_
      refine wpo_mv (a := (eI (0 : Int))) rfl rfl rfl (o_as tk rfl (Wk.refl _)) ?_
      refine wpo_nil ?_
      refine awp_seq ?_
      refine awp_block ?_
      obtain ⟨s31, hs25, hj26⟩ := Option.bind_eq_some_iff.1 H21
      refine awp_cutx 2 (fun fr τ => ∃ tk_5, WkF fr (fm [(5, (eT tk_5 1 (@eU .u8 8) c7)), (7, (eI v22)), (8, (eI s31)), (12, ((eL 1 eI) x1)), (13, (eI v6)), (14, (eI c8))]) ∧ Holds σ [] [tk_5] τ) ?_ ?_
      · rintro fr τ ⟨tk_5, hfr, hH⟩
        have H42 := hj26
        refine AWP.fm [(5, (eT tk_5 1 (@eU .u8 8) c7)), (7, (eI v22)), (8, (eI s31)), (12, ((eL 1 eI) x1)), (13, (eI v6)), (14, (eI c8))] hfr ?_
        refine awp_seq ?_
        refine awp_block ?_
        obtain ⟨s52, hs46, hj47⟩ := Option.bind_eq_some_iff.1 H42
        refine awp_cutx 4 (fun fr τ => ∃ tk_5, WkF fr (fm [(5, (eT tk_5 1 (@eU .u8 8) s52)), (7, (eI v22)), (12, ((eL 1 eI) x1)), (13, (eI v6)), (14, (eI c8))]) ∧ Holds σ [] [tk_5] τ) ?_ ?_
        · rintro fr τ ⟨tk_5, hfr, hH⟩
          have H73 := hj47
          refine AWP.fm [(5, (eT tk_5 1 (@eU .u8 8) s52)), (7, (eI v22)), (12, ((eL 1 eI) x1)), (13, (eI v6)), (14, (eI c8))] hfr ?_
          refine awp_region rfl ?_
          refine wpo_mv (a := (eT tk_5 1 (@eU .u8 8) s52)) rfl rfl rfl (o_mv tk rfl (Wk.refl _)) ?_
          refine wpo_mv (a := (eI v22)) rfl rfl rfl (o_mv tk rfl (Wk.refl _)) ?_
          refine wpo_lt H73 (@eU .u8 8) rfl rfl rfl (o_cv_iu tk td3 td5 rfl rfl) fun v75 H74 => ?_
          refine wpo_lt H74 (@eU .u8 8) rfl rfl rfl (o_and_u tk rfl rfl rfl) fun v77 H76 => ?_
          refine wpo_lt H76 (eF 1 (@eU .u8 8)) rfl rfl rfl (o_c tk false rfl (fun _ => rfl)) fun v79 H78 => ?_
          obtain ⟨v81, hv82, H80⟩ := Option.bind_eq_some_iff.1 H78
          refine wpo_a (av := fun t => eT t 1 (@eU .u8 8) v81) rfl rfl rfl (h_app tk hH 0 hv82 rfl td22 ty5 rfl (by decide) rfl (src_l td22 rfl)) fun tk83 τ hH => ?_
          refine wpo_mv (a := (eT tk83 1 (@eU .u8 8) v81)) rfl rfl rfl (o_as tk rfl (Wk.refl _)) ?_
          refine wpo_nil ?_
          refine awp_region rfl ?_
          refine wpo_lt H80 eI rfl rfl rfl (o_ar tk rfl rfl rfl) fun v85 H84 => ?_
          refine wpo_mv (a := (eI v85)) rfl rfl rfl (o_mv tk rfl (Wk.refl _)) ?_
          refine wpo_nil ?_
          exact ⟨(v81, v85), inj_inl H84, tk83, (wkf_cons (.of_eq rfl) (wkf_cons (.of_eq rfl) (wkf_cons (.of_eq rfl) (wkf_cons (.of_eq rfl) (wkf_nil _))))), hH⟩
        · refine awp_loopO (body := fun s => octets_Put_b2 x1 v6 c8 v22 s.1 s.2) hs46 (fun (s : (List (BitVec 8)) × Int) fr τ => ∃ tk_5, WkF fr (fm [(5, (eT tk_5 1 (@eU .u8 8) s.1)), (7, (eI v22)), (8, (eI s.2)), (12, ((eL 1 eI) x1)), (13, (eI v6)), (14, (eI c8))]) ∧ Holds σ [] [tk_5] τ) ⟨tk_5, (wkf_cons (.of_eq rfl) (wkf_cons (.of_eq rfl) (wkf_cons (.of_eq rfl) (wkf_cons (.of_eq rfl) (wkf_cons (.of_eq rfl) (wkf_cons (.of_eq rfl) (wkf_nil _))))))), hH⟩ ?_
          rintro ⟨c43, c44⟩ fr τ y48 ⟨tk_5, hfr, hH⟩ hb50 hy51
          have H53 : octets_Put_b2 x1 v6 c8 v22 c43 c44 = some y48 := hb50
          unfold octets_Put_b2 at H53
          refine AWP.fm [(5, (eT tk_5 1 (@eU .u8 8) c43)), (7, (eI v22)), (8, (eI c44)), (12, ((eL 1 eI) x1)), (13, (eI v6)), (14, (eI c8))] hfr ?_
          have hH : Holds σ [] [tk_5] τ := hH
          refine awp_seq ?_
          refine awp_seq ?_
          refine awp_region rfl ?_
          refine wpo_mv (a := (eI c44)) rfl rfl rfl (o_mv tk rfl (Wk.refl _)) ?_
          refine wpo_lt H53 eB rfl rfl rfl (o_ar tk rfl rfl rfl) fun v55 H54 => ?_
          refine wpo_nil ?_
          refine awp_if H54 rfl (fun H56 => ?_) (fun H56 => ?_)
          · refine awp_skip ?_
            refine awp_seq ?_
            refine awp_block ?_
            refine awp_region rfl ?_
            refine wpo_mv (a := (eT tk_5 1 (@eU .u8 8) c43)) rfl rfl rfl (o_mv tk rfl (Wk.refl _)) ?_
            refine wpo_mv (a := (eI v22)) rfl rfl rfl (o_mv tk rfl (Wk.refl _)) ?_
            refine wpo_mv (a := (eI c44)) rfl rfl rfl (o_mv tk rfl (Wk.refl _)) ?_
            refine wpo_lt H56 eI rfl rfl rfl (o_ar tk rfl rfl rfl) fun v58 H57 => ?_
            refine wpo_bd H57 eI rfl rfl rfl (fun v60 hv => om_shr tk hv rfl rfl) fun v60 hv60 H59 => ?_
            refine wpo_lt H59 (@eU .u8 8) rfl rfl rfl (o_cv_iu tk td3 td5 rfl rfl) fun v62 H61 => ?_
            refine wpo_lt H61 (@eU .u8 8) rfl rfl rfl (o_or_u tk rfl rfl rfl) fun v64 H63 => ?_
            refine wpo_lt H63 (eF 1 (@eU .u8 8)) rfl rfl rfl (o_c tk false rfl (fun _ => rfl)) fun v66 H65 => ?_
            obtain ⟨v68, hv69, H67⟩ := Option.bind_eq_some_iff.1 H65
            refine wpo_a (av := fun t => eT t 1 (@eU .u8 8) v68) rfl rfl rfl (h_app tk hH 0 hv69 rfl td22 ty5 rfl (by decide) rfl (src_l td22 rfl)) fun tk70 τ hH => ?_
            refine wpo_mv (a := (eT tk70 1 (@eU .u8 8) v68)) rfl rfl rfl (o_as tk rfl (Wk.refl _)) ?_
            refine wpo_nil ?_
            refine awp_region rfl ?_
            refine wpo_mv (a := (eI c44)) rfl rfl rfl (o_mv tk rfl (Wk.refl _)) ?_
            refine wpo_lt H67 eI rfl rfl rfl (o_ar tk rfl rfl rfl) fun v72 H71 => ?_
            refine wpo_mv (a := (eI v72)) rfl rfl rfl (o_as tk rfl (Wk.refl _)) ?_
            refine wpo_nil ?_
            exact ⟨(v68, v72), inj_inl H71, tk70, (wkf_cons (.of_eq rfl) (wkf_cons (.of_eq rfl) (wkf_cons (.of_eq rfl) (wkf_cons (.of_eq rfl) (wkf_cons (.of_eq rfl) (wkf_cons (.of_eq rfl) (wkf_nil _))))))), hH⟩
          · refine awp_exit ?_
            have hz := hy51 _ (inj_inr H56)
            subst hz
            exact ⟨⟨_, inj_inr H56⟩, tk_5, (wkf_cons (.of_eq rfl) (wkf_cons (.of_eq rfl) (wkf_cons (.of_eq rfl) (wkf_cons (.of_eq rfl) (wkf_cons (.of_eq rfl) (wkf_nil _)))))), hH⟩
      · refine awp_loopO (body := fun s => octets_Put_b1 x1 v6 c7 c8 v22 s) hs25 (fun (s : Int) fr τ => ∃ tk_5, WkF fr (fm [(5, (eT tk_5 1 (@eU .u8 8) c7)), (7, (eI v22)), (8, (eI s)), (12, ((eL 1 eI) x1)), (13, (eI v6)), (14, (eI c8))]) ∧ Holds σ [] [tk_5] τ) ⟨tk_5, (wkf_cons (.of_eq rfl) (wkf_cons (.of_eq rfl) (wkf_cons (.of_eq rfl) (wkf_cons (.of_eq rfl) (wkf_cons (.of_eq rfl) (wkf_cons (.of_eq rfl) (wkf_nil _))))))), hH⟩ ?_
        rintro c23 fr τ y27 ⟨tk_5, hfr, hH⟩ hb29 hy30
        have H32 : octets_Put_b1 x1 v6 c7 c8 v22 c23 = some y27 := hb29
        unfold octets_Put_b1 at H32
        refine AWP.fm [(5, (eT tk_5 1 (@eU .u8 8) c7)), (7, (eI v22)), (8, (eI c23)), (12, ((eL 1 eI) x1)), (13, (eI v6)), (14, (eI c8))] hfr ?_
        have hH : Holds σ [] [tk_5] τ := hH
        refine awp_seq ?_
        refine awp_seq ?_
        refine awp_region rfl ?_
        refine wpo_mv (a := (eI v22)) rfl rfl rfl (o_mv tk rfl (Wk.refl _)) ?_
        refine wpo_mv (a := (eI c23)) rfl rfl rfl (o_mv tk rfl (Wk.refl _)) ?_
        refine wpo_lt H32 eI rfl rfl rfl (o_ar tk rfl rfl rfl) fun v34 H33 => ?_
        refine wpo_bd H33 eI rfl rfl rfl (fun v36 hv => om_shr tk hv rfl rfl) fun v36 hv36 H35 => ?_
        refine wpo_lt H35 eB rfl rfl rfl (o_ar tk rfl rfl rfl) fun v38 H37 => ?_
        refine wpo_nil ?_
        refine awp_if H37 rfl (fun H39 => ?_) (fun H39 => ?_)
        · refine awp_skip ?_
          refine awp_block ?_
          refine awp_region rfl ?_
          refine wpo_mv (a := (eI c23)) rfl rfl rfl (o_mv tk rfl (Wk.refl _)) ?_
          refine wpo_lt H39 eI rfl rfl rfl (o_ar tk rfl rfl rfl) fun v41 H40 => ?_
          refine wpo_mv (a := (eI v41)) rfl rfl rfl (o_as tk rfl (Wk.refl _)) ?_
          refine wpo_nil ?_
          exact ⟨v41, inj_inl H40, tk_5, (wkf_cons (.of_eq rfl) (wkf_cons (.of_eq rfl) (wkf_cons (.of_eq rfl) (wkf_cons (.of_eq rfl) (wkf_cons (.of_eq rfl) (wkf_cons (.of_eq rfl) (wkf_nil _))))))), hH⟩
        · refine awp_exit ?_
          have hz := hy30 _ (inj_inr H39)
          subst hz
          exact ⟨⟨_, inj_inr H39⟩, tk_5, (wkf_cons (.of_eq rfl) (wkf_cons (.of_eq rfl) (wkf_cons (.of_eq rfl) (wkf_cons (.of_eq rfl) (wkf_cons (.of_eq rfl) (wkf_cons (.of_eq rfl) (wkf_nil _))))))), hH⟩
    · refine awp_exit ?_
      have hz := hy15 _ (inj_inr H20)
      subst hz
      exact ⟨⟨_, inj_inr H20⟩, tk_5, (wkf_cons (.of_eq rfl) (wkf_nil _)), hH⟩
theorem octets_Put_ok {x0 : List (BitVec 8)} {x1 : List Int} {r : (List (BitVec 8))} (H : octets_Put x0 x1 = some r) (σ : St) : ACall Tryd.prog 70 [((eL 1 (@eU .u8 8)) x0), ((eL 1 eI) x1)] σ (fun a τ => a = (eL 1 (@eU .u8 8)) r ∧ τ = σ) := (octets_Put_app H σ).unapp (fun ρ κ => cutL_enc (enc_u td5 sz5).cut ρ κ r)
end Go.Proofs.YtgfedohhkbmobaaDoor
namespace Go.Proofs.YtgfedohhkbmobaaDoor
open Go Go.Va
set_option linter.unusedVariables false
set_option linter.unusedSimpArgs false
set_option maxRecDepth 20000
theorem octets_Bytes_app {x0 : List (BitVec 8)} {x1 : List (BitVec 8)} {r : (List (BitVec 8))} (H : octets_Bytes x0 x1 = some r) (σ : St)  : ACall Tryd.prog 69 [((eL 1 (@eU .u8 8)) x0), ((eL 1 (@eU .u8 8)) x1)] σ (fun a τ => a = .sl (.own σ.opn.length) 1 (r.map (@eU .u8 8)) ∧ τ = σ.more) := by
  unfold octets_Bytes at H
  refine ACall.app (fun ρ κ => cutL_enc (enc_u td5 sz5).cut ρ κ r) (acall_start tk Tryd.func69 (by decide) rfl (Nat.le_of_ble_eq_true rfl) ?_)
  have hH := Holds.init σ
  refine awp_seq ?_
  refine awp_region rfl ?_
  refine wpo_mv (a := AV.nils) rfl rfl rfl (o_as tk rfl (Wk.refl _)) ?_
  refine wpo_nil ?_
  refine awp_seq ?_
  refine awp_region rfl ?_
  refine wpo_mv (a := ((eL 1 (@eU .u8 8)) x0)) rfl rfl rfl (o_mv tk rfl (Wk.refl _)) ?_
  refine wpo_mv (a := ((eL 1 (@eU .u8 8)) x1)) rfl rfl rfl (o_mv tk rfl (Wk.refl _)) ?_
  refine wpo_lt H eI rfl rfl rfl (o_len tk td22 rfl) fun v2 H1 => ?_
  refine wpo_lt H1 (eF 1 eI) rfl rfl rfl (o_c tk false rfl (fun _ => rfl)) fun v4 H3 => ?_
  refine wpo_cb H3 (fun x t => eT t 1 (@eU .u8 8) x) rfl rfl rfl (fun v6 hv => h_calla hH rfl rfl (.cons (.of_eq rfl) (.cons wk_no .nil)) (octets_Put_app hv _)) fun v6 tk7 τ hv6 H5 hH => ?_
  refine wpo_mv (a := ((eL 1 (@eU .u8 8)) x1)) rfl rfl rfl (o_mv tk rfl (Wk.refl _)) ?_
  obtain ⟨v9, hv10, H8⟩ := Option.bind_eq_some_iff.1 H5
  refine wpo_a (av := fun t => eT t 1 (@eU .u8 8) v9) rfl rfl rfl (h_app tk hH 0 hv10 rfl td22 ty5 rfl (by decide) rfl (src_l td22 rfl)) fun tk11 τ hH => ?_
  refine wpo_mv (a := (eT tk11 1 (@eU .u8 8) v9)) rfl rfl rfl (o_as tk rfl (Wk.refl _)) ?_
  refine wpo_nil ?_
  refine awp_ret ?_
  obtain rfl := Option.some.inj H8
  exact ⟨_, (eT tk11 1 (@eU .u8 8) v9), rfl, .of_eq rfl, tk11, rfl, hH⟩
theorem octets_Bytes_ok {x0 : List (BitVec 8)} {x1 : List (BitVec 8)} {r : (List (BitVec 8))} (H : octets_Bytes x0 x1 = some r) (σ : St) : ACall Tryd.prog 69 [((eL 1 (@eU .u8 8)) x0), ((eL 1 (@eU .u8 8)) x1)] σ (fun a τ => a = (eL 1 (@eU .u8 8)) r ∧ τ = σ) := (octets_Bytes_app H σ).unapp (fun ρ κ => cutL_enc (enc_u td5 sz5).cut ρ κ r)
end Go.Proofs.YtgfedohhkbmobaaDoor
namespace Go.Proofs.YtgfedohhkbmobaaDoor
open Go Go.Va
set_option linter.unusedVariables false
set_option linter.unusedSimpArgs false
set_option maxRecDepth 20000
theorem item_Put_app {x0 : List (BitVec 8)} {x1 : api_Entry} {r : (List (BitVec 8))} (H : item_Put x0 x1 = some r) (σ : St)  : ACall Tryd.prog 39 [((eL 1 (@eU .u8 8)) x0), (e_api_Entry x1)] σ (fun a τ => a = .sl (.own σ.opn.length) 1 (r.map (@eU .u8 8)) ∧ τ = σ.more) := by
  unfold item_Put at H
  refine ACall.app (fun ρ κ => cutL_enc (enc_u td5 sz5).cut ρ κ r) (acall_start tk Tryd.func39 (by decide) rfl (Nat.le_of_ble_eq_true rfl) ?_)
  have hH := Holds.init σ
  refine awp_seq ?_
  refine awp_region rfl ?_
  refine wpo_mv (a := (.fptr (c_api_Entry x1) 0)) rfl rfl rfl (o_boxf tk rfl (.of_eq rfl) (b := (e_api_Entry x1)) (enc50.flat _)) ?_
  refine wpo_mv (a := AV.nils) rfl rfl rfl (o_as tk rfl (Wk.refl _)) ?_
  refine wpo_nil ?_
  refine awp_seq ?_
  refine awp_region rfl ?_
  refine wpo_mv (a := ((eL 1 (@eU .u8 8)) x0)) rfl rfl rfl (o_mv tk rfl (Wk.refl _)) ?_
  refine wpo_mv (a := (.fptr (c_api_Entry x1) 0)) rfl rfl rfl (o_c tk false rfl (fun _ => rfl)) ?_
  refine wpo_mv (a := (eS x1.Key)) rfl rfl rfl (o_ld tk rfl rfl) ?_
  refine wpo_bd H (eL 1 (@eU .u8 8)) rfl rfl rfl (fun v2 hv => o_s2b tk hv td9 td22 td5 rfl) fun v2 hv2 H1 => ?_
  refine wpo_bd H1 (eL 1 (@eU .u8 8)) rfl rfl rfl (fun v4 hv => OpP.of_call rfl rfl (.cons (.of_eq rfl) (.cons (.of_eq rfl) .nil)) (octets_Bytes_ok hv)) fun v4 hv4 H3 => ?_
  refine wpo_mv (a := ((eL 1 (@eU .u8 8)) v4)) rfl rfl rfl (o_as tk rfl (Wk.refl _)) ?_
  refine wpo_nil ?_
  refine awp_seq ?_
  refine awp_drawS mixed [11] rfl (by decide +kernel) rfl rfl ?_
  refine wpdS_mv (a := ((eL 1 (@eU .u8 8)) v4)) rfl rfl rfl (o_mv tk rfl (Wk.refl _)) ?_
  refine wpdS_mv (a := (.fptr (c_api_Entry x1) 1)) rfl rfl rfl (o_c tk false rfl (fun _ => rfl)) ?_
  refine wpdS_mv (a := (eI x1.Version)) rfl rfl rfl (o_ld tk rfl rfl) ?_
  refine wpdS_mv (a := (.fptr (c_api_Entry x1) 2)) rfl rfl rfl (o_c tk false rfl (fun _ => rfl)) ?_
  refine wpdS_mv (a := (eI x1.AsOf)) rfl rfl rfl (o_ld tk rfl rfl) ?_
  refine wpdS_mv (a := (.fptr (c_api_Entry x1) 3)) rfl rfl rfl (o_c tk false rfl (fun _ => rfl)) ?_
  refine wpdS_mv (a := (eI x1.Ends)) rfl rfl rfl (o_ld tk rfl rfl) ?_
  refine wpdS_lt H3 (eF 1 eI) rfl rfl rfl (o_c tk false rfl (fun _ => rfl)) fun v6 H5 => ?_
  refine wpdS_bd H5 (eL 1 (@eU .u8 8)) rfl rfl rfl (fun v8 hv => OpP.of_call rfl rfl (.cons (.of_eq rfl) (.cons wk_no .nil)) (octets_Put_ok hv)) fun v8 hv8 H7 => ?_
  refine wpdS_mv (a := (.fptr (c_api_Entry x1) 4)) rfl rfl rfl (o_c tk false rfl (fun _ => rfl)) ?_
  refine wpdS_mv (a := ((eL 1 (@eU .u8 8)) x1.Value)) rfl rfl rfl (o_ld tk rfl rfl) ?_
  refine wpdS_cb H7 (fun x t => eT t 1 (@eU .u8 8) x) rfl rfl rfl (fun v10 hv => h_calla hH rfl rfl (.cons (.of_eq rfl) (.cons (.of_eq rfl) .nil)) (octets_Bytes_app hv _)) fun v10 tk11 τ hv10 H9 hH => ?_
  refine wpdS_mv (a := (eT tk11 1 (@eU .u8 8) v10)) rfl rfl rfl (o_as tk rfl (Wk.refl _)) ?_
  refine wpdS_nil ?_
  refine awp_ret ?_
  obtain rfl := Option.some.inj H9
  exact ⟨_, (eT tk11 1 (@eU .u8 8) v10), rfl, .of_eq rfl, tk11, rfl, hH⟩
theorem item_Put_ok {x0 : List (BitVec 8)} {x1 : api_Entry} {r : (List (BitVec 8))} (H : item_Put x0 x1 = some r) (σ : St) : ACall Tryd.prog 39 [((eL 1 (@eU .u8 8)) x0), (e_api_Entry x1)] σ (fun a τ => a = (eL 1 (@eU .u8 8)) r ∧ τ = σ) := (item_Put_app H σ).unapp (fun ρ κ => cutL_enc (enc_u td5 sz5).cut ρ κ r)
end Go.Proofs.YtgfedohhkbmobaaDoor
namespace Go.Proofs.YtgfedohhkbmobaaDoor
open Go Go.Va
set_option linter.unusedVariables false
set_option linter.unusedSimpArgs false
set_option maxRecDepth 20000
theorem octets_Read_ok {x0 : List (BitVec 8)} {r : octets_Reader} (H : octets_Read x0 = some r) (σ : St)  : ACall Tryd.prog 34 [((eL 1 (@eU .u8 8)) x0)] σ (fun a τ => a = .ref σ.objs.length 0 ∧ τ = ⟨σ.objs ++ [(c_octets_Reader r)], σ.opn, σ.gl⟩) := by
  unfold octets_Read at H
  refine ACall.new (fun ρ κ => c_octets_Reader_cut ρ κ r) (acall_start tk Tryd.func34 (by decide) rfl (Nat.le_of_ble_eq_true rfl) ?_)
  have hH := Holds.init σ
  refine awp_seq ?_
  refine awp_region rfl ?_
  refine wpo_mv (a := .nilp) rfl rfl rfl (o_as tk rfl (Wk.refl _)) ?_
  refine wpo_nil ?_
  refine awp_seq ?_
  refine awp_region rfl ?_
  refine wpo_mv (a := (eF 1 (@eU .u8 8) ([] : List (BitVec 8)))) rfl rfl rfl (o_c tk false rfl (fun _ => rfl)) ?_
  refine wpo_mv (a := ((eL 1 (@eU .u8 8)) x0)) rfl rfl rfl (o_mv tk rfl (Wk.refl _)) ?_
  obtain ⟨v2, hv3, H1⟩ := Option.bind_eq_some_iff.1 H
  refine wpo_a (av := fun t => eT t 1 (@eU .u8 8) v2) rfl rfl rfl (h_app0 tk hH hv3 td22 ty5 rfl (by decide) (.inr rfl) (src_l td22 rfl)) fun tk4 τ hH => ?_
  refine wpo_lt H1 e_octets_Reader rfl rfl rfl (OpP.wk (wkf_up (t := 5) (a := ((eL 1 (@eU .u8 8)) v2)) wk_no) (o_c tk false rfl (fun _ => rfl))) fun v6 H5 => ?_
  refine wpo_a (av := fun id => .ref id 0) rfl rfl rfl (h_box tk hH rfl (.of_eq rfl) (b := (e_octets_Reader v6)) (enc98.flat _) (c_octets_Reader v6) rfl) fun id7 τ ⟨hH, n8⟩ => ?_
  refine wpo_mv (a := (.ref id7 0)) rfl rfl rfl (o_as tk rfl (Wk.refl _)) ?_
  refine wpo_nil ?_
  refine awp_ret ?_
  obtain rfl := Option.some.inj H5
  exact ⟨_, .ref id7 0, rfl, .of_eq rfl, id7, rfl, n8, hH.noT⟩
end Go.Proofs.YtgfedohhkbmobaaDoor
namespace Go.Proofs.YtgfedohhkbmobaaDoor
open Go Go.Va
set_option linter.unusedVariables false
set_option linter.unusedSimpArgs false
set_option maxRecDepth 20000
theorem octets_Reader_Code_ok {x0 : octets_Reader} {r : Int} (H : octets_Reader_Code x0 = some r) (σ : St) {p0 : Nat} (h0 : σ.objs[p0]? = some (c_octets_Reader x0)) : ACall Tryd.prog 37 [(.ref p0 0)] σ (fun a τ => a = eI r ∧ τ = σ) := by
  unfold octets_Reader_Code at H
  refine ACall.pure (acall_start tk Tryd.func37 (by decide) rfl (Nat.le_of_ble_eq_true rfl) ?_)
  have hH := Holds.init σ
  have hH := hH.bring h0 (fun _ h => by cases h)
  refine awp_seq ?_
  refine awp_region rfl ?_
  refine wpo_mv (a := (eI (0 : Int))) rfl rfl rfl (o_as tk rfl (Wk.refl _)) ?_
  refine wpo_nil ?_
  refine awp_seq ?_
  refine awp_region rfl ?_
  refine wpo_mv (a := (.ref p0 0)) rfl rfl rfl (o_mv tk rfl (Wk.refl _)) ?_
  refine wpo_mv (a := (.ref p0 0)) rfl rfl rfl (o_c tk false rfl (fun _ => rfl)) ?_
  refine wpo_mv (a := (.ref p0 2)) rfl rfl rfl (o_c tk false rfl (fun _ => rfl)) ?_
  refine wpo_rd (a := (eI x0.code)) rfl rfl rfl (h_ld tk hH 0 rfl rfl rfl) ?_
  refine wpo_mv (a := (eI x0.code)) rfl rfl rfl (o_as tk rfl (Wk.refl _)) ?_
  refine wpo_nil ?_
  refine awp_ret ?_
  obtain rfl := Option.some.inj H
  exact ⟨_, (eI x0.code), rfl, (.of_eq rfl), .of_eq ((enc_i64 td30 sz30).cut _ _ _), (hH.noT.unbring h0)⟩
end Go.Proofs.YtgfedohhkbmobaaDoor
namespace Go.Proofs.YtgfedohhkbmobaaDoor
open Go Go.Va
set_option linter.unusedVariables false
set_option linter.unusedSimpArgs false
set_option maxRecDepth 20000
theorem octets_Reader_Left_ok {x0 : octets_Reader} {r : Int} (H : octets_Reader_Left x0 = some r) (σ : St) {p0 : Nat} (h0 : σ.objs[p0]? = some (c_octets_Reader x0)) : ACall Tryd.prog 40 [(.ref p0 0)] σ (fun a τ => a = eI r ∧ τ = σ) := by
  unfold octets_Reader_Left at H
  refine ACall.pure (acall_start tk Tryd.func40 (by decide) rfl (Nat.le_of_ble_eq_true rfl) ?_)
  have hH := Holds.init σ
  have hH := hH.bring h0 (fun _ h => by cases h)
  refine awp_seq ?_
  refine awp_region rfl ?_
  refine wpo_mv (a := (eI (0 : Int))) rfl rfl rfl (o_as tk rfl (Wk.refl _)) ?_
  refine wpo_nil ?_
  refine awp_seq ?_
  refine awp_drawS mixed [] rfl (by decide +kernel) rfl rfl ?_
  refine wpdS_mv (a := (.ref p0 0)) rfl rfl rfl (o_mv tk rfl (Wk.refl _)) ?_
  refine wpdS_mv (a := (.ref p0 0)) rfl rfl rfl (o_c tk false rfl (fun _ => rfl)) ?_
  refine wpdS_mv (a := (.ref p0 0)) rfl rfl rfl (o_c tk false rfl (fun _ => rfl)) ?_
  refine wpdS_rd (a := ((eL 1 (@eU .u8 8)) x0.b)) rfl (by decide +kernel) rfl rfl (h_ld tk hH 0 rfl rfl rfl) ?_
  refine wpdS_lt H eI rfl rfl rfl (o_len tk td22 rfl) fun v2 H1 => ?_
  refine wpdS_mv (a := (.ref p0 0)) rfl rfl rfl (o_mv tk rfl (Wk.refl _)) ?_
  refine wpdS_mv (a := (.ref p0 0)) rfl rfl rfl (o_c tk false rfl (fun _ => rfl)) ?_
  refine wpdS_mv (a := (.ref p0 1)) rfl rfl rfl (o_c tk false rfl (fun _ => rfl)) ?_
  refine wpdS_rd (a := (eI x0.at_)) rfl (by decide +kernel) rfl rfl (h_ld tk hH 0 rfl rfl rfl) ?_
  refine wpdS_lt H1 eI rfl rfl rfl (o_ar tk rfl rfl rfl) fun v4 H3 => ?_
  refine wpdS_mv (a := (eI v4)) rfl rfl rfl (o_as tk rfl (Wk.refl _)) ?_
  refine wpdS_nil ?_
  refine awp_ret ?_
  obtain rfl := Option.some.inj H3
  exact ⟨_, (eI v4), rfl, (.of_eq rfl), .of_eq ((enc_i64 td3 sz3).cut _ _ _), (hH.noT.unbring h0)⟩
end Go.Proofs.YtgfedohhkbmobaaDoor
namespace Go.Proofs.YtgfedohhkbmobaaDoor
open Go Go.Va
set_option linter.unusedVariables false
set_option linter.unusedSimpArgs false
set_option maxRecDepth 20000
theorem octets_Reader_Fail_ok {x0 : octets_Reader} {x1 : Int} {r : octets_Reader} (H : octets_Reader_Fail x0 x1 = some r) (σ : St) {p0 : Nat} (h0 : σ.objs[p0]? = some (c_octets_Reader x0)) : ACall Tryd.prog 68 [(.ref p0 0), (eI x1)] σ (fun a τ => a = .tup [] ∧ τ = σ.puts [(p0, (c_octets_Reader r))]) := by
  unfold octets_Reader_Fail at H
  refine ACall.out [(p0, (c_octets_Reader r))] (by simp only [List.mem_cons, List.not_mem_nil, or_false]; rintro _ (rfl) ρ κ <;> exact c_octets_Reader_cut ρ κ _) (acall_start tk Tryd.func68 (by decide) rfl (Nat.le_of_ble_eq_true rfl) ?_)
  have hH := Holds.init σ
  have hH := hH.bring h0 (fun _ h => by cases h)
  refine awp_seq ?_
  refine awp_region rfl ?_
  refine wpo_mv (a := (.ref p0 0)) rfl rfl rfl (o_mv tk rfl (Wk.refl _)) ?_
  refine wpo_mv (a := (.ref p0 0)) rfl rfl rfl (o_c tk false rfl (fun _ => rfl)) ?_
  refine wpo_mv (a := (.ref p0 2)) rfl rfl rfl (o_c tk false rfl (fun _ => rfl)) ?_
  refine wpo_rd (a := (eI x0.code)) rfl rfl rfl (h_ld tk hH 0 rfl rfl rfl) ?_
  refine wpo_lt H eB rfl rfl rfl (o_ar tk rfl rfl rfl) fun v2 H1 => ?_
  refine wpo_nil ?_
  refine awp_if H1 rfl (fun H3 => ?_) (fun H3 => ?_)
  · refine awp_region rfl ?_
    refine wpo_mv (a := (.ref p0 0)) rfl rfl rfl (o_mv tk rfl (Wk.refl _)) ?_
    refine wpo_mv (a := (eI x1)) rfl rfl rfl (o_mv tk rfl (Wk.refl _)) ?_
    refine wpo_mv (a := (.ref p0 0)) rfl rfl rfl (o_c tk false rfl (fun _ => rfl)) ?_
    refine wpo_mv (a := (.ref p0 2)) rfl rfl rfl (o_c tk false rfl (fun _ => rfl)) ?_
    obtain ⟨c5, hc6, H4⟩ := lt_ex H3
    refine wpo_z rfl rfl (h_st tk hH 0 rfl ty30 (by simp) rfl rfl (.of_eq rfl) (b := (eI x1)) rfl rfl (Nat.le_of_ble_eq_true rfl) (c_octets_Reader c5) (by rw [← hc6]; rfl)) fun τ hH => ?_
    refine wpo_nil ?_
    obtain rfl := Option.some.inj H4
    exact ⟨_, (.tup []), rfl, (.of_eq rfl), .of_eq rfl, hH.noT⟩
  · refine awp_skip ?_
    obtain rfl := Option.some.inj H3
    exact ⟨_, (.tup []), rfl, (.of_eq rfl), .of_eq rfl, hH.noT⟩
end Go.Proofs.YtgfedohhkbmobaaDoor
namespace Go.Proofs.YtgfedohhkbmobaaDoor
open Go Go.Va
set_option linter.unusedVariables false
set_option linter.unusedSimpArgs false
set_option maxRecDepth 20000
theorem octets_Reader_Number_ok {x0 : octets_Reader} {x1 : Int} {r : Int × octets_Reader} (H : octets_Reader_Number x0 x1 = some r) (σ : St) {p0 : Nat} (h0 : σ.objs[p0]? = some (c_octets_Reader x0)) : ACall Tryd.prog 67 [(.ref p0 0), (eI x1)] σ (fun a τ => a = eI r.1 ∧ τ = σ.puts [(p0, (c_octets_Reader r.2))]) := by
  unfold octets_Reader_Number at H
  refine ACall.out [(p0, (c_octets_Reader r.2))] (by simp only [List.mem_cons, List.not_mem_nil, or_false]; rintro _ (rfl) ρ κ <;> exact c_octets_Reader_cut ρ κ _) (acall_start tk Tryd.func67 (by decide) rfl (Nat.le_of_ble_eq_true rfl) ?_)
  have hH := Holds.init σ
  have hH := hH.bring h0 (fun _ h => by cases h)
  refine awp_seq ?_
  refine awp_region rfl ?_
  refine wpo_mv (a := (eI (0 : Int))) rfl rfl rfl (o_as tk rfl (Wk.refl _)) ?_
  refine wpo_nil ?_
  refine awp_seq ?_
  refine awp_drawS mixed [] rfl (by decide +kernel) rfl rfl ?_
  refine wpdS_mv (a := (.ref p0 0)) rfl rfl rfl (o_mv tk rfl (Wk.refl _)) ?_
  refine wpdS_mv (a := (.ref p0 0)) rfl rfl rfl (o_c tk false rfl (fun _ => rfl)) ?_
  refine wpdS_mv (a := (.ref p0 1)) rfl rfl rfl (o_c tk false rfl (fun _ => rfl)) ?_
  refine wpdS_rd (a := (eI x0.at_)) rfl (by decide +kernel) rfl rfl (h_ld tk hH 0 rfl rfl rfl) ?_
  refine wpdS_mv (a := (eI (0 : Int))) rfl rfl rfl (o_as tk rfl (Wk.refl _)) ?_
  refine wpdS_mv (a := (eI x0.at_)) rfl rfl rfl (o_as tk rfl (Wk.refl _)) ?_
  refine wpdS_nil ?_
  refine awp_seq ?_
  refine awp_block ?_
  obtain ⟨o4, hs5, hj6⟩ := Option.bind_eq_some_iff.1 H
  refine awp_cutx 0 (fun fr τ => ∃ s11 : octets_Reader, o4 = .inl s11 ∧ WkF fr (fm []) ∧ Holds σ [(p0, (c_octets_Reader s11))] [] τ) ?_ ?_
  · rintro fr τ ⟨s11, rfl, hfr, hH⟩
    have H78 := hj6
    simp only [Sum.elim_inl] at H78
    refine AWP.fm [] hfr ?_
    refine awp_seq ?_
    refine awp_region rfl ?_
    refine wpo_mv (a := (eI (0 : Int))) rfl rfl rfl (o_as tk rfl (Wk.refl _)) ?_
    refine wpo_nil ?_
    refine awp_ret ?_
    obtain rfl := Option.some.inj H78
    exact ⟨_, (eI (0 : Int)), rfl, (.of_eq rfl), .of_eq ((enc_i64 td3 sz3).cut _ _ _), hH.noT⟩
  · refine awp_loopO (body := fun s => octets_Reader_Number_b0 x1 s.1 s.2.1 s.2.2) hs5 (fun (s : Int × Int × octets_Reader) fr τ => WkF fr (fm [(0, (.ref p0 0)), (1, (eI x1)), (5, (eI s.1)), (6, (eI s.2.1))]) ∧ Holds σ [(p0, (c_octets_Reader s.2.2))] [] τ) ⟨(wkf_cons (.of_eq rfl) (wkf_cons (.of_eq rfl) (wkf_cons (.of_eq rfl) (wkf_cons (.of_eq rfl) (wkf_nil _))))), hH⟩ ?_
    rintro ⟨c1, c2, c3⟩ fr τ y7 ⟨hfr, hH⟩ hb9 hy10
    have H12 : octets_Reader_Number_b0 x1 c1 c2 c3 = some y7 := hb9
    unfold octets_Reader_Number_b0 at H12
    refine AWP.fm [(0, (.ref p0 0)), (1, (eI x1)), (5, (eI c1)), (6, (eI c2))] hfr ?_
    have hH : Holds σ [(p0, (c_octets_Reader c3))] [] τ := hH
    refine awp_seq ?_
    refine awp_seq ?_
    refine awp_region rfl ?_
    refine wpo_mv (a := (.ref p0 0)) rfl rfl rfl (o_mv tk rfl (Wk.refl _)) ?_
    refine wpo_mv (a := (.ref p0 0)) rfl rfl rfl (o_c tk false rfl (fun _ => rfl)) ?_
    refine wpo_mv (a := (.ref p0 2)) rfl rfl rfl (o_c tk false rfl (fun _ => rfl)) ?_
    refine wpo_rd (a := (eI c3.code)) rfl rfl rfl (h_ld tk hH 0 rfl rfl rfl) ?_
    refine wpo_lt H12 eB rfl rfl rfl (o_ar tk rfl rfl rfl) fun v14 H13 => ?_
    refine wpo_nil ?_
    refine awp_if H13 rfl (fun H15 => ?_) (fun H15 => ?_)
    · refine awp_skip ?_
      refine awp_block ?_
      refine awp_seq ?_
      refine awp_seq ?_
      refine awp_region rfl ?_
      refine wpo_mv (a := (eI c2)) rfl rfl rfl (o_mv tk rfl (Wk.refl _)) ?_
      refine wpo_mv (a := (.ref p0 0)) rfl rfl rfl (o_mv tk rfl (Wk.refl _)) ?_
      refine wpo_mv (a := (.ref p0 0)) rfl rfl rfl (o_c tk false rfl (fun _ => rfl)) ?_
      refine wpo_mv (a := (.ref p0 0)) rfl rfl rfl (o_c tk false rfl (fun _ => rfl)) ?_
      refine wpo_rd (a := ((eL 1 (@eU .u8 8)) c3.b)) rfl rfl rfl (h_ld tk hH 0 rfl rfl rfl) ?_
      refine wpo_lt H15 eI rfl rfl rfl (o_len tk td22 rfl) fun v17 H16 => ?_
      refine wpo_lt H16 eB rfl rfl rfl (o_ar tk rfl rfl rfl) fun v19 H18 => ?_
      refine wpo_nil ?_
      refine awp_if H18 rfl (fun H20 => ?_) (fun H20 => ?_)
      · refine awp_seq ?_
        refine awp_region rfl ?_
        refine wpo_mv (a := (.ref p0 0)) rfl rfl rfl (o_mv tk rfl (Wk.refl _)) ?_
        refine wpo_cb H20 (fun x _ => .tup []) rfl rfl rfl (fun v22 hv => h_call1 hH [(0, (p0, (c_octets_Reader v22)))] ⟨⟨_, rfl⟩, trivial⟩ rfl rfl (.cons (.of_eq rfl) (.cons (.of_eq rfl) .nil)) (octets_Reader_Fail_ok hv _ (hH.at_ 0 rfl))) fun v22 _ τ hv22 H21 hH => ?_
        refine wpo_nil ?_
        refine awp_exit ?_
        have hz := hy10 _ (inj_inr H21)
        exact ⟨⟨_, inj_inr H21⟩, v22, hz.symm, (wkf_nil _), hH⟩
      · refine awp_skip ?_
        refine awp_seq ?_
        refine awp_region rfl ?_
        refine wpo_mv (a := (.ref p0 0)) rfl rfl rfl (o_mv tk rfl (Wk.refl _)) ?_
        refine wpo_mv (a := (.ref p0 0)) rfl rfl rfl (o_c tk false rfl (fun _ => rfl)) ?_
        refine wpo_mv (a := (.ref p0 0)) rfl rfl rfl (o_c tk false rfl (fun _ => rfl)) ?_
        refine wpo_rd (a := ((eL 1 (@eU .u8 8)) c3.b)) rfl rfl rfl (h_ld tk hH 0 rfl rfl rfl) ?_
        refine wpo_mv (a := (eI c2)) rfl rfl rfl (o_mv tk rfl (Wk.refl _)) ?_
        refine wpo_bd H20 (fun y => .fptr ((@eU .u8 8) y).cells 0) rfl rfl rfl (fun v24 hv => o_ixa tk hv td22 (enc_u td5 sz5) rfl rfl) fun v24 hv24 H23 => ?_
        refine wpo_mv (a := ((@eU .u8 8) v24)) rfl rfl rfl (o_ld_e tk (enc_u td5 sz5) rfl rfl) ?_
        refine wpo_mv (a := ((@eU .u8 8) v24)) rfl rfl rfl (o_as tk rfl (Wk.refl _)) ?_
        refine wpo_nil ?_
        refine awp_seq ?_
        refine awp_region rfl ?_
        refine wpo_mv (a := (eI c2)) rfl rfl rfl (o_mv tk rfl (Wk.refl _)) ?_
        refine wpo_lt H23 eI rfl rfl rfl (o_ar tk rfl rfl rfl) fun v26 H25 => ?_
        refine wpo_mv (a := (eI v26)) rfl rfl rfl (o_as tk rfl (Wk.refl _)) ?_
        refine wpo_nil ?_
        refine awp_block ?_
        refine awp_seq ?_
        obtain ⟨s27, hs29, hj30⟩ := Option.bind_eq_some_iff.1 H25
        refine awp_cutn (fun fr τ => WkF fr (fm [(0, (.ref p0 0)), (1, (eI x1)), (5, (eI c1)), (6, (eI v26)), (7, ((@eU .u8 8) v24)), (50, (eB s27))]) ∧ Holds σ [(p0, (c_octets_Reader c3))] [] τ) ?_ ?_
        · rintro fr τ ⟨hfr, hH⟩
          have H41 := hj30
          refine AWP.fm [(0, (.ref p0 0)), (1, (eI x1)), (5, (eI c1)), (6, (eI v26)), (7, ((@eU .u8 8) v24)), (50, (eB s27))] hfr ?_
          refine awp_if H41 rfl (fun H42 => ?_) (fun H42 => ?_)
          · refine awp_region rfl ?_
            refine wpo_mv (a := (.ref p0 0)) rfl rfl rfl (o_mv tk rfl (Wk.refl _)) ?_
            refine wpo_cb H42 (fun x _ => .tup []) rfl rfl rfl (fun v44 hv => h_call1 hH [(0, (p0, (c_octets_Reader v44)))] ⟨⟨_, rfl⟩, trivial⟩ rfl rfl (.cons (.of_eq rfl) (.cons (.of_eq rfl) .nil)) (octets_Reader_Fail_ok hv _ (hH.at_ 0 rfl))) fun v44 _ τ hv44 H43 hH => ?_
            refine wpo_nil ?_
            exact ⟨(c1, v26, v44), inj_inl H43, (wkf_cons (.of_eq rfl) (wkf_cons (.of_eq rfl) (wkf_cons (.of_eq rfl) (wkf_cons (.of_eq rfl) (wkf_nil _))))), hH⟩
          · refine awp_seq ?_
            refine awp_region rfl ?_
            refine wpo_mv (a := (eI c1)) rfl rfl rfl (o_mv tk rfl (Wk.refl _)) ?_
            refine wpo_mv (a := (eI x1)) rfl rfl rfl (o_mv tk rfl (Wk.refl _)) ?_
            refine wpo_lt H42 eI rfl rfl rfl (o_shr tk (y := (7 : Int)) rfl rfl rfl) fun v46 H45 => ?_
            refine wpo_lt H45 eB rfl rfl rfl (o_ar tk rfl rfl rfl) fun v48 H47 => ?_
            refine wpo_mv (a := (eB v48)) rfl rfl rfl (o_as tk rfl (Wk.refl _)) ?_
            refine wpo_nil ?_
            refine awp_if H47 rfl (fun H49 => ?_) (fun H49 => ?_)
            · refine awp_region rfl ?_
              refine wpo_mv (a := (.ref p0 0)) rfl rfl rfl (o_mv tk rfl (Wk.refl _)) ?_
              refine wpo_cb H49 (fun x _ => .tup []) rfl rfl rfl (fun v51 hv => h_call1 hH [(0, (p0, (c_octets_Reader v51)))] ⟨⟨_, rfl⟩, trivial⟩ rfl rfl (.cons (.of_eq rfl) (.cons (.of_eq rfl) .nil)) (octets_Reader_Fail_ok hv _ (hH.at_ 0 rfl))) fun v51 _ τ hv51 H50 hH => ?_
              refine wpo_nil ?_
              exact ⟨(c1, v26, v51), inj_inl H50, (wkf_cons (.of_eq rfl) (wkf_cons (.of_eq rfl) (wkf_cons (.of_eq rfl) (wkf_cons (.of_eq rfl) (wkf_nil _))))), hH⟩
            · refine awp_seq ?_
              refine awp_region rfl ?_
              refine wpo_mv (a := ((@eU .u8 8) v24)) rfl rfl rfl (o_mv tk rfl (Wk.refl _)) ?_
              refine wpo_lt H49 eB rfl rfl rfl (o_geq_u tk rfl rfl) fun v53 H52 => ?_
              refine wpo_mv (a := (eB v53)) rfl rfl rfl (o_as tk rfl (Wk.refl _)) ?_
              refine wpo_nil ?_
              refine awp_if H52 rfl (fun H54 => ?_) (fun H54 => ?_)
              · refine awp_seq ?_
                refine awp_region rfl ?_
                refine wpo_mv (a := (eI c1)) rfl rfl rfl (o_mv tk rfl (Wk.refl _)) ?_
                refine wpo_lt H54 eI rfl rfl rfl (o_shl tk (y := (7 : Int)) rfl rfl rfl) fun v56 H55 => ?_
                refine wpo_mv (a := ((@eU .u8 8) v24)) rfl rfl rfl (o_mv tk rfl (Wk.refl _)) ?_
                refine wpo_lt H55 (@eU .u8 8) rfl rfl rfl (o_and_u tk rfl rfl rfl) fun v58 H57 => ?_
                refine wpo_lt H57 eI rfl rfl rfl (o_cv_ui tk td5 td3 (by decide) rfl) fun v60 H59 => ?_
                refine wpo_lt H59 eI rfl rfl rfl (o_ar tk rfl rfl rfl) fun v62 H61 => ?_
                refine wpo_mv (a := (eI v62)) rfl rfl rfl (o_as tk rfl (Wk.refl _)) ?_
                refine wpo_nil ?_
                refine awp_exit ?_
                exact ⟨(v62, v26, c3), inj_inl H61, (wkf_cons (.of_eq rfl) (wkf_cons (.of_eq rfl) (wkf_cons (.of_eq rfl) (wkf_cons (.of_eq rfl) (wkf_nil _))))), hH⟩
              · refine awp_seq ?_
                refine awp_seq ?_
                refine awp_region rfl ?_
                refine wpo_mv (a := (eI c1)) rfl rfl rfl (o_mv tk rfl (Wk.refl _)) ?_
                refine wpo_lt H54 eI rfl rfl rfl (o_shl tk (y := (7 : Int)) rfl rfl rfl) fun v64 H63 => ?_
                refine wpo_mv (a := ((@eU .u8 8) v24)) rfl rfl rfl (o_mv tk rfl (Wk.refl _)) ?_
                refine wpo_lt H63 eI rfl rfl rfl (o_cv_ui tk td5 td3 (by decide) rfl) fun v66 H65 => ?_
                refine wpo_lt H65 eI rfl rfl rfl (o_ar tk rfl rfl rfl) fun v68 H67 => ?_
                refine wpo_mv (a := (eI v68)) rfl rfl rfl (o_as tk rfl (Wk.refl _)) ?_
                refine wpo_nil ?_
                refine awp_seq ?_
                refine awp_region rfl ?_
                refine wpo_mv (a := (eI v68)) rfl rfl rfl (o_mv tk rfl (Wk.refl _)) ?_
                refine wpo_mv (a := (eI x1)) rfl rfl rfl (o_mv tk rfl (Wk.refl _)) ?_
                refine wpo_lt H67 eB rfl rfl rfl (o_ar tk rfl rfl rfl) fun v70 H69 => ?_
                refine wpo_nil ?_
                refine awp_if H69 rfl (fun H71 => ?_) (fun H71 => ?_)
                · refine awp_seq ?_
                  refine awp_region rfl ?_
                  refine wpo_mv (a := (.ref p0 0)) rfl rfl rfl (o_mv tk rfl (Wk.refl _)) ?_
                  refine wpo_cb H71 (fun x _ => .tup []) rfl rfl rfl (fun v73 hv => h_call1 hH [(0, (p0, (c_octets_Reader v73)))] ⟨⟨_, rfl⟩, trivial⟩ rfl rfl (.cons (.of_eq rfl) (.cons (.of_eq rfl) .nil)) (octets_Reader_Fail_ok hv _ (hH.at_ 0 rfl))) fun v73 _ τ hv73 H72 hH => ?_
                  refine wpo_nil ?_
                  refine awp_exit ?_
                  exact ⟨(v68, v26, v73), inj_inl H72, (wkf_cons (.of_eq rfl) (wkf_cons (.of_eq rfl) (wkf_cons (.of_eq rfl) (wkf_cons (.of_eq rfl) (wkf_nil _))))), hH⟩
                · refine awp_skip ?_
                  refine awp_seq ?_
                  refine awp_region rfl ?_
                  refine wpo_mv (a := (.ref p0 0)) rfl rfl rfl (o_mv tk rfl (Wk.refl _)) ?_
                  refine wpo_mv (a := (eI v26)) rfl rfl rfl (o_mv tk rfl (Wk.refl _)) ?_
                  refine wpo_mv (a := (.ref p0 0)) rfl rfl rfl (o_c tk false rfl (fun _ => rfl)) ?_
                  refine wpo_mv (a := (.ref p0 1)) rfl rfl rfl (o_c tk false rfl (fun _ => rfl)) ?_
                  obtain ⟨c75, hc76, H74⟩ := lt_ex H71
                  refine wpo_z rfl rfl (h_st tk hH 0 rfl ty3 (by simp) rfl rfl (.of_eq rfl) (b := (eI v26)) rfl rfl (Nat.le_of_ble_eq_true rfl) (c_octets_Reader c75) (by rw [← hc76]; rfl)) fun τ hH => ?_
                  refine wpo_nil ?_
                  refine awp_seq ?_
                  refine awp_region rfl ?_
                  refine wpo_mv (a := (eI v68)) rfl rfl rfl (o_mv tk rfl (Wk.refl _)) ?_
                  refine wpo_mv (a := (eI v68)) rfl rfl rfl (o_as tk rfl (Wk.refl _)) ?_
                  refine wpo_nil ?_
                  refine awp_ret ?_
                  have hz := hy10 _ (inj_inr H74)
                  refine ⟨⟨_, inj_inr H74⟩, ?_⟩
                  rw [← hz] at hj6
                  have H77 := (show some _ = some _ from hj6)
                  obtain rfl := Option.some.inj H77
                  exact ⟨_, (eI v68), rfl, (.of_eq rfl), .of_eq ((enc_i64 td3 sz3).cut _ _ _), hH.noT⟩
        · refine awp_region rfl ?_
          refine wpo_mv (a := ((@eU .u8 8) v24)) rfl rfl rfl (o_mv tk rfl (Wk.refl _)) ?_
          refine wpo_lt hs29 eB rfl rfl rfl (o_eql_u tk rfl rfl) fun v32 H31 => ?_
          refine wpo_mv (a := (eB v32)) rfl rfl rfl (o_mv tk rfl (Wk.refl _)) ?_
          refine if_split H31 (fun hb H33 => ?_) (fun hb H33 => ?_)
          · subst hb
            refine wpo_mv (a := (eI c1)) rfl rfl rfl (o_mv tk rfl (Wk.refl _)) ?_
            refine wpo_lt H33 eB rfl rfl rfl (o_ar tk rfl rfl rfl) fun v35 H34 => ?_
            refine wpo_mv (a := (eB v35)) rfl rfl rfl (o_pick_t tk rfl rfl (Wk.refl _)) ?_
            refine wpo_mv (a := (eB v35)) rfl rfl rfl (o_mv tk rfl (Wk.refl _)) ?_
            refine if_split H34 (fun hb H36 => ?_) (fun hb H36 => ?_)
            · subst hb
              refine wpo_mv (a := (eI v26)) rfl rfl rfl (o_mv tk rfl (Wk.refl _)) ?_
              refine wpo_mv (a := (.ref p0 0)) rfl rfl rfl (o_mv tk rfl (Wk.refl _)) ?_
              refine wpo_mv (a := (.ref p0 0)) rfl rfl rfl (o_c tk false rfl (fun _ => rfl)) ?_
              refine wpo_mv (a := (.ref p0 1)) rfl rfl rfl (o_c tk false rfl (fun _ => rfl)) ?_
              refine wpo_rd (a := (eI c3.at_)) rfl rfl rfl (h_ld tk hH 0 rfl rfl rfl) ?_
              refine wpo_lt H36 eI rfl rfl rfl (o_ar tk rfl rfl rfl) fun v38 H37 => ?_
              refine wpo_lt H37 eB rfl rfl rfl (o_ar tk rfl rfl rfl) fun v40 H39 => ?_
              refine wpo_mv (a := (eB v40)) rfl rfl rfl (o_pick_t tk rfl rfl (Wk.refl _)) ?_
              refine wpo_mv (a := (eB v40)) rfl rfl rfl (o_as tk rfl (Wk.refl _)) ?_
              refine wpo_nil ?_
              have e := Option.some.inj H39
              subst e
              exact ⟨(wkf_cons (.of_eq rfl) (wkf_cons (.of_eq rfl) (wkf_cons (.of_eq rfl) (wkf_cons (.of_eq rfl) (wkf_cons (.of_eq rfl) (wkf_cons (.of_eq rfl) (wkf_nil _))))))), hH⟩
            · subst hb
              refine wpo_skip rfl rfl rfl ?_
              refine wpo_skip rfl rfl rfl ?_
              refine wpo_skip rfl rfl rfl ?_
              refine wpo_skip rfl rfl rfl ?_
              refine wpo_skip rfl rfl rfl ?_
              refine wpo_skip rfl rfl rfl ?_
              refine wpo_skip rfl rfl rfl ?_
              refine wpo_mv (a := (eB false)) rfl rfl rfl (o_pick_f tk rfl rfl (Wk.refl _)) ?_
              refine wpo_mv (a := (eB false)) rfl rfl rfl (o_as tk rfl (Wk.refl _)) ?_
              refine wpo_nil ?_
              have e := Option.some.inj H36
              subst e
              exact ⟨(wkf_cons (.of_eq rfl) (wkf_cons (.of_eq rfl) (wkf_cons (.of_eq rfl) (wkf_cons (.of_eq rfl) (wkf_cons (.of_eq rfl) (wkf_cons (.of_eq rfl) (wkf_nil _))))))), hH⟩
          · subst hb
            refine wpo_skip rfl rfl rfl ?_
            refine wpo_skip rfl rfl rfl ?_
            refine wpo_mv (a := (eB false)) rfl rfl rfl (o_pick_f tk rfl rfl (Wk.refl _)) ?_
            refine wpo_mv (a := (eB false)) rfl rfl rfl (o_mv tk rfl (Wk.refl _)) ?_
            refine wpo_skip rfl rfl rfl ?_
            refine wpo_skip rfl rfl rfl ?_
            refine wpo_skip rfl rfl rfl ?_
            refine wpo_skip rfl rfl rfl ?_
            refine wpo_skip rfl rfl rfl ?_
            refine wpo_skip rfl rfl rfl ?_
            refine wpo_skip rfl rfl rfl ?_
            refine wpo_mv (a := (eB false)) rfl rfl rfl (o_pick_f tk rfl rfl (Wk.refl _)) ?_
            refine wpo_mv (a := (eB false)) rfl rfl rfl (o_as tk rfl (Wk.refl _)) ?_
            refine wpo_nil ?_
            have e := Option.some.inj H33
            subst e
            exact ⟨(wkf_cons (.of_eq rfl) (wkf_cons (.of_eq rfl) (wkf_cons (.of_eq rfl) (wkf_cons (.of_eq rfl) (wkf_cons (.of_eq rfl) (wkf_cons (.of_eq rfl) (wkf_nil _))))))), hH⟩
    · refine awp_exit ?_
      have hz := hy10 _ (inj_inr H15)
      exact ⟨⟨_, inj_inr H15⟩, c3, hz.symm, (wkf_nil _), hH⟩
end Go.Proofs.YtgfedohhkbmobaaDoor
namespace Go.Proofs.YtgfedohhkbmobaaDoor
open Go Go.Va
set_option linter.unusedVariables false
set_option linter.unusedSimpArgs false
set_option maxRecDepth 20000
theorem octets_Reader_Bytes_ok {x0 : octets_Reader} {x1 : Int} {r : (List (BitVec 8)) × octets_Reader} (H : octets_Reader_Bytes x0 x1 = some r) (σ : St) {p0 : Nat} (h0 : σ.objs[p0]? = some (c_octets_Reader x0)) : ACall Tryd.prog 66 [(.ref p0 0), (eI x1)] σ (fun a τ => a = (eL 1 (@eU .u8 8)) r.1 ∧ τ = σ.puts [(p0, (c_octets_Reader r.2))]) := by
  unfold octets_Reader_Bytes at H
  refine ACall.out [(p0, (c_octets_Reader r.2))] (by simp only [List.mem_cons, List.not_mem_nil, or_false]; rintro _ (rfl) ρ κ <;> exact c_octets_Reader_cut ρ κ _) (acall_start tk Tryd.func66 (by decide) rfl (Nat.le_of_ble_eq_true rfl) ?_)
  have hH := Holds.init σ
  have hH := hH.bring h0 (fun _ h => by cases h)
  refine awp_seq ?_
  refine awp_region rfl ?_
  refine wpo_mv (a := AV.nils) rfl rfl rfl (o_as tk rfl (Wk.refl _)) ?_
  refine wpo_nil ?_
  refine awp_seq ?_
  refine awp_region rfl ?_
  refine wpo_mv (a := (.ref p0 0)) rfl rfl rfl (o_mv tk rfl (Wk.refl _)) ?_
  refine wpo_mv (a := (.ref p0 0)) rfl rfl rfl (o_c tk false rfl (fun _ => rfl)) ?_
  refine wpo_mv (a := (.ref p0 1)) rfl rfl rfl (o_c tk false rfl (fun _ => rfl)) ?_
  refine wpo_rd (a := (eI x0.at_)) rfl rfl rfl (h_ld tk hH 0 rfl rfl rfl) ?_
  refine wpo_mv (a := (eI x0.at_)) rfl rfl rfl (o_as tk rfl (Wk.refl _)) ?_
  refine wpo_nil ?_
  refine awp_seq ?_
  refine awp_region rfl ?_
  refine wpo_mv (a := (.ref p0 0)) rfl rfl rfl (o_mv tk rfl (Wk.refl _)) ?_
  refine wpo_mv (a := (eI x1)) rfl rfl rfl (o_mv tk rfl (Wk.refl _)) ?_
  refine wpo_cb H (fun x _ => eI x.1) rfl rfl rfl (fun v2 hv => h_call1 hH [(0, (p0, (c_octets_Reader v2.2)))] ⟨⟨_, rfl⟩, trivial⟩ rfl rfl (.cons (.of_eq rfl) (.cons (.of_eq rfl) .nil)) (octets_Reader_Number_ok hv _ (hH.at_ 0 rfl))) fun v2 _ τ hv2 H1 hH => ?_
  refine wpo_mv (a := (eI v2.1)) rfl rfl rfl (o_as tk rfl (Wk.refl _)) ?_
  refine wpo_nil ?_
  refine awp_seq ?_
  refine awp_seq ?_
  refine awp_region rfl ?_
  refine wpo_mv (a := (.ref p0 0)) rfl rfl rfl (o_mv tk rfl (Wk.refl _)) ?_
  refine wpo_mv (a := (.ref p0 0)) rfl rfl rfl (o_c tk false rfl (fun _ => rfl)) ?_
  refine wpo_mv (a := (.ref p0 2)) rfl rfl rfl (o_c tk false rfl (fun _ => rfl)) ?_
  refine wpo_rd (a := (eI v2.2.code)) rfl rfl rfl (h_ld tk hH 0 rfl rfl rfl) ?_
  refine wpo_lt H1 eB rfl rfl rfl (o_ar tk rfl rfl rfl) fun v4 H3 => ?_
  refine wpo_nil ?_
  refine awp_if H3 rfl (fun H5 => ?_) (fun H5 => ?_)
  · refine awp_seq ?_
    refine awp_region rfl ?_
    refine wpo_mv (a := AV.nils) rfl rfl rfl (o_as tk rfl (Wk.refl _)) ?_
    refine wpo_nil ?_
    refine awp_ret ?_
    obtain rfl := Option.some.inj H5
    exact ⟨_, ((eL 1 (@eU .u8 8)) []), rfl, (wk_nils _), .of_eq ((enc_l td22 sz22 (enc_u td5 sz5).cut).cut _ _ _), hH.noT⟩
  · refine awp_skip ?_
    refine awp_seq ?_
    refine awp_seq ?_
    refine awp_region rfl ?_
    refine wpo_mv (a := (eI v2.1)) rfl rfl rfl (o_mv tk rfl (Wk.refl _)) ?_
    refine wpo_mv (a := (.ref p0 0)) rfl rfl rfl (o_mv tk rfl (Wk.refl _)) ?_
    refine wpo_bdr H5 eI rfl rfl rfl (fun v7 hv => h_callr rfl rfl (.cons (.of_eq rfl) .nil) (octets_Reader_Left_ok hv _ (hH.at_ 0 rfl))) fun v7 hv7 H6 => ?_
    refine wpo_lt H6 eB rfl rfl rfl (o_ar tk rfl rfl rfl) fun v9 H8 => ?_
    refine wpo_nil ?_
    refine awp_if H8 rfl (fun H10 => ?_) (fun H10 => ?_)
    · refine awp_seq ?_
      refine awp_region rfl ?_
      refine wpo_mv (a := (.ref p0 0)) rfl rfl rfl (o_mv tk rfl (Wk.refl _)) ?_
      refine wpo_mv (a := (eI x0.at_)) rfl rfl rfl (o_mv tk rfl (Wk.refl _)) ?_
      refine wpo_mv (a := (.ref p0 0)) rfl rfl rfl (o_c tk false rfl (fun _ => rfl)) ?_
      refine wpo_mv (a := (.ref p0 1)) rfl rfl rfl (o_c tk false rfl (fun _ => rfl)) ?_
      obtain ⟨c12, hc13, H11⟩ := lt_ex H10
      refine wpo_z rfl rfl (h_st tk hH 0 rfl ty3 (by simp) rfl rfl (.of_eq rfl) (b := (eI x0.at_)) rfl rfl (Nat.le_of_ble_eq_true rfl) (c_octets_Reader c12) (by rw [← hc13]; rfl)) fun τ hH => ?_
      refine wpo_nil ?_
      refine awp_seq ?_
      refine awp_region rfl ?_
      refine wpo_mv (a := (.ref p0 0)) rfl rfl rfl (o_mv tk rfl (Wk.refl _)) ?_
      refine wpo_cb H11 (fun x _ => .tup []) rfl rfl rfl (fun v15 hv => h_call1 hH [(0, (p0, (c_octets_Reader v15)))] ⟨⟨_, rfl⟩, trivial⟩ rfl rfl (.cons (.of_eq rfl) (.cons (.of_eq rfl) .nil)) (octets_Reader_Fail_ok hv _ (hH.at_ 0 rfl))) fun v15 _ τ hv15 H14 hH => ?_
      refine wpo_nil ?_
      refine awp_seq ?_
      refine awp_region rfl ?_
      refine wpo_mv (a := AV.nils) rfl rfl rfl (o_as tk rfl (Wk.refl _)) ?_
      refine wpo_nil ?_
      refine awp_ret ?_
      obtain rfl := Option.some.inj H14
      exact ⟨_, ((eL 1 (@eU .u8 8)) []), rfl, (wk_nils _), .of_eq ((enc_l td22 sz22 (enc_u td5 sz5).cut).cut _ _ _), hH.noT⟩
    · refine awp_skip ?_
      refine awp_seq ?_
      refine awp_drawS mixed [16] rfl (by decide +kernel) rfl rfl ?_
      refine wpdS_mv (a := (eF 1 (@eU .u8 8) ([] : List (BitVec 8)))) rfl rfl rfl (o_c tk false rfl (fun _ => rfl)) ?_
      refine wpdS_mv (a := (.ref p0 0)) rfl rfl rfl (o_mv tk rfl (Wk.refl _)) ?_
      refine wpdS_mv (a := (.ref p0 0)) rfl rfl rfl (o_c tk false rfl (fun _ => rfl)) ?_
      refine wpdS_mv (a := (.ref p0 0)) rfl rfl rfl (o_c tk false rfl (fun _ => rfl)) ?_
      refine wpdS_rd (a := ((eL 1 (@eU .u8 8)) v2.2.b)) rfl (by decide +kernel) rfl rfl (h_ld tk hH 0 rfl rfl rfl) ?_
      refine wpdS_mv (a := (.ref p0 0)) rfl rfl rfl (o_mv tk rfl (Wk.refl _)) ?_
      refine wpdS_mv (a := (.ref p0 0)) rfl rfl rfl (o_c tk false rfl (fun _ => rfl)) ?_
      refine wpdS_mv (a := (.ref p0 1)) rfl rfl rfl (o_c tk false rfl (fun _ => rfl)) ?_
      refine wpdS_rd (a := (eI v2.2.at_)) rfl (by decide +kernel) rfl rfl (h_ld tk hH 0 rfl rfl rfl) ?_
      refine wpdS_mv (a := (.ref p0 0)) rfl rfl rfl (o_mv tk rfl (Wk.refl _)) ?_
      refine wpdS_mv (a := (.ref p0 0)) rfl rfl rfl (o_c tk false rfl (fun _ => rfl)) ?_
      refine wpdS_mv (a := (.ref p0 1)) rfl rfl rfl (o_c tk false rfl (fun _ => rfl)) ?_
      refine wpdS_rd (a := (eI v2.2.at_)) rfl (by decide +kernel) rfl rfl (h_ld tk hH 0 rfl rfl rfl) ?_
      refine wpdS_mv (a := (eI v2.1)) rfl rfl rfl (o_mv tk rfl (Wk.refl _)) ?_
      refine wpdS_lt H10 eI rfl rfl rfl (o_ar tk rfl rfl rfl) fun v17 H16 => ?_
      refine wpdS_bd H16 (eL 1 (@eU .u8 8)) rfl rfl rfl (fun v19 hv => o_cut tk hv td22 (enc_u td5 sz5) rfl rfl rfl) fun v19 hv19 H18 => ?_
      obtain ⟨v21, hv22, H20⟩ := Option.bind_eq_some_iff.1 H18
      refine wpdS_a (av := fun t => eT t 1 (@eU .u8 8) v21) rfl rfl rfl (h_app0 tk hH hv22 td22 ty5 rfl (by decide) (.inr rfl) (src_l td22 rfl)) fun tk23 τ hH => ?_
      refine wpdS_mv (a := (eT tk23 1 (@eU .u8 8) v21)) rfl rfl rfl (o_as tk rfl (Wk.refl _)) ?_
      refine wpdS_nil ?_
      refine awp_seq ?_
      refine awp_region rfl ?_
      refine wpo_mv (a := (.ref p0 0)) rfl rfl rfl (o_mv tk rfl (Wk.refl _)) ?_
      refine wpo_mv (a := (.ref p0 0)) rfl rfl rfl (o_c tk false rfl (fun _ => rfl)) ?_
      refine wpo_mv (a := (.ref p0 1)) rfl rfl rfl (o_c tk false rfl (fun _ => rfl)) ?_
      refine wpo_rd (a := (eI v2.2.at_)) rfl rfl rfl (h_ld tk hH 0 rfl rfl rfl) ?_
      refine wpo_mv (a := (eI v2.1)) rfl rfl rfl (o_mv tk rfl (Wk.refl _)) ?_
      refine wpo_lt H20 eI rfl rfl rfl (o_ar tk rfl rfl rfl) fun v25 H24 => ?_
      refine wpo_mv (a := (.ref p0 0)) rfl rfl rfl (o_c tk false rfl (fun _ => rfl)) ?_
      refine wpo_mv (a := (.ref p0 1)) rfl rfl rfl (o_c tk false rfl (fun _ => rfl)) ?_
      obtain ⟨c27, hc28, H26⟩ := lt_ex H24
      refine wpo_z rfl rfl (h_st tk hH 0 rfl ty3 (by simp) rfl rfl (.of_eq rfl) (b := (eI v25)) rfl rfl (Nat.le_of_ble_eq_true rfl) (c_octets_Reader c27) (by rw [← hc28]; rfl)) fun τ hH => ?_
      refine wpo_nil ?_
      refine awp_seq ?_
      refine awp_region rfl ?_
      refine wpo_mv (a := (eT tk23 1 (@eU .u8 8) v21)) rfl rfl rfl (o_mv tk rfl (Wk.refl _)) ?_
      refine wpo_mv (a := (eT tk23 1 (@eU .u8 8) v21)) rfl rfl rfl (o_as tk rfl (Wk.refl _)) ?_
      refine wpo_nil ?_
      refine awp_ret ?_
      obtain rfl := Option.some.inj H26
      exact ⟨_, ((eL 1 (@eU .u8 8)) v21), rfl, wk_no, .of_eq ((enc_l td22 sz22 (enc_u td5 sz5).cut).cut _ _ _), hH.noT⟩
end Go.Proofs.YtgfedohhkbmobaaDoor
namespace Go.Proofs.YtgfedohhkbmobaaDoor
open Go Go.Va
set_option linter.unusedVariables false
set_option linter.unusedSimpArgs false
set_option maxRecDepth 20000
theorem item_From_ok {x0 : octets_Reader} {r : api_Entry × octets_Reader} (H : item_From x0 = some r) (σ : St) {p0 : Nat} (h0 : σ.objs[p0]? = some (c_octets_Reader x0)) (hg : σ.gl = gls) : ACall Tryd.prog 36 [(.ref p0 0)] σ (fun a τ => a = e_api_Entry r.1 ∧ τ = σ.puts [(p0, (c_octets_Reader r.2))]) := by
  unfold item_From at H
  refine ACall.out [(p0, (c_octets_Reader r.2))] (by simp only [List.mem_cons, List.not_mem_nil, or_false]; rintro _ (rfl) ρ κ <;> exact c_octets_Reader_cut ρ κ _) (acall_start tk Tryd.func36 (by decide) rfl (Nat.le_of_ble_eq_true rfl) ?_)
  have hH := Holds.init σ
  have hH := hH.bring h0 (fun _ h => by cases h)
  refine awp_seq ?_
  refine awp_region rfl ?_
  refine wpo_a (av := fun id => .ref id 0) rfl rfl rfl (h_alloc tk hH ty50 [(eS z_api_Entry.Key), (eI z_api_Entry.Version), (eI z_api_Entry.AsOf), (eI z_api_Entry.Ends), AV.nils] rfl) fun id1 τ ⟨hH, n2⟩ => ?_
  refine wpo_nil ?_
  refine awp_seq ?_
  refine awp_region rfl ?_
  refine wpo_mv (a := (.ref p0 0)) rfl rfl rfl (o_mv tk rfl (Wk.refl _)) ?_
  refine wpo_cb H (fun x _ => (eL 1 (@eU .u8 8)) x.1) rfl rfl rfl (fun v4 hv => h_call1 hH [(1, (p0, (c_octets_Reader v4.2)))] ⟨⟨_, rfl⟩, trivial⟩ rfl rfl (.cons (.of_eq rfl) (.cons (.of_eq rfl) .nil)) (octets_Reader_Bytes_ok hv _ (hH.at_ 1 rfl))) fun v4 _ τ hv4 H3 hH => ?_
  refine wpo_mv (a := (eS v4.1)) rfl rfl rfl (o_b2s tk td22 td9 td5 rfl) ?_
  refine wpo_mv (a := (.agg [(eS (⟨v4.1, (0 : Int), (0 : Int), (0 : Int), ([] : List (BitVec 8))⟩ : api_Entry).Key), (eI (⟨v4.1, (0 : Int), (0 : Int), (0 : Int), ([] : List (BitVec 8))⟩ : api_Entry).Version), (eI (⟨v4.1, (0 : Int), (0 : Int), (0 : Int), ([] : List (BitVec 8))⟩ : api_Entry).AsOf), (eI (⟨v4.1, (0 : Int), (0 : Int), (0 : Int), ([] : List (BitVec 8))⟩ : api_Entry).Ends), AV.nils])) rfl rfl rfl (o_c tk false rfl (fun _ => rfl)) ?_
  refine wpo_a (av := fun id => .ref id 0) rfl rfl rfl (h_alloc tk hH ty50 [(eS z_api_Entry.Key), (eI z_api_Entry.Version), (eI z_api_Entry.AsOf), (eI z_api_Entry.Ends), AV.nils] rfl) fun id5 τ ⟨hH, n6⟩ => ?_
  refine wpo_z rfl rfl (h_st tk hH 0 rfl ty50 (by simp) rfl rfl (.of_eq rfl) (b := (.agg [(eS (⟨v4.1, (0 : Int), (0 : Int), (0 : Int), ([] : List (BitVec 8))⟩ : api_Entry).Key), (eI (⟨v4.1, (0 : Int), (0 : Int), (0 : Int), ([] : List (BitVec 8))⟩ : api_Entry).Version), (eI (⟨v4.1, (0 : Int), (0 : Int), (0 : Int), ([] : List (BitVec 8))⟩ : api_Entry).AsOf), (eI (⟨v4.1, (0 : Int), (0 : Int), (0 : Int), ([] : List (BitVec 8))⟩ : api_Entry).Ends), AV.nils])) rfl rfl (Nat.le_of_ble_eq_true rfl) [(eS ((⟨v4.1, (0 : Int), (0 : Int), (0 : Int), ([] : List (BitVec 8))⟩ : api_Entry) : api_Entry).Key), (eI ((⟨v4.1, (0 : Int), (0 : Int), (0 : Int), ([] : List (BitVec 8))⟩ : api_Entry) : api_Entry).Version), (eI ((⟨v4.1, (0 : Int), (0 : Int), (0 : Int), ([] : List (BitVec 8))⟩ : api_Entry) : api_Entry).AsOf), (eI ((⟨v4.1, (0 : Int), (0 : Int), (0 : Int), ([] : List (BitVec 8))⟩ : api_Entry) : api_Entry).Ends), AV.nils] rfl) fun τ hH => ?_
  refine wpo_nil ?_
  refine awp_seq ?_
  refine awp_region rfl ?_
  refine wpo_mv (a := (.ref p0 0)) rfl rfl rfl (o_mv tk rfl (Wk.refl _)) ?_
  refine wpo_cb H3 (fun x _ => eI x.1) rfl rfl rfl (fun v9 hv => h_call1 hH [(2, (p0, (c_octets_Reader v9.2)))] ⟨⟨_, rfl⟩, trivial⟩ rfl rfl (.cons (.of_eq rfl) (.cons (.of_eq rfl) .nil)) (octets_Reader_Number_ok hv _ (hH.at_ 2 rfl))) fun v9 _ τ hv9 H8 hH => ?_
  refine wpo_mv (a := (.ref id5 1)) rfl rfl rfl (o_c tk false rfl (fun _ => rfl)) ?_
  refine wpo_z rfl rfl (h_st tk hH 0 rfl ty3 (by simp) rfl rfl (.of_eq rfl) (b := (eI v9.1)) rfl rfl (Nat.le_of_ble_eq_true rfl) [(eS ({ ((⟨v4.1, (0 : Int), (0 : Int), (0 : Int), ([] : List (BitVec 8))⟩ : api_Entry) : api_Entry) with Version := v9.1 } : api_Entry).Key), (eI ({ ((⟨v4.1, (0 : Int), (0 : Int), (0 : Int), ([] : List (BitVec 8))⟩ : api_Entry) : api_Entry) with Version := v9.1 } : api_Entry).Version), (eI ({ ((⟨v4.1, (0 : Int), (0 : Int), (0 : Int), ([] : List (BitVec 8))⟩ : api_Entry) : api_Entry) with Version := v9.1 } : api_Entry).AsOf), (eI ({ ((⟨v4.1, (0 : Int), (0 : Int), (0 : Int), ([] : List (BitVec 8))⟩ : api_Entry) : api_Entry) with Version := v9.1 } : api_Entry).Ends), AV.nils] rfl) fun τ hH => ?_
  refine wpo_nil ?_
  refine awp_seq ?_
  refine awp_region rfl ?_
  refine wpo_mv (a := (.ref p0 0)) rfl rfl rfl (o_mv tk rfl (Wk.refl _)) ?_
  refine wpo_cb H8 (fun x _ => eI x.1) rfl rfl rfl (fun v12 hv => h_call1 hH [(2, (p0, (c_octets_Reader v12.2)))] ⟨⟨_, rfl⟩, trivial⟩ rfl rfl (.cons (.of_eq rfl) (.cons (.of_eq rfl) .nil)) (octets_Reader_Number_ok hv _ (hH.at_ 2 rfl))) fun v12 _ τ hv12 H11 hH => ?_
  refine wpo_mv (a := (.ref id5 2)) rfl rfl rfl (o_c tk false rfl (fun _ => rfl)) ?_
  refine wpo_z rfl rfl (h_st tk hH 0 rfl ty3 (by simp) rfl rfl (.of_eq rfl) (b := (eI v12.1)) rfl rfl (Nat.le_of_ble_eq_true rfl) [(eS ({ ({ ((⟨v4.1, (0 : Int), (0 : Int), (0 : Int), ([] : List (BitVec 8))⟩ : api_Entry) : api_Entry) with Version := v9.1 } : api_Entry) with AsOf := v12.1 } : api_Entry).Key), (eI ({ ({ ((⟨v4.1, (0 : Int), (0 : Int), (0 : Int), ([] : List (BitVec 8))⟩ : api_Entry) : api_Entry) with Version := v9.1 } : api_Entry) with AsOf := v12.1 } : api_Entry).Version), (eI ({ ({ ((⟨v4.1, (0 : Int), (0 : Int), (0 : Int), ([] : List (BitVec 8))⟩ : api_Entry) : api_Entry) with Version := v9.1 } : api_Entry) with AsOf := v12.1 } : api_Entry).AsOf), (eI ({ ({ ((⟨v4.1, (0 : Int), (0 : Int), (0 : Int), ([] : List (BitVec 8))⟩ : api_Entry) : api_Entry) with Version := v9.1 } : api_Entry) with AsOf := v12.1 } : api_Entry).Ends), AV.nils] rfl) fun τ hH => ?_
  refine wpo_nil ?_
  refine awp_seq ?_
  refine awp_region rfl ?_
  refine wpo_mv (a := (.ref p0 0)) rfl rfl rfl (o_mv tk rfl (Wk.refl _)) ?_
  refine wpo_cb H11 (fun x _ => eI x.1) rfl rfl rfl (fun v15 hv => h_call1 hH [(2, (p0, (c_octets_Reader v15.2)))] ⟨⟨_, rfl⟩, trivial⟩ rfl rfl (.cons (.of_eq rfl) (.cons (.of_eq rfl) .nil)) (octets_Reader_Number_ok hv _ (hH.at_ 2 rfl))) fun v15 _ τ hv15 H14 hH => ?_
  refine wpo_mv (a := (.ref id5 3)) rfl rfl rfl (o_c tk false rfl (fun _ => rfl)) ?_
  refine wpo_z rfl rfl (h_st tk hH 0 rfl ty3 (by simp) rfl rfl (.of_eq rfl) (b := (eI v15.1)) rfl rfl (Nat.le_of_ble_eq_true rfl) [(eS ({ ({ ({ ((⟨v4.1, (0 : Int), (0 : Int), (0 : Int), ([] : List (BitVec 8))⟩ : api_Entry) : api_Entry) with Version := v9.1 } : api_Entry) with AsOf := v12.1 } : api_Entry) with Ends := v15.1 } : api_Entry).Key), (eI ({ ({ ({ ((⟨v4.1, (0 : Int), (0 : Int), (0 : Int), ([] : List (BitVec 8))⟩ : api_Entry) : api_Entry) with Version := v9.1 } : api_Entry) with AsOf := v12.1 } : api_Entry) with Ends := v15.1 } : api_Entry).Version), (eI ({ ({ ({ ((⟨v4.1, (0 : Int), (0 : Int), (0 : Int), ([] : List (BitVec 8))⟩ : api_Entry) : api_Entry) with Version := v9.1 } : api_Entry) with AsOf := v12.1 } : api_Entry) with Ends := v15.1 } : api_Entry).AsOf), (eI ({ ({ ({ ((⟨v4.1, (0 : Int), (0 : Int), (0 : Int), ([] : List (BitVec 8))⟩ : api_Entry) : api_Entry) with Version := v9.1 } : api_Entry) with AsOf := v12.1 } : api_Entry) with Ends := v15.1 } : api_Entry).Ends), AV.nils] rfl) fun τ hH => ?_
  refine wpo_nil ?_
  refine awp_seq ?_
  refine awp_region rfl ?_
  refine wpo_mv (a := (.ref p0 0)) rfl rfl rfl (o_mv tk rfl (Wk.refl _)) ?_
  refine wpo_cb H14 (fun x _ => (eL 1 (@eU .u8 8)) x.1) rfl rfl rfl (fun v18 hv => h_call1 hH [(2, (p0, (c_octets_Reader v18.2)))] ⟨⟨_, rfl⟩, trivial⟩ rfl rfl (.cons (.of_eq rfl) (.cons (.of_eq rfl) .nil)) (octets_Reader_Bytes_ok hv _ (hH.at_ 2 rfl))) fun v18 _ τ hv18 H17 hH => ?_
  refine wpo_mv (a := (.ref id5 4)) rfl rfl rfl (o_c tk false rfl (fun _ => rfl)) ?_
  refine wpo_z rfl rfl (h_st tk hH 0 rfl ty22 (by simp) rfl rfl (.of_eq rfl) (b := ((eL 1 (@eU .u8 8)) v18.1)) rfl rfl (Nat.le_of_ble_eq_true rfl) (c_api_Entry ({ ({ ({ ({ ((⟨v4.1, (0 : Int), (0 : Int), (0 : Int), ([] : List (BitVec 8))⟩ : api_Entry) : api_Entry) with Version := v9.1 } : api_Entry) with AsOf := v12.1 } : api_Entry) with Ends := v15.1 } : api_Entry) with Value := v18.1 } : api_Entry)) rfl) fun τ hH => ?_
  refine wpo_nil ?_
  refine awp_seq ?_
  refine awp_seq ?_
  refine awp_region rfl ?_
  refine wpo_mv (a := (.ref p0 0)) rfl rfl rfl (o_mv tk rfl (Wk.refl _)) ?_
  refine wpo_bdr H17 eI rfl rfl rfl (fun v21 hv => h_callr rfl rfl (.cons (.of_eq rfl) .nil) (octets_Reader_Code_ok hv _ (hH.at_ 2 rfl))) fun v21 hv21 H20 => ?_
  refine wpo_lt H20 eB rfl rfl rfl (o_ar tk rfl rfl rfl) fun v23 H22 => ?_
  refine wpo_nil ?_
  obtain ⟨s24, hs26, hj27⟩ := Option.bind_eq_some_iff.1 H22
  refine awp_cutn (fun fr τ => WkF fr (fm [(0, (.ref p0 0)), (2, (.ref id1 0)), (3, (.ref id5 0))]) ∧ Holds σ [(id5, (c_api_Entry ({ ({ ({ ({ ((⟨v4.1, (0 : Int), (0 : Int), (0 : Int), ([] : List (BitVec 8))⟩ : api_Entry) : api_Entry) with Version := v9.1 } : api_Entry) with AsOf := v12.1 } : api_Entry) with Ends := v15.1 } : api_Entry) with Value := v18.1 } : api_Entry))), (id1, [(eS z_api_Entry.Key), (eI z_api_Entry.Version), (eI z_api_Entry.AsOf), (eI z_api_Entry.Ends), AV.nils]), (p0, (c_octets_Reader s24))] [] τ) ?_ ?_
  · rintro fr τ ⟨hfr, hH⟩
    have H38 := hj27
    refine AWP.fm [(0, (.ref p0 0)), (2, (.ref id1 0)), (3, (.ref id5 0))] hfr ?_
    refine awp_seq ?_
    refine awp_seq ?_
    refine awp_region rfl ?_
    refine wpo_mv (a := (.ref p0 0)) rfl rfl rfl (o_mv tk rfl (Wk.refl _)) ?_
    refine wpo_bdr H38 eI rfl rfl rfl (fun v40 hv => h_callr rfl rfl (.cons (.of_eq rfl) .nil) (octets_Reader_Code_ok hv _ (hH.at_ 2 rfl))) fun v40 hv40 H39 => ?_
    refine wpo_lt H39 eB rfl rfl rfl (o_ar tk rfl rfl rfl) fun v42 H41 => ?_
    refine wpo_nil ?_
    refine awp_if H41 rfl (fun H43 => ?_) (fun H43 => ?_)
    · refine awp_seq ?_
      refine awp_region rfl ?_
      refine wpo_mv (a := (.agg [(eS (⟨([] : List (BitVec 8)), (0 : Int), (0 : Int), (0 : Int), ([] : List (BitVec 8))⟩ : api_Entry).Key), (eI (⟨([] : List (BitVec 8)), (0 : Int), (0 : Int), (0 : Int), ([] : List (BitVec 8))⟩ : api_Entry).Version), (eI (⟨([] : List (BitVec 8)), (0 : Int), (0 : Int), (0 : Int), ([] : List (BitVec 8))⟩ : api_Entry).AsOf), (eI (⟨([] : List (BitVec 8)), (0 : Int), (0 : Int), (0 : Int), ([] : List (BitVec 8))⟩ : api_Entry).Ends), AV.nils])) rfl rfl rfl (o_c tk false rfl (fun _ => rfl)) ?_
      refine wpo_z rfl rfl (h_st tk hH 1 rfl ty50 (by simp) rfl rfl (.of_eq rfl) (b := (.agg [(eS (⟨([] : List (BitVec 8)), (0 : Int), (0 : Int), (0 : Int), ([] : List (BitVec 8))⟩ : api_Entry).Key), (eI (⟨([] : List (BitVec 8)), (0 : Int), (0 : Int), (0 : Int), ([] : List (BitVec 8))⟩ : api_Entry).Version), (eI (⟨([] : List (BitVec 8)), (0 : Int), (0 : Int), (0 : Int), ([] : List (BitVec 8))⟩ : api_Entry).AsOf), (eI (⟨([] : List (BitVec 8)), (0 : Int), (0 : Int), (0 : Int), ([] : List (BitVec 8))⟩ : api_Entry).Ends), AV.nils])) rfl rfl (Nat.le_of_ble_eq_true rfl) [(eS ((⟨([] : List (BitVec 8)), (0 : Int), (0 : Int), (0 : Int), ([] : List (BitVec 8))⟩ : api_Entry) : api_Entry).Key), (eI ((⟨([] : List (BitVec 8)), (0 : Int), (0 : Int), (0 : Int), ([] : List (BitVec 8))⟩ : api_Entry) : api_Entry).Version), (eI ((⟨([] : List (BitVec 8)), (0 : Int), (0 : Int), (0 : Int), ([] : List (BitVec 8))⟩ : api_Entry) : api_Entry).AsOf), (eI ((⟨([] : List (BitVec 8)), (0 : Int), (0 : Int), (0 : Int), ([] : List (BitVec 8))⟩ : api_Entry) : api_Entry).Ends), AV.nils] rfl) fun τ hH => ?_
      refine wpo_nil ?_
      refine awp_ret ?_
      obtain rfl := Option.some.inj H43
      exact ⟨_, (e_api_Entry ((⟨([] : List (BitVec 8)), (0 : Int), (0 : Int), (0 : Int), ([] : List (BitVec 8))⟩ : api_Entry) : api_Entry)), (ares_1 (ares_cell hH 1 rfl rfl rfl)), (wk_agg (.cons (.of_eq rfl) (.cons (.of_eq rfl) (.cons (.of_eq rfl) (.cons (.of_eq rfl) (.cons (wk_nils _) .nil)))))), .of_eq (enc50.cut _ _ _), ((hH.noT.drop n6).drop n2)⟩
    · refine awp_skip ?_
      refine awp_seq ?_
      refine awp_region rfl ?_
      refine wpo_rd (a := (e_api_Entry ({ ({ ({ ({ ((⟨v4.1, (0 : Int), (0 : Int), (0 : Int), ([] : List (BitVec 8))⟩ : api_Entry) : api_Entry) with Version := v9.1 } : api_Entry) with AsOf := v12.1 } : api_Entry) with Ends := v15.1 } : api_Entry) with Value := v18.1 } : api_Entry))) rfl rfl rfl (h_ld tk hH 0 rfl rfl rfl) ?_
      refine wpo_z rfl rfl (h_st tk hH 1 rfl ty50 (by simp) rfl rfl (.of_eq rfl) (b := (e_api_Entry ({ ({ ({ ({ ((⟨v4.1, (0 : Int), (0 : Int), (0 : Int), ([] : List (BitVec 8))⟩ : api_Entry) : api_Entry) with Version := v9.1 } : api_Entry) with AsOf := v12.1 } : api_Entry) with Ends := v15.1 } : api_Entry) with Value := v18.1 } : api_Entry))) (enc50.flat _) rfl (Nat.le_of_ble_eq_true rfl) (c_api_Entry (({ ({ ({ ({ ((⟨v4.1, (0 : Int), (0 : Int), (0 : Int), ([] : List (BitVec 8))⟩ : api_Entry) : api_Entry) with Version := v9.1 } : api_Entry) with AsOf := v12.1 } : api_Entry) with Ends := v15.1 } : api_Entry) with Value := v18.1 } : api_Entry) : api_Entry)) rfl) fun τ hH => ?_
      refine wpo_nil ?_
      refine awp_ret ?_
      obtain rfl := Option.some.inj H43
      exact ⟨_, (e_api_Entry (({ ({ ({ ({ ((⟨v4.1, (0 : Int), (0 : Int), (0 : Int), ([] : List (BitVec 8))⟩ : api_Entry) : api_Entry) with Version := v9.1 } : api_Entry) with AsOf := v12.1 } : api_Entry) with Ends := v15.1 } : api_Entry) with Value := v18.1 } : api_Entry) : api_Entry)), (ares_1 (ares_cell hH 1 rfl rfl rfl)), (.of_eq rfl), .of_eq (enc50.cut _ _ _), ((hH.noT.drop n6).drop n2)⟩
  · refine awp_if hs26 rfl (fun H28 => ?_) (fun H28 => ?_)
    · refine awp_seq ?_
      refine awp_region rfl ?_
      refine wpo_rd (a := (e_api_Entry ({ ({ ({ ({ ((⟨v4.1, (0 : Int), (0 : Int), (0 : Int), ([] : List (BitVec 8))⟩ : api_Entry) : api_Entry) with Version := v9.1 } : api_Entry) with AsOf := v12.1 } : api_Entry) with Ends := v15.1 } : api_Entry) with Value := v18.1 } : api_Entry))) rfl rfl rfl (h_ld tk hH 0 rfl rfl rfl) ?_
      refine wpo_bd H28 eErr rfl rfl rfl (fun v30 hv => OpP.of_call rfl rfl (.cons (.of_eq rfl) .nil) (item_Check_ok hv)) fun v30 hv30 H29 => ?_
      refine wpo_mv (a := (eErr v30)) rfl rfl rfl (o_as tk rfl (Wk.refl _)) ?_
      refine wpo_nil ?_
      refine awp_seq ?_
      refine awp_region rfl ?_
      refine wpo_mv (a := (eErr v30)) rfl rfl rfl (o_mv tk rfl (Wk.refl _)) ?_
      refine wpo_lt H29 eB rfl rfl rfl (o_err_neq tk rfl rfl rfl) fun v32 H31 => ?_
      refine wpo_nil ?_
      refine awp_if H31 rfl (fun H33 => ?_) (fun H33 => ?_)
      · refine awp_region rfl ?_
        refine wpo_mv (a := (.ref p0 0)) rfl rfl rfl (o_mv tk rfl (Wk.refl _)) ?_
        refine wpo_mv (a := (eErr v30)) rfl rfl rfl (o_mv tk rfl (Wk.refl _)) ?_
        refine wpo_bdr H33 eI rfl rfl rfl (fun v35 hv => h_callr rfl rfl (.cons (.of_eq rfl) .nil) (trouble_Of_ok hv _ (hH.gl.trans hg))) fun v35 hv35 H34 => ?_
        refine wpo_cb H34 (fun x _ => .tup []) rfl rfl rfl (fun v37 hv => h_call1 hH [(2, (p0, (c_octets_Reader v37)))] ⟨⟨_, rfl⟩, trivial⟩ rfl rfl (.cons (.of_eq rfl) (.cons (.of_eq rfl) .nil)) (octets_Reader_Fail_ok hv _ (hH.at_ 2 rfl))) fun v37 _ τ hv37 H36 hH => ?_
        refine wpo_nil ?_
        have e := Option.some.inj H36
        subst e
        exact ⟨(wkf_cons (.of_eq rfl) (wkf_cons (.of_eq rfl) (wkf_cons (.of_eq rfl) (wkf_nil _)))), hH⟩
      · refine awp_skip ?_
        have e := Option.some.inj H33
        subst e
        exact ⟨(wkf_cons (.of_eq rfl) (wkf_cons (.of_eq rfl) (wkf_cons (.of_eq rfl) (wkf_nil _)))), hH⟩
    · refine awp_skip ?_
      have e := Option.some.inj H28
      subst e
      exact ⟨(wkf_cons (.of_eq rfl) (wkf_cons (.of_eq rfl) (wkf_cons (.of_eq rfl) (wkf_nil _)))), hH⟩
end Go.Proofs.YtgfedohhkbmobaaDoor
namespace Go.Proofs.YtgfedohhkbmobaaDoor
open Go Go.Va
set_option linter.unusedVariables false
set_option linter.unusedSimpArgs false
set_option maxRecDepth 20000
theorem octets_Reader_At_ok {x0 : octets_Reader} {r : Int} (H : octets_Reader_At x0 = some r) (σ : St) {p0 : Nat} (h0 : σ.objs[p0]? = some (c_octets_Reader x0)) : ACall Tryd.prog 38 [(.ref p0 0)] σ (fun a τ => a = eI r ∧ τ = σ) := by
  unfold octets_Reader_At at H
  refine ACall.pure (acall_start tk Tryd.func38 (by decide) rfl (Nat.le_of_ble_eq_true rfl) ?_)
  have hH := Holds.init σ
  have hH := hH.bring h0 (fun _ h => by cases h)
  refine awp_seq ?_
  refine awp_region rfl ?_
  refine wpo_mv (a := (eI (0 : Int))) rfl rfl rfl (o_as tk rfl (Wk.refl _)) ?_
  refine wpo_nil ?_
  refine awp_seq ?_
  refine awp_region rfl ?_
  refine wpo_mv (a := (.ref p0 0)) rfl rfl rfl (o_mv tk rfl (Wk.refl _)) ?_
  refine wpo_mv (a := (.ref p0 0)) rfl rfl rfl (o_c tk false rfl (fun _ => rfl)) ?_
  refine wpo_mv (a := (.ref p0 1)) rfl rfl rfl (o_c tk false rfl (fun _ => rfl)) ?_
  refine wpo_rd (a := (eI x0.at_)) rfl rfl rfl (h_ld tk hH 0 rfl rfl rfl) ?_
  refine wpo_mv (a := (eI x0.at_)) rfl rfl rfl (o_as tk rfl (Wk.refl _)) ?_
  refine wpo_nil ?_
  refine awp_ret ?_
  obtain rfl := Option.some.inj H
  exact ⟨_, (eI x0.at_), rfl, (.of_eq rfl), .of_eq ((enc_i64 td3 sz3).cut _ _ _), (hH.noT.unbring h0)⟩
end Go.Proofs.YtgfedohhkbmobaaDoor
namespace Go.Proofs.YtgfedohhkbmobaaDoor
open Go Go.Va
set_option linter.unusedVariables false
set_option linter.unusedSimpArgs false
set_option maxRecDepth 20000
theorem trouble_Wrap_ok {x0 : List (BitVec 8)} {x1 : Int} {x2 : Err} {r : Err} (H : trouble_Wrap x0 x1 x2 = some r) (σ : St)  : ACall Tryd.prog 57 [(eS x0), (eI x1), (eErr x2)] σ (fun a τ => a = eErr r ∧ τ = σ) := by
  unfold trouble_Wrap at H
  refine ACall.pure (acall_start tk Tryd.func57 (by decide) rfl (Nat.le_of_ble_eq_true rfl) ?_)
  have hH := Holds.init σ
  refine awp_seq ?_
  refine awp_region rfl ?_
  refine wpo_mv (a := (eErr Err.nil)) rfl rfl rfl (o_as tk rfl (Wk.refl _)) ?_
  refine wpo_nil ?_
  refine awp_seq ?_
  refine awp_seq ?_
  refine awp_region rfl ?_
  refine wpo_mv (a := (eErr x2)) rfl rfl rfl (o_mv tk rfl (Wk.refl _)) ?_
  refine wpo_lt H eB rfl rfl rfl (o_err_eql tk rfl rfl rfl) fun v2 H1 => ?_
  refine wpo_nil ?_
  refine awp_if H1 rfl (fun H3 => ?_) (fun H3 => ?_)
  · refine awp_seq ?_
    refine awp_region rfl ?_
    refine wpo_mv (a := (eErr Err.nil)) rfl rfl rfl (o_as tk rfl (Wk.refl _)) ?_
    refine wpo_nil ?_
    refine awp_ret ?_
    obtain rfl := Option.some.inj H3
    exact ⟨_, (eErr Err.nil), rfl, (.of_eq rfl), .of_eq (encErr.cut _ _ _), hH.noT⟩
  · refine awp_skip ?_
    refine awp_seq ?_
    refine awp_region rfl ?_
    refine wpo_mv (a := (eS x0)) rfl rfl rfl (o_mv tk rfl (Wk.refl _)) ?_
    refine wpo_mv (a := (eI x1)) rfl rfl rfl (o_mv tk rfl (Wk.refl _)) ?_
    refine wpo_mv (a := (eErr x2)) rfl rfl rfl (o_mv tk rfl (Wk.refl _)) ?_
    refine wpo_lt H3 e_trouble_fault rfl rfl rfl (o_c tk false rfl (fun _ => by generalize x2 = z0; cases z0 <;> rfl)) fun v5 H4 => ?_
    refine wpo_mv (a := (.fptr (c_trouble_fault v5) 0)) rfl rfl rfl (o_boxf tk rfl (.of_eq rfl) (b := (e_trouble_fault v5)) (enc87.flat _)) ?_
    refine wpo_mv (a := (eErr (Err.fault v5.op v5.at_ v5.code v5.under))) rfl rfl rfl (o_c tk false rfl (fun _ => rfl)) ?_
    refine wpo_mv (a := (eErr (Err.fault v5.op v5.at_ v5.code v5.under))) rfl rfl rfl (o_as tk rfl (Wk.refl _)) ?_
    refine wpo_nil ?_
    refine awp_ret ?_
    obtain rfl := Option.some.inj H4
    exact ⟨_, (eErr (Err.fault v5.op v5.at_ v5.code v5.under)), rfl, (.of_eq rfl), .of_eq (encErr.cut _ _ _), hH.noT⟩
end Go.Proofs.YtgfedohhkbmobaaDoor
namespace Go.Proofs.YtgfedohhkbmobaaDoor
open Go Go.Va
set_option linter.unusedVariables false
set_option linter.unusedSimpArgs false
set_option maxRecDepth 20000
theorem item_Read_ok {x0 : List (BitVec 8)} {r : (List api_Entry) × Err} (H : item_Read x0 = some r) (σ : St)  (hg : σ.gl = gls) : ACall Tryd.prog 41 [((eL 1 (@eU .u8 8)) x0)] σ (fun a τ => a = .tup [(eL 5 e_api_Entry) r.1, eErr r.2] ∧ τ = σ) := by
  unfold item_Read at H
  refine ACall.pure (acall_start tk Tryd.func41 (by decide) rfl (Nat.le_of_ble_eq_true rfl) ?_)
  have hH := Holds.init σ
  refine awp_seq ?_
  refine awp_region rfl ?_
  refine wpo_mv (a := AV.nils) rfl rfl rfl (o_as tk rfl (Wk.refl _)) ?_
  refine wpo_mv (a := (eErr Err.nil)) rfl rfl rfl (o_as tk rfl (Wk.refl _)) ?_
  refine wpo_nil ?_
  refine awp_seq ?_
  refine awp_region rfl ?_
  refine wpo_mv (a := ((eL 1 (@eU .u8 8)) x0)) rfl rfl rfl (o_mv tk rfl (Wk.refl _)) ?_
  refine wpo_cb H (fun _ id => .ref id 0) rfl rfl rfl (fun v2 hv => h_calln hH (c_octets_Reader v2) rfl rfl (.cons (.of_eq rfl) .nil) (octets_Read_ok hv _)) fun v2 id3 τ hv2 H1 ⟨hH, n4⟩ => ?_
  refine wpo_mv (a := (.ref id3 0)) rfl rfl rfl (o_as tk rfl (Wk.refl _)) ?_
  refine wpo_nil ?_
  refine awp_seq ?_
  refine awp_region rfl ?_
  refine wpo_mv (a := AV.nils) rfl rfl rfl (o_as tk rfl (Wk.refl _)) ?_
  refine wpo_nil ?_
  refine awp_seq ?_
  refine awp_block ?_
  refine AWP.tokN hH 5 5 rfl fun tk7 τ hH => ?_
  obtain ⟨o8, hs9, hj10⟩ := Option.bind_eq_some_iff.1 H1
  refine awp_cutx 0 (fun fr τ => ∃ s15 : (List api_Entry) × octets_Reader, o8 = .inl s15 ∧ ∃ tk_5, WkF fr (fm [(5, (eT tk_5 5 e_api_Entry s15.1))]) ∧ Holds σ [(id3, (c_octets_Reader s15.2))] [tk_5] τ) ?_ ?_
  · rintro fr τ ⟨s15, rfl, tk_5, hfr, hH⟩
    have H59 := hj10
    simp only [Sum.elim_inl] at H59
    refine AWP.fm [(5, (eT tk_5 5 e_api_Entry s15.1))] hfr ?_
    refine awp_seq ?_
    refine awp_region rfl ?_
    refine wpo_mv (a := (eT tk_5 5 e_api_Entry s15.1)) rfl rfl rfl (o_mv tk rfl (Wk.refl _)) ?_
    refine wpo_mv (a := (eT tk_5 5 e_api_Entry s15.1)) rfl rfl rfl (o_as tk rfl (Wk.refl _)) ?_
    refine wpo_mv (a := (eErr Err.nil)) rfl rfl rfl (o_as tk rfl (Wk.refl _)) ?_
    refine wpo_nil ?_
    refine awp_ret ?_
    obtain rfl := Option.some.inj H59
    exact ⟨_, (.tup [((eL 5 e_api_Entry) s15.1), (eErr Err.nil)]), rfl, (wk_tup (.cons wk_no (.cons (.of_eq rfl) .nil))), .of_eq (by simp only [cutAV, cutL, (enc_l td52 sz52 enc50.cut).cut _ _ _, encErr.cut _ _ _]), (hH.noT.drop n4)⟩
  · refine awp_loopO (body := fun s => item_Read_b0 s.1 s.2) hs9 (fun (s : (List api_Entry) × octets_Reader) fr τ => ∃ tk_5, WkF fr (fm [(4, (.ref id3 0)), (5, (eT tk_5 5 e_api_Entry s.1))]) ∧ Holds σ [(id3, (c_octets_Reader s.2))] [tk_5] τ) ⟨tk7, (wkf_cons (.of_eq rfl) (wkf_cons (.of_eq rfl) (wkf_nil _))), hH⟩ ?_
    rintro ⟨c5, c6⟩ fr τ y11 ⟨tk_5, hfr, hH⟩ hb13 hy14
    have H16 : item_Read_b0 c5 c6 = some y11 := hb13
    unfold item_Read_b0 at H16
    refine AWP.fm [(4, (.ref id3 0)), (5, (eT tk_5 5 e_api_Entry c5))] hfr ?_
    have hH : Holds σ [(id3, (c_octets_Reader c6))] [tk_5] τ := hH
    refine awp_seq ?_
    refine awp_seq ?_
    obtain ⟨s17, hs19, hj20⟩ := Option.bind_eq_some_iff.1 H16
    refine awp_cutn (fun fr τ => ∃ tk_5, WkF fr (fm [(4, (.ref id3 0)), (5, (eT tk_5 5 e_api_Entry c5)), (17, (eB s17))]) ∧ Holds σ [(id3, (c_octets_Reader c6))] [tk_5] τ) ?_ ?_
    · rintro fr τ ⟨tk_5, hfr, hH⟩
      have H30 := hj20
      refine AWP.fm [(4, (.ref id3 0)), (5, (eT tk_5 5 e_api_Entry c5)), (17, (eB s17))] hfr ?_
      refine awp_if H30 rfl (fun H31 => ?_) (fun H31 => ?_)
      · refine awp_skip ?_
        refine awp_block ?_
        refine awp_seq ?_
        refine awp_region rfl ?_
        refine wpo_mv (a := (.ref id3 0)) rfl rfl rfl (o_mv tk rfl (Wk.refl _)) ?_
        refine wpo_bdr H31 eI rfl rfl rfl (fun v33 hv => h_callr rfl rfl (.cons (.of_eq rfl) .nil) (octets_Reader_At_ok hv _ (hH.at_ 0 rfl))) fun v33 hv33 H32 => ?_
        refine wpo_mv (a := (eI v33)) rfl rfl rfl (o_as tk rfl (Wk.refl _)) ?_
        refine wpo_nil ?_
        refine awp_seq ?_
        refine awp_region rfl ?_
        refine wpo_mv (a := (.ref id3 0)) rfl rfl rfl (o_mv tk rfl (Wk.refl _)) ?_
        refine wpo_cb H32 (fun x _ => e_api_Entry x.1) rfl rfl rfl (fun v35 hv => h_call1 hH [(0, (id3, (c_octets_Reader v35.2)))] ⟨⟨_, rfl⟩, trivial⟩ rfl rfl (.cons (.of_eq rfl) .nil) (item_From_ok hv _ (hH.at_ 0 rfl) (hH.gl.trans hg))) fun v35 _ τ hv35 H34 hH => ?_
        refine wpo_a (av := fun id => .ref id 0) rfl rfl rfl (h_alloc tk hH ty50 [(eS z_api_Entry.Key), (eI z_api_Entry.Version), (eI z_api_Entry.AsOf), (eI z_api_Entry.Ends), AV.nils] rfl) fun id36 τ ⟨hH, n37⟩ => ?_
        refine wpo_z rfl rfl (h_st tk hH 0 rfl ty50 (by simp) rfl rfl (.of_eq rfl) (b := (e_api_Entry v35.1)) (enc50.flat _) rfl (Nat.le_of_ble_eq_true rfl) (c_api_Entry (v35.1 : api_Entry)) rfl) fun τ hH => ?_
        refine wpo_nil ?_
        refine awp_seq ?_
        refine awp_seq ?_
        refine awp_region rfl ?_
        refine wpo_mv (a := (.ref id3 0)) rfl rfl rfl (o_mv tk rfl (Wk.refl _)) ?_
        refine wpo_bdr H34 eI rfl rfl rfl (fun v40 hv => h_callr rfl rfl (.cons (.of_eq rfl) .nil) (octets_Reader_Code_ok hv _ (hH.at_ 1 rfl))) fun v40 hv40 H39 => ?_
        refine wpo_lt H39 eB rfl rfl rfl (o_ar tk rfl rfl rfl) fun v42 H41 => ?_
        refine wpo_nil ?_
        refine awp_if H41 rfl (fun H43 => ?_) (fun H43 => ?_)
        · refine awp_seq ?_
          refine awp_region rfl ?_
          refine wpo_mv (a := (eT tk_5 5 e_api_Entry c5)) rfl rfl rfl (o_mv tk rfl (Wk.refl _)) ?_
          refine wpo_lt H43 eI rfl rfl rfl (o_len tk td52 rfl) fun v45 H44 => ?_
          refine wpo_mv (a := (eI v33)) rfl rfl rfl (o_mv tk rfl (Wk.refl _)) ?_
          refine wpo_mv (a := (.ref id3 0)) rfl rfl rfl (o_mv tk rfl (Wk.refl _)) ?_
          refine wpo_bdr H44 eI rfl rfl rfl (fun v47 hv => h_callr rfl rfl (.cons (.of_eq rfl) .nil) (octets_Reader_Code_ok hv _ (hH.at_ 1 rfl))) fun v47 hv47 H46 => ?_
          refine wpo_bd H46 eErr rfl rfl rfl (fun v49 hv => OpP.of_call rfl rfl (.cons (.of_eq rfl) (.cons (.of_eq rfl) (.cons (.of_eq rfl) .nil))) (trouble_New_ok hv)) fun v49 hv49 H48 => ?_
          refine wpo_bd H48 eErr rfl rfl rfl (fun v51 hv => OpP.of_call rfl rfl (.cons (.of_eq rfl) (.cons (.of_eq rfl) (.cons (.of_eq rfl) .nil))) (trouble_Wrap_ok hv)) fun v51 hv51 H50 => ?_
          refine wpo_mv (a := AV.nils) rfl rfl rfl (o_as tk rfl (Wk.refl _)) ?_
          refine wpo_mv (a := (eErr v51)) rfl rfl rfl (o_as tk rfl (Wk.refl _)) ?_
          refine wpo_nil ?_
          refine awp_ret ?_
          have hz := hy14 _ (inj_inr H50)
          refine ⟨⟨_, inj_inr H50⟩, ?_⟩
          rw [← hz] at hj10
          have H52 := (show some _ = some _ from hj10)
          obtain rfl := Option.some.inj H52
          exact ⟨_, (.tup [((eL 5 e_api_Entry) []), (eErr v51)]), rfl, (wk_tup (.cons (wk_nils _) (.cons (.of_eq rfl) .nil))), .of_eq (by simp only [cutAV, cutL, (enc_l td52 sz52 enc50.cut).cut _ _ _, encErr.cut _ _ _]), ((hH.noT.drop n37).drop n4)⟩
        · refine awp_skip ?_
          refine awp_region rfl ?_
          refine wpo_mv (a := (eT tk_5 5 e_api_Entry c5)) rfl rfl rfl (o_mv tk rfl (Wk.refl _)) ?_
          refine wpo_rd (a := (e_api_Entry (v35.1 : api_Entry))) rfl rfl rfl (h_ld tk hH 0 rfl rfl rfl) ?_
          refine wpo_lt H43 (eF 5 e_api_Entry) rfl rfl rfl (o_c tk false rfl (fun _ => rfl)) fun v54 H53 => ?_
          obtain ⟨v56, hv57, H55⟩ := Option.bind_eq_some_iff.1 H53
          refine wpo_a (av := fun t => eT t 5 e_api_Entry v56) rfl rfl rfl (h_app tk hH 0 hv57 rfl td52 ty50 rfl (by decide) rfl (src_l td52 rfl)) fun tk58 τ hH => ?_
          refine wpo_mv (a := (eT tk58 5 e_api_Entry v56)) rfl rfl rfl (o_as tk rfl (Wk.refl _)) ?_
          refine wpo_nil ?_
          exact ⟨(v56, v35.2), inj_inl H55, tk58, (wkf_cons (.of_eq rfl) (wkf_cons (.of_eq rfl) (wkf_nil _))), (hH.drop n37)⟩
      · refine awp_exit ?_
        have hz := hy14 _ (inj_inr H31)
        exact ⟨⟨_, inj_inr H31⟩, (c5, c6), hz.symm, tk_5, (wkf_cons (.of_eq rfl) (wkf_nil _)), hH⟩
    · refine awp_region rfl ?_
      refine wpo_mv (a := (.ref id3 0)) rfl rfl rfl (o_mv tk rfl (Wk.refl _)) ?_
      refine wpo_bdr hs19 eI rfl rfl rfl (fun v22 hv => h_callr rfl rfl (.cons (.of_eq rfl) .nil) (octets_Reader_Code_ok hv _ (hH.at_ 0 rfl))) fun v22 hv22 H21 => ?_
      refine wpo_lt H21 eB rfl rfl rfl (o_ar tk rfl rfl rfl) fun v24 H23 => ?_
      refine wpo_mv (a := (eB v24)) rfl rfl rfl (o_mv tk rfl (Wk.refl _)) ?_
      refine if_split H23 (fun hb H25 => ?_) (fun hb H25 => ?_)
      · subst hb
        refine wpo_mv (a := (.ref id3 0)) rfl rfl rfl (o_mv tk rfl (Wk.refl _)) ?_
        refine wpo_bdr H25 eI rfl rfl rfl (fun v27 hv => h_callr rfl rfl (.cons (.of_eq rfl) .nil) (octets_Reader_Left_ok hv _ (hH.at_ 0 rfl))) fun v27 hv27 H26 => ?_
        refine wpo_lt H26 eB rfl rfl rfl (o_ar tk rfl rfl rfl) fun v29 H28 => ?_
        refine wpo_mv (a := (eB v29)) rfl rfl rfl (o_pick_t tk rfl rfl (Wk.refl _)) ?_
        refine wpo_nil ?_
        have e := Option.some.inj H28
        subst e
        exact ⟨tk_5, (wkf_cons (.of_eq rfl) (wkf_cons (.of_eq rfl) (wkf_cons (.of_eq rfl) (wkf_nil _)))), hH⟩
      · subst hb
        refine wpo_skip rfl rfl rfl ?_
        refine wpo_skip rfl rfl rfl ?_
        refine wpo_skip rfl rfl rfl ?_
        refine wpo_mv (a := (eB false)) rfl rfl rfl (o_pick_f tk rfl rfl (Wk.refl _)) ?_
        refine wpo_nil ?_
        have e := Option.some.inj H25
        subst e
        exact ⟨tk_5, (wkf_cons (.of_eq rfl) (wkf_cons (.of_eq rfl) (wkf_cons (.of_eq rfl) (wkf_nil _)))), hH⟩
end Go.Proofs.YtgfedohhkbmobaaDoor
namespace Go.Proofs.YtgfedohhkbmobaaDoor
open Go Go.Va
set_option linter.unusedVariables false
set_option linter.unusedSimpArgs false
set_option maxRecDepth 20000
theorem octets_Len_n_ok : ∀ (k : Nat) {x0 : Int} {r : Int} (H : octets_Len_n k x0 = some r) (σ : St) , ACall Tryd.prog 71 [(eI x0)] σ (fun a τ => a = eI r ∧ τ = σ) := by
  intro k
  induction k with
  | zero => intro x0 r H; cases H
  | succ k ih =>
    intro x0 r H σ
    replace H : octets_Len_F (octets_Len_n k) x0 = some r := H
    unfold octets_Len_F at H
    refine ACall.pure (acall_start tk Tryd.func71 (by decide) rfl (Nat.le_of_ble_eq_true rfl) ?_)
    have hH := Holds.init σ
    refine awp_seq ?_
    refine awp_region rfl ?_
    refine wpo_mv (a := (eI (0 : Int))) rfl rfl rfl (o_as tk rfl (Wk.refl _)) ?_
    refine wpo_nil ?_
    refine awp_seq ?_
    refine awp_region rfl ?_
    refine wpo_mv (a := (eI (1 : Int))) rfl rfl rfl (o_as tk rfl (Wk.refl _)) ?_
    refine wpo_nil ?_
    refine awp_seq ?_
    refine awp_block ?_
    refine awp_seq ?_
    refine awp_block ?_
    refine awp_seq ?_
    refine awp_block ?_
    refine awp_seq ?_
    refine awp_block ?_
    refine awp_seq ?_
    refine awp_block ?_
    refine awp_seq ?_
    refine awp_block ?_
    refine awp_seq ?_
    refine awp_seq ?_
    refine awp_seq ?_
    refine awp_region rfl ?_
    refine wpo_mv (a := (eI x0)) rfl rfl rfl (o_mv tk rfl (Wk.refl _)) ?_
    refine wpo_lt H eB rfl rfl rfl (o_ar tk rfl rfl rfl) fun v2 H1 => ?_
    refine wpo_mv (a := (eB v2)) rfl rfl rfl (o_as tk rfl (Wk.refl _)) ?_
    refine wpo_nil ?_
    refine awp_if H1 rfl (fun H3 => ?_) (fun H3 => ?_)
    · refine awp_exit ?_
      refine awp_seq ?_
      refine awp_seq ?_
      refine awp_region rfl ?_
      refine wpo_mv (a := (eI x0)) rfl rfl rfl (o_mv tk rfl (Wk.refl _)) ?_
      refine wpo_lt H3 eI rfl rfl rfl (o_shr tk (y := (35 : Int)) rfl rfl rfl) fun v5 H4 => ?_
      refine wpo_bd H4 eI rfl rfl rfl (fun v7 hv => OpP.of_call rfl rfl (.cons (.of_eq rfl) .nil) (ih hv)) fun v7 hv7 H6 => ?_
      refine wpo_lt H6 eI rfl rfl rfl (o_ar tk rfl rfl rfl) fun v9 H8 => ?_
      refine wpo_mv (a := (eI v9)) rfl rfl rfl (o_as tk rfl (Wk.refl _)) ?_
      refine wpo_nil ?_
      refine awp_ret ?_
      obtain rfl := Option.some.inj H8
      exact ⟨_, (eI v9), rfl, (.of_eq rfl), .of_eq ((enc_i64 td3 sz3).cut _ _ _), hH.noT⟩
    · refine awp_skip ?_
      refine awp_seq ?_
      refine awp_seq ?_
      refine awp_region rfl ?_
      refine wpo_mv (a := (eI x0)) rfl rfl rfl (o_mv tk rfl (Wk.refl _)) ?_
      refine wpo_lt H3 eB rfl rfl rfl (o_ar tk rfl rfl rfl) fun v11 H10 => ?_
      refine wpo_mv (a := (eB v11)) rfl rfl rfl (o_as tk rfl (Wk.refl _)) ?_
      refine wpo_nil ?_
      refine awp_if H10 rfl (fun H12 => ?_) (fun H12 => ?_)
      · refine awp_exit ?_
        refine awp_region rfl ?_
        refine wpo_mv (a := (eI (1 : Int))) rfl rfl rfl (o_mv tk rfl (Wk.refl _)) ?_
        refine wpo_lt H12 eI rfl rfl rfl (o_ar tk rfl rfl rfl) fun v14 H13 => ?_
        refine wpo_mv (a := (eI v14)) rfl rfl rfl (o_as tk rfl (Wk.refl _)) ?_
        refine wpo_nil ?_
        refine awp_region rfl ?_
        refine wpo_mv (a := (eI v14)) rfl rfl rfl (o_mv tk rfl (Wk.refl _)) ?_
        refine wpo_lt H13 eI rfl rfl rfl (o_ar tk rfl rfl rfl) fun v16 H15 => ?_
        refine wpo_mv (a := (eI v16)) rfl rfl rfl (o_as tk rfl (Wk.refl _)) ?_
        refine wpo_nil ?_
        refine awp_region rfl ?_
        refine wpo_mv (a := (eI v16)) rfl rfl rfl (o_mv tk rfl (Wk.refl _)) ?_
        refine wpo_lt H15 eI rfl rfl rfl (o_ar tk rfl rfl rfl) fun v18 H17 => ?_
        refine wpo_mv (a := (eI v18)) rfl rfl rfl (o_as tk rfl (Wk.refl _)) ?_
        refine wpo_nil ?_
        refine awp_seq ?_
        refine awp_region rfl ?_
        refine wpo_mv (a := (eI v18)) rfl rfl rfl (o_mv tk rfl (Wk.refl _)) ?_
        refine wpo_lt H17 eI rfl rfl rfl (o_ar tk rfl rfl rfl) fun v20 H19 => ?_
        refine wpo_mv (a := (eI v20)) rfl rfl rfl (o_as tk rfl (Wk.refl _)) ?_
        refine wpo_nil ?_
        refine awp_exit ?_
        refine awp_seq ?_
        refine awp_region rfl ?_
        refine wpo_mv (a := (eI v20)) rfl rfl rfl (o_mv tk rfl (Wk.refl _)) ?_
        refine wpo_mv (a := (eI v20)) rfl rfl rfl (o_as tk rfl (Wk.refl _)) ?_
        refine wpo_nil ?_
        refine awp_ret ?_
        obtain rfl := Option.some.inj H19
        exact ⟨_, (eI v20), rfl, (.of_eq rfl), .of_eq ((enc_i64 td3 sz3).cut _ _ _), hH.noT⟩
      · refine awp_skip ?_
        refine awp_seq ?_
        refine awp_seq ?_
        refine awp_region rfl ?_
        refine wpo_mv (a := (eI x0)) rfl rfl rfl (o_mv tk rfl (Wk.refl _)) ?_
        refine wpo_lt H12 eB rfl rfl rfl (o_ar tk rfl rfl rfl) fun v22 H21 => ?_
        refine wpo_mv (a := (eB v22)) rfl rfl rfl (o_as tk rfl (Wk.refl _)) ?_
        refine wpo_nil ?_
        refine awp_if H21 rfl (fun H23 => ?_) (fun H23 => ?_)
        · refine awp_exit ?_
          refine awp_region rfl ?_
          refine wpo_mv (a := (eI (1 : Int))) rfl rfl rfl (o_mv tk rfl (Wk.refl _)) ?_
          refine wpo_lt H23 eI rfl rfl rfl (o_ar tk rfl rfl rfl) fun v25 H24 => ?_
          refine wpo_mv (a := (eI v25)) rfl rfl rfl (o_as tk rfl (Wk.refl _)) ?_
          refine wpo_nil ?_
          refine awp_region rfl ?_
          refine wpo_mv (a := (eI v25)) rfl rfl rfl (o_mv tk rfl (Wk.refl _)) ?_
          refine wpo_lt H24 eI rfl rfl rfl (o_ar tk rfl rfl rfl) fun v27 H26 => ?_
          refine wpo_mv (a := (eI v27)) rfl rfl rfl (o_as tk rfl (Wk.refl _)) ?_
          refine wpo_nil ?_
          refine awp_seq ?_
          refine awp_region rfl ?_
          refine wpo_mv (a := (eI v27)) rfl rfl rfl (o_mv tk rfl (Wk.refl _)) ?_
          refine wpo_lt H26 eI rfl rfl rfl (o_ar tk rfl rfl rfl) fun v29 H28 => ?_
          refine wpo_mv (a := (eI v29)) rfl rfl rfl (o_as tk rfl (Wk.refl _)) ?_
          refine wpo_nil ?_
          refine awp_exit ?_
          refine awp_seq ?_
          refine awp_region rfl ?_
          refine wpo_mv (a := (eI v29)) rfl rfl rfl (o_mv tk rfl (Wk.refl _)) ?_
          refine wpo_mv (a := (eI v29)) rfl rfl rfl (o_as tk rfl (Wk.refl _)) ?_
          refine wpo_nil ?_
          refine awp_ret ?_
          obtain rfl := Option.some.inj H28
          exact ⟨_, (eI v29), rfl, (.of_eq rfl), .of_eq ((enc_i64 td3 sz3).cut _ _ _), hH.noT⟩
        · refine awp_skip ?_
          refine awp_seq ?_
          refine awp_seq ?_
          refine awp_region rfl ?_
          refine wpo_mv (a := (eI x0)) rfl rfl rfl (o_mv tk rfl (Wk.refl _)) ?_
          refine wpo_lt H23 eB rfl rfl rfl (o_ar tk rfl rfl rfl) fun v31 H30 => ?_
          refine wpo_mv (a := (eB v31)) rfl rfl rfl (o_as tk rfl (Wk.refl _)) ?_
          refine wpo_nil ?_
          refine awp_if H30 rfl (fun H32 => ?_) (fun H32 => ?_)
          · refine awp_exit ?_
            refine awp_region rfl ?_
            refine wpo_mv (a := (eI (1 : Int))) rfl rfl rfl (o_mv tk rfl (Wk.refl _)) ?_
            refine wpo_lt H32 eI rfl rfl rfl (o_ar tk rfl rfl rfl) fun v34 H33 => ?_
            refine wpo_mv (a := (eI v34)) rfl rfl rfl (o_as tk rfl (Wk.refl _)) ?_
            refine wpo_nil ?_
            refine awp_seq ?_
            refine awp_region rfl ?_
            refine wpo_mv (a := (eI v34)) rfl rfl rfl (o_mv tk rfl (Wk.refl _)) ?_
            refine wpo_lt H33 eI rfl rfl rfl (o_ar tk rfl rfl rfl) fun v36 H35 => ?_
            refine wpo_mv (a := (eI v36)) rfl rfl rfl (o_as tk rfl (Wk.refl _)) ?_
            refine wpo_nil ?_
            refine awp_exit ?_
            refine awp_seq ?_
            refine awp_region rfl ?_
            refine wpo_mv (a := (eI v36)) rfl rfl rfl (o_mv tk rfl (Wk.refl _)) ?_
            refine wpo_mv (a := (eI v36)) rfl rfl rfl (o_as tk rfl (Wk.refl _)) ?_
            refine wpo_nil ?_
            refine awp_ret ?_
            obtain rfl := Option.some.inj H35
            exact ⟨_, (eI v36), rfl, (.of_eq rfl), .of_eq ((enc_i64 td3 sz3).cut _ _ _), hH.noT⟩
          · refine awp_skip ?_
            refine awp_seq ?_
            refine awp_region rfl ?_
            refine wpo_mv (a := (eI x0)) rfl rfl rfl (o_mv tk rfl (Wk.refl _)) ?_
            refine wpo_lt H32 eB rfl rfl rfl (o_ar tk rfl rfl rfl) fun v38 H37 => ?_
            refine wpo_mv (a := (eB v38)) rfl rfl rfl (o_as tk rfl (Wk.refl _)) ?_
            refine wpo_nil ?_
            refine awp_if H37 rfl (fun H39 => ?_) (fun H39 => ?_)
            · refine awp_exit ?_
              refine awp_seq ?_
              refine awp_region rfl ?_
              refine wpo_mv (a := (eI (1 : Int))) rfl rfl rfl (o_mv tk rfl (Wk.refl _)) ?_
              refine wpo_lt H39 eI rfl rfl rfl (o_ar tk rfl rfl rfl) fun v41 H40 => ?_
              refine wpo_mv (a := (eI v41)) rfl rfl rfl (o_as tk rfl (Wk.refl _)) ?_
              refine wpo_nil ?_
              refine awp_exit ?_
              refine awp_seq ?_
              refine awp_region rfl ?_
              refine wpo_mv (a := (eI v41)) rfl rfl rfl (o_mv tk rfl (Wk.refl _)) ?_
              refine wpo_mv (a := (eI v41)) rfl rfl rfl (o_as tk rfl (Wk.refl _)) ?_
              refine wpo_nil ?_
              refine awp_ret ?_
              obtain rfl := Option.some.inj H40
              exact ⟨_, (eI v41), rfl, (.of_eq rfl), .of_eq ((enc_i64 td3 sz3).cut _ _ _), hH.noT⟩
            · refine awp_skip ?_
              refine awp_exit ?_
              refine awp_seq ?_
              refine awp_region rfl ?_
              refine wpo_mv (a := (eI (1 : Int))) rfl rfl rfl (o_mv tk rfl (Wk.refl _)) ?_
              refine wpo_mv (a := (eI (1 : Int))) rfl rfl rfl (o_as tk rfl (Wk.refl _)) ?_
              refine wpo_nil ?_
              refine awp_ret ?_
              obtain rfl := Option.some.inj H39
              exact ⟨_, (eI (1 : Int)), rfl, (.of_eq rfl), .of_eq ((enc_i64 td3 sz3).cut _ _ _), hH.noT⟩
theorem octets_Len_ok {x0 : Int} {r : Int} (H : octets_Len x0 = some r) (σ : St)  : ACall Tryd.prog 71 [(eI x0)] σ (fun a τ => a = eI r ∧ τ = σ) := octets_Len_n_ok _ H σ
end Go.Proofs.YtgfedohhkbmobaaDoor
namespace Go.Proofs.YtgfedohhkbmobaaDoor
open Go Go.Va
set_option linter.unusedVariables false
set_option linter.unusedSimpArgs false
set_option maxRecDepth 20000
theorem item_Size_ok {x0 : api_Entry} {r : Int} (H : item_Size x0 = some r) (σ : St)  : ACall Tryd.prog 44 [(e_api_Entry x0)] σ (fun a τ => a = eI r ∧ τ = σ) := by
  unfold item_Size at H
  refine ACall.pure (acall_start tk Tryd.func44 (by decide) rfl (Nat.le_of_ble_eq_true rfl) ?_)
  have hH := Holds.init σ
  refine awp_seq ?_
  refine awp_region rfl ?_
  refine wpo_mv (a := (.fptr (c_api_Entry x0) 0)) rfl rfl rfl (o_boxf tk rfl (.of_eq rfl) (b := (e_api_Entry x0)) (enc50.flat _)) ?_
  refine wpo_mv (a := (eI (0 : Int))) rfl rfl rfl (o_as tk rfl (Wk.refl _)) ?_
  refine wpo_nil ?_
  refine awp_seq ?_
  refine awp_drawS mixed [] rfl (by decide +kernel) rfl rfl ?_
  refine wpdS_mv (a := (.fptr (c_api_Entry x0) 0)) rfl rfl rfl (o_c tk false rfl (fun _ => rfl)) ?_
  refine wpdS_mv (a := (eS x0.Key)) rfl rfl rfl (o_ld tk rfl rfl) ?_
  refine wpdS_lt H eI rfl rfl rfl (o_len_s tk td9 rfl) fun v2 H1 => ?_
  refine wpdS_bd H1 eI rfl rfl rfl (fun v4 hv => OpP.of_call rfl rfl (.cons (.of_eq rfl) .nil) (octets_Len_ok hv)) fun v4 hv4 H3 => ?_
  refine wpdS_mv (a := (.fptr (c_api_Entry x0) 0)) rfl rfl rfl (o_c tk false rfl (fun _ => rfl)) ?_
  refine wpdS_mv (a := (eS x0.Key)) rfl rfl rfl (o_ld tk rfl rfl) ?_
  refine wpdS_lt H3 eI rfl rfl rfl (o_len_s tk td9 rfl) fun v6 H5 => ?_
  refine wpdS_lt H5 eI rfl rfl rfl (o_ar tk rfl rfl rfl) fun v8 H7 => ?_
  refine wpdS_mv (a := (.fptr (c_api_Entry x0) 4)) rfl rfl rfl (o_c tk false rfl (fun _ => rfl)) ?_
  refine wpdS_mv (a := ((eL 1 (@eU .u8 8)) x0.Value)) rfl rfl rfl (o_ld tk rfl rfl) ?_
  refine wpdS_lt H7 eI rfl rfl rfl (o_len tk td22 rfl) fun v10 H9 => ?_
  refine wpdS_bd H9 eI rfl rfl rfl (fun v12 hv => OpP.of_call rfl rfl (.cons (.of_eq rfl) .nil) (octets_Len_ok hv)) fun v12 hv12 H11 => ?_
  refine wpdS_lt H11 eI rfl rfl rfl (o_ar tk rfl rfl rfl) fun v14 H13 => ?_
  refine wpdS_mv (a := (.fptr (c_api_Entry x0) 4)) rfl rfl rfl (o_c tk false rfl (fun _ => rfl)) ?_
  refine wpdS_mv (a := ((eL 1 (@eU .u8 8)) x0.Value)) rfl rfl rfl (o_ld tk rfl rfl) ?_
  refine wpdS_lt H13 eI rfl rfl rfl (o_len tk td22 rfl) fun v16 H15 => ?_
  refine wpdS_lt H15 eI rfl rfl rfl (o_ar tk rfl rfl rfl) fun v18 H17 => ?_
  refine wpdS_mv (a := (eI v18)) rfl rfl rfl (o_as tk rfl (Wk.refl _)) ?_
  refine wpdS_nil ?_
  refine awp_seq ?_
  refine awp_drawS mixed [] rfl (by decide +kernel) rfl rfl ?_
  refine wpdS_mv (a := (eI v18)) rfl rfl rfl (o_mv tk rfl (Wk.refl _)) ?_
  refine wpdS_mv (a := (.fptr (c_api_Entry x0) 1)) rfl rfl rfl (o_c tk false rfl (fun _ => rfl)) ?_
  refine wpdS_mv (a := (eI x0.Version)) rfl rfl rfl (o_ld tk rfl rfl) ?_
  refine wpdS_bd H17 eI rfl rfl rfl (fun v20 hv => OpP.of_call rfl rfl (.cons (.of_eq rfl) .nil) (octets_Len_ok hv)) fun v20 hv20 H19 => ?_
  refine wpdS_lt H19 eI rfl rfl rfl (o_ar tk rfl rfl rfl) fun v22 H21 => ?_
  refine wpdS_mv (a := (.fptr (c_api_Entry x0) 2)) rfl rfl rfl (o_c tk false rfl (fun _ => rfl)) ?_
  refine wpdS_mv (a := (eI x0.AsOf)) rfl rfl rfl (o_ld tk rfl rfl) ?_
  refine wpdS_bd H21 eI rfl rfl rfl (fun v24 hv => OpP.of_call rfl rfl (.cons (.of_eq rfl) .nil) (octets_Len_ok hv)) fun v24 hv24 H23 => ?_
  refine wpdS_lt H23 eI rfl rfl rfl (o_ar tk rfl rfl rfl) fun v26 H25 => ?_
  refine wpdS_mv (a := (.fptr (c_api_Entry x0) 3)) rfl rfl rfl (o_c tk false rfl (fun _ => rfl)) ?_
  refine wpdS_mv (a := (eI x0.Ends)) rfl rfl rfl (o_ld tk rfl rfl) ?_
  refine wpdS_bd H25 eI rfl rfl rfl (fun v28 hv => OpP.of_call rfl rfl (.cons (.of_eq rfl) .nil) (octets_Len_ok hv)) fun v28 hv28 H27 => ?_
  refine wpdS_lt H27 eI rfl rfl rfl (o_ar tk rfl rfl rfl) fun v30 H29 => ?_
  refine wpdS_mv (a := (eI v30)) rfl rfl rfl (o_as tk rfl (Wk.refl _)) ?_
  refine wpdS_nil ?_
  refine awp_ret ?_
  obtain rfl := Option.some.inj H29
  exact ⟨_, (eI v30), rfl, (.of_eq rfl), .of_eq ((enc_i64 td3 sz3).cut _ _ _), hH.noT⟩
end Go.Proofs.YtgfedohhkbmobaaDoor
namespace Go.Proofs.YtgfedohhkbmobaaDoor
open Go Go.Va
set_option linter.unusedVariables false
set_option linter.unusedSimpArgs false
set_option maxRecDepth 20000
theorem butterylaw06_works_ok  {r : Bool} (H : butterylaw06_works = some r) (σ : St)  (hg : σ.gl = gls) : ACall Tryd.prog 26 [] σ (fun a τ => a = eB r ∧ τ = σ) := by
  unfold butterylaw06_works at H
  refine ACall.pure (acall_start tk Tryd.func26 (by decide) rfl (Nat.le_of_ble_eq_true rfl) ?_)
  have hH := Holds.init σ
  refine awp_seq ?_
  refine awp_region rfl ?_
  refine wpo_mv (a := (eB false)) rfl rfl rfl (o_as tk rfl (Wk.refl _)) ?_
  refine wpo_nil ?_
  refine awp_seq ?_
  refine awp_region rfl ?_
  refine wpo_mv (a := (eF 1 (@eU .u8 8) ([97#8, 98#8] : List (BitVec 8)))) rfl rfl rfl (o_c tk false rfl (fun _ => rfl)) ?_
  refine wpo_mv (a := (eF 1 (@eU .u8 8) ([97#8, 98#8] : List (BitVec 8)))) rfl rfl rfl (o_bconst tk td22 td5 rfl) ?_
  refine wpo_lt H e_api_Entry rfl rfl rfl (OpP.wk (wkf_up (t := 9) (a := ((eL 1 (@eU .u8 8)) ([97#8, 98#8] : List (BitVec 8)))) wk_no) (o_c tk false rfl (fun _ => rfl))) fun v2 H1 => ?_
  refine wpo_a (av := fun id => .ref id 0) rfl rfl rfl (h_alloc tk hH ty50 [(eS z_api_Entry.Key), (eI z_api_Entry.Version), (eI z_api_Entry.AsOf), (eI z_api_Entry.Ends), AV.nils] rfl) fun id3 τ ⟨hH, n4⟩ => ?_
  refine wpo_z rfl rfl (h_st tk hH 0 rfl ty50 (by simp) rfl rfl (.of_eq rfl) (b := (e_api_Entry v2)) (enc50.flat _) rfl (Nat.le_of_ble_eq_true rfl) (c_api_Entry (v2 : api_Entry)) rfl) fun τ hH => ?_
  refine wpo_nil ?_
  refine awp_seq ?_
  refine awp_region rfl ?_
  refine wpo_rd (a := (e_api_Entry (v2 : api_Entry))) rfl rfl rfl (h_ld tk hH 0 rfl rfl rfl) ?_
  refine wpo_cb H1 (fun x t => eT t 1 (@eU .u8 8) x) rfl rfl rfl (fun v7 hv => h_calla hH rfl rfl (.cons (wk_nils _) (.cons (.of_eq rfl) .nil)) (item_Put_app hv _)) fun v7 tk8 τ hv7 H6 hH => ?_
  refine wpo_mv (a := (eT tk8 1 (@eU .u8 8) v7)) rfl rfl rfl (o_as tk rfl (Wk.refl _)) ?_
  refine wpo_nil ?_
  refine awp_seq ?_
  refine awp_region rfl ?_
  refine wpo_mv (a := (eT tk8 1 (@eU .u8 8) v7)) rfl rfl rfl (o_mv tk rfl (Wk.refl _)) ?_
  refine wpo_mv (a := (eT tk8 1 (@eU .u8 8) v7)) rfl rfl rfl (o_mv tk rfl (Wk.refl _)) ?_
  obtain ⟨v10, hv11, H9⟩ := Option.bind_eq_some_iff.1 H6
  refine wpo_a (av := fun t => eT t 1 (@eU .u8 8) v10) rfl rfl rfl (h_app tk hH 0 hv11 rfl td22 ty5 rfl (by decide) rfl (src_l td22 rfl)) fun tk12 τ hH => ?_
  refine wpo_bdr H9 (fun r => .tup [(eL 5 e_api_Entry) r.1, eErr r.2]) rfl rfl rfl (fun v14 hv => h_callr rfl rfl (.cons wk_no .nil) (item_Read_ok hv _ (hH.gl.trans hg))) fun v14 hv14 H13 => ?_
  refine wpo_mv (a := (.tup [((eL 5 e_api_Entry) v14.1), (eErr v14.2)])) rfl rfl rfl (o_mv tk rfl (Wk.refl _)) ?_
  refine wpo_mv (a := ((eL 5 e_api_Entry) v14.1)) rfl rfl rfl (o_ext tk rfl rfl) ?_
  refine wpo_mv (a := (eErr v14.2)) rfl rfl rfl (o_ext tk rfl rfl) ?_
  refine wpo_mv (a := ((eL 5 e_api_Entry) v14.1)) rfl rfl rfl (o_as tk rfl (Wk.refl _)) ?_
  refine wpo_mv (a := (eErr v14.2)) rfl rfl rfl (o_as tk rfl (Wk.refl _)) ?_
  refine wpo_nil ?_
  refine awp_seq ?_
  refine awp_region rfl ?_
  refine wpo_mv (a := (eF 1 (@eU .u8 8) ([1#8, 107#8, 3#8, 2#8, 0#8, 0#8] : List (BitVec 8)))) rfl rfl rfl (o_c tk false rfl (fun _ => rfl)) ?_
  refine wpo_bdr H13 (fun r => .tup [(eL 5 e_api_Entry) r.1, eErr r.2]) rfl rfl rfl (fun v16 hv => h_callr rfl rfl (.cons wk_no .nil) (item_Read_ok hv _ (hH.gl.trans hg))) fun v16 hv16 H15 => ?_
  refine wpo_mv (a := (.tup [((eL 5 e_api_Entry) v16.1), (eErr v16.2)])) rfl rfl rfl (o_mv tk rfl (Wk.refl _)) ?_
  refine wpo_mv (a := ((eL 5 e_api_Entry) v16.1)) rfl rfl rfl (o_ext tk rfl rfl) ?_
  refine wpo_mv (a := (eErr v16.2)) rfl rfl rfl (o_ext tk rfl rfl) ?_
  refine wpo_mv (a := ((eL 5 e_api_Entry) v16.1)) rfl rfl rfl (o_as tk rfl (Wk.refl _)) ?_
  refine wpo_mv (a := (eErr v16.2)) rfl rfl rfl (o_as tk rfl (Wk.refl _)) ?_
  refine wpo_nil ?_
  refine awp_seq ?_
  refine awp_region rfl ?_
  refine wpo_rd (a := (e_api_Entry (v2 : api_Entry))) rfl rfl rfl (h_ld tk hH 0 rfl rfl rfl) ?_
  refine wpo_a (av := fun id => .ref id 0) rfl rfl rfl (h_alloc tk hH ty50 [(eS z_api_Entry.Key), (eI z_api_Entry.Version), (eI z_api_Entry.AsOf), (eI z_api_Entry.Ends), AV.nils] rfl) fun id17 τ ⟨hH, n18⟩ => ?_
  refine wpo_z rfl rfl (h_st tk hH 0 rfl ty50 (by simp) rfl rfl (.of_eq rfl) (b := (e_api_Entry (v2 : api_Entry))) (enc50.flat _) rfl (Nat.le_of_ble_eq_true rfl) (c_api_Entry ((v2 : api_Entry) : api_Entry)) rfl) fun τ hH => ?_
  refine wpo_nil ?_
  refine awp_seq ?_
  refine awp_region rfl ?_
  refine wpo_mv (a := (.ref id17 2)) rfl rfl rfl (o_c tk false rfl (fun _ => rfl)) ?_
  obtain ⟨c21, hc22, H20⟩ := lt_ex H15
  refine wpo_z rfl rfl (h_st tk hH 0 rfl ty3 (by simp) rfl rfl (.of_eq rfl) (b := (eI (2 : Int))) rfl rfl (Nat.le_of_ble_eq_true rfl) (c_api_Entry c21) (by rw [← hc22]; rfl)) fun τ hH => ?_
  refine wpo_nil ?_
  refine awp_seq ?_
  refine awp_drawS mixed [] rfl (by decide +kernel) rfl rfl ?_
  refine wpdS_mv (a := (eT tk8 1 (@eU .u8 8) v7)) rfl rfl rfl (o_mv tk rfl (Wk.refl _)) ?_
  refine wpdS_lt H20 eI rfl rfl rfl (o_len tk td22 rfl) fun v24 H23 => ?_
  refine wpdS_lt H23 eB rfl rfl rfl (o_ar tk rfl rfl rfl) fun v26 H25 => ?_
  refine wpdS_mv (a := (eB v26)) rfl rfl rfl (o_mv tk rfl (Wk.refl _)) ?_
  refine if_split H25 (fun hb H27 => ?_) (fun hb H27 => ?_)
  · subst hb
    refine wpdS_rd (a := (e_api_Entry (v2 : api_Entry))) rfl (by decide +kernel) rfl rfl (h_ld tk hH 1 rfl rfl rfl) ?_
    refine wpdS_bd H27 eI rfl rfl rfl (fun v29 hv => OpP.of_call rfl rfl (.cons (.of_eq rfl) .nil) (item_Size_ok hv)) fun v29 hv29 H28 => ?_
    refine wpdS_lt H28 eB rfl rfl rfl (o_ar tk rfl rfl rfl) fun v31 H30 => ?_
    refine wpdS_mv (a := (eB v31)) rfl rfl rfl (o_pick_t tk rfl rfl (Wk.refl _)) ?_
    refine wpdS_mv (a := (eB v31)) rfl rfl rfl (o_mv tk rfl (Wk.refl _)) ?_
    refine if_split H30 (fun hb H32 => ?_) (fun hb H32 => ?_)
    · subst hb
      refine wpdS_mv (a := (eErr v14.2)) rfl rfl rfl (o_mv tk rfl (Wk.refl _)) ?_
      refine wpdS_lt H32 eB rfl rfl rfl (o_err_eql tk rfl rfl rfl) fun v34 H33 => ?_
      refine wpdS_mv (a := (eB v34)) rfl rfl rfl (o_pick_t tk rfl rfl (Wk.refl _)) ?_
      refine wpdS_mv (a := (eB v34)) rfl rfl rfl (o_mv tk rfl (Wk.refl _)) ?_
      refine if_split H33 (fun hb H35 => ?_) (fun hb H35 => ?_)
      · subst hb
        refine wpdS_mv (a := ((eL 5 e_api_Entry) v14.1)) rfl rfl rfl (o_mv tk rfl (Wk.refl _)) ?_
        refine wpdS_lt H35 eI rfl rfl rfl (o_len tk td52 rfl) fun v37 H36 => ?_
        refine wpdS_lt H36 eB rfl rfl rfl (o_ar tk rfl rfl rfl) fun v39 H38 => ?_
        refine wpdS_mv (a := (eB v39)) rfl rfl rfl (o_pick_t tk rfl rfl (Wk.refl _)) ?_
        refine wpdS_mv (a := (eB v39)) rfl rfl rfl (o_mv tk rfl (Wk.refl _)) ?_
        refine if_split H38 (fun hb H40 => ?_) (fun hb H40 => ?_)
        · subst hb
          refine wpdS_mv (a := ((eL 5 e_api_Entry) v14.1)) rfl rfl rfl (o_mv tk rfl (Wk.refl _)) ?_
          refine wpdS_bd H40 (fun y => .fptr (e_api_Entry y).cells 0) rfl rfl rfl (fun v42 hv => o_ixa tk hv td52 enc50 rfl rfl) fun v42 hv42 H41 => ?_
          refine wpdS_mv (a := (e_api_Entry v42)) rfl rfl rfl (o_ld_e tk enc50 rfl rfl) ?_
          refine wpdS_rd (a := (e_api_Entry (v2 : api_Entry))) rfl (by decide +kernel) rfl rfl (h_ld tk hH 1 rfl rfl rfl) ?_
          refine wpdS_bd H41 eB rfl rfl rfl (fun v44 hv => OpP.of_call rfl rfl (.cons (.of_eq rfl) (.cons (.of_eq rfl) .nil)) (item_Same_ok hv)) fun v44 hv44 H43 => ?_
          refine wpdS_mv (a := (eB v44)) rfl rfl rfl (o_pick_t tk rfl rfl (Wk.refl _)) ?_
          refine wpdS_mv (a := (eB v44)) rfl rfl rfl (o_mv tk rfl (Wk.refl _)) ?_
          refine if_split H43 (fun hb H45 => ?_) (fun hb H45 => ?_)
          · subst hb
            refine wpdS_mv (a := (eErr v16.2)) rfl rfl rfl (o_mv tk rfl (Wk.refl _)) ?_
            refine wpdS_bdr H45 eI rfl (by decide +kernel) rfl rfl (fun v47 hv => h_callr rfl rfl (.cons (.of_eq rfl) .nil) (trouble_Of_ok hv _ (hH.gl.trans hg))) fun v47 hv47 H46 => ?_
            refine wpdS_lt H46 eB rfl rfl rfl (o_ar tk rfl rfl rfl) fun v49 H48 => ?_
            refine wpdS_mv (a := (eB v49)) rfl rfl rfl (o_pick_t tk rfl rfl (Wk.refl _)) ?_
            refine wpdS_mv (a := (eB v49)) rfl rfl rfl (o_mv tk rfl (Wk.refl _)) ?_
            refine if_split H48 (fun hb H50 => ?_) (fun hb H50 => ?_)
            · subst hb
              refine wpdS_rd (a := (e_api_Entry c21)) rfl (by decide +kernel) rfl rfl (h_ld tk hH 0 rfl rfl rfl) ?_
              refine wpdS_bd H50 eErr rfl rfl rfl (fun v52 hv => OpP.of_call rfl rfl (.cons (.of_eq rfl) .nil) (item_Check_ok hv)) fun v52 hv52 H51 => ?_
              refine wpdS_bdr H51 eI rfl (by decide +kernel) rfl rfl (fun v54 hv => h_callr rfl rfl (.cons (.of_eq rfl) .nil) (trouble_Of_ok hv _ (hH.gl.trans hg))) fun v54 hv54 H53 => ?_
              refine wpdS_lt H53 eB rfl rfl rfl (o_ar tk rfl rfl rfl) fun v56 H55 => ?_
              refine wpdS_mv (a := (eB v56)) rfl rfl rfl (o_pick_t tk rfl rfl (Wk.refl _)) ?_
              refine wpdS_mv (a := (eB v56)) rfl rfl rfl (o_mv tk rfl (Wk.refl _)) ?_
              refine if_split H55 (fun hb H57 => ?_) (fun hb H57 => ?_)
              · subst hb
                refine wpdS_rd (a := (e_api_Entry (v2 : api_Entry))) rfl (by decide +kernel) rfl rfl (h_ld tk hH 1 rfl rfl rfl) ?_
                refine wpdS_bd H57 eB rfl rfl rfl (fun v59 hv => OpP.of_call rfl rfl (.cons (.of_eq rfl) (.cons (.of_eq rfl) .nil)) (item_Live_ok hv)) fun v59 hv59 H58 => ?_
                refine wpdS_mv (a := (eB v59)) rfl rfl rfl (o_pick_t tk rfl rfl (Wk.refl _)) ?_
                refine wpdS_mv (a := (eB v59)) rfl rfl rfl (o_mv tk rfl (Wk.refl _)) ?_
                refine if_split H58 (fun hb H60 => ?_) (fun hb H60 => ?_)
                · subst hb
                  refine wpdS_rd (a := (e_api_Entry (v2 : api_Entry))) rfl (by decide +kernel) rfl rfl (h_ld tk hH 1 rfl rfl rfl) ?_
                  refine wpdS_bd H60 eB rfl rfl rfl (fun v62 hv => OpP.of_call rfl rfl (.cons (.of_eq rfl) (.cons (.of_eq rfl) .nil)) (item_Live_ok hv)) fun v62 hv62 H61 => ?_
                  refine wpdS_lt H61 eB rfl rfl rfl (o_un tk rfl rfl) fun v64 H63 => ?_
                  refine wpdS_mv (a := (eB v64)) rfl rfl rfl (o_pick_t tk rfl rfl (Wk.refl _)) ?_
                  refine wpdS_mv (a := (eB v64)) rfl rfl rfl (o_mv tk rfl (Wk.refl _)) ?_
                  refine if_split H63 (fun hb H65 => ?_) (fun hb H65 => ?_)
                  · subst hb
                    refine wpdS_rd (a := (e_api_Entry (v2 : api_Entry))) rfl (by decide +kernel) rfl rfl (h_ld tk hH 1 rfl rfl rfl) ?_
                    refine wpdS_bd H65 e_api_Entry rfl rfl rfl (fun v67 hv => OpP.of_call rfl rfl (.cons (.of_eq rfl) .nil) (item_Copy_ok hv)) fun v67 hv67 H66 => ?_
                    refine wpdS_rd (a := (e_api_Entry (v2 : api_Entry))) rfl (by decide +kernel) rfl rfl (h_ld tk hH 1 rfl rfl rfl) ?_
                    refine wpdS_bd H66 eB rfl rfl rfl (fun v69 hv => OpP.of_call rfl rfl (.cons (.of_eq rfl) (.cons (.of_eq rfl) .nil)) (item_Same_ok hv)) fun v69 hv69 H68 => ?_
                    refine wpdS_mv (a := (eB v69)) rfl rfl rfl (o_pick_t tk rfl rfl (Wk.refl _)) ?_
                    refine wpdS_mv (a := (eB v69)) rfl rfl rfl (o_as tk rfl (Wk.refl _)) ?_
                    refine wpdS_nil ?_
                    refine awp_ret ?_
                    obtain rfl := Option.some.inj H68
                    exact ⟨_, (eB v69), rfl, (.of_eq rfl), .of_eq ((enc_b td4 sz4).cut _ _ _), ((hH.noT.drop n18).drop n4)⟩
                  · subst hb
                    refine wpdS_skip rfl rfl rfl ?_
                    refine wpdS_skip rfl rfl rfl ?_
                    refine wpdS_skip rfl rfl rfl ?_
                    refine wpdS_skip rfl rfl rfl ?_
                    refine wpdS_mv (a := (eB false)) rfl rfl rfl (o_pick_f tk rfl rfl (Wk.refl _)) ?_
                    refine wpdS_mv (a := (eB false)) rfl rfl rfl (o_as tk rfl (Wk.refl _)) ?_
                    refine wpdS_nil ?_
                    refine awp_ret ?_
                    obtain rfl := Option.some.inj H65
                    exact ⟨_, (eB false), rfl, (.of_eq rfl), .of_eq ((enc_b td4 sz4).cut _ _ _), ((hH.noT.drop n18).drop n4)⟩
                · subst hb
                  refine wpdS_skip rfl rfl rfl ?_
                  refine wpdS_skip rfl rfl rfl ?_
                  refine wpdS_skip rfl rfl rfl ?_
                  refine wpdS_mv (a := (eB false)) rfl rfl rfl (o_pick_f tk rfl rfl (Wk.refl _)) ?_
                  refine wpdS_mv (a := (eB false)) rfl rfl rfl (o_mv tk rfl (Wk.refl _)) ?_
                  refine wpdS_skip rfl rfl rfl ?_
                  refine wpdS_skip rfl rfl rfl ?_
                  refine wpdS_skip rfl rfl rfl ?_
                  refine wpdS_skip rfl rfl rfl ?_
                  refine wpdS_mv (a := (eB false)) rfl rfl rfl (o_pick_f tk rfl rfl (Wk.refl _)) ?_
                  refine wpdS_mv (a := (eB false)) rfl rfl rfl (o_as tk rfl (Wk.refl _)) ?_
                  refine wpdS_nil ?_
                  refine awp_ret ?_
                  obtain rfl := Option.some.inj H60
                  exact ⟨_, (eB false), rfl, (.of_eq rfl), .of_eq ((enc_b td4 sz4).cut _ _ _), ((hH.noT.drop n18).drop n4)⟩
              · subst hb
                refine wpdS_skip rfl rfl rfl ?_
                refine wpdS_skip rfl rfl rfl ?_
                refine wpdS_mv (a := (eB false)) rfl rfl rfl (o_pick_f tk rfl rfl (Wk.refl _)) ?_
                refine wpdS_mv (a := (eB false)) rfl rfl rfl (o_mv tk rfl (Wk.refl _)) ?_
                refine wpdS_skip rfl rfl rfl ?_
                refine wpdS_skip rfl rfl rfl ?_
                refine wpdS_skip rfl rfl rfl ?_
                refine wpdS_mv (a := (eB false)) rfl rfl rfl (o_pick_f tk rfl rfl (Wk.refl _)) ?_
                refine wpdS_mv (a := (eB false)) rfl rfl rfl (o_mv tk rfl (Wk.refl _)) ?_
                refine wpdS_skip rfl rfl rfl ?_
                refine wpdS_skip rfl rfl rfl ?_
                refine wpdS_skip rfl rfl rfl ?_
                refine wpdS_skip rfl rfl rfl ?_
                refine wpdS_mv (a := (eB false)) rfl rfl rfl (o_pick_f tk rfl rfl (Wk.refl _)) ?_
                refine wpdS_mv (a := (eB false)) rfl rfl rfl (o_as tk rfl (Wk.refl _)) ?_
                refine wpdS_nil ?_
                refine awp_ret ?_
                obtain rfl := Option.some.inj H57
                exact ⟨_, (eB false), rfl, (.of_eq rfl), .of_eq ((enc_b td4 sz4).cut _ _ _), ((hH.noT.drop n18).drop n4)⟩
            · subst hb
              refine wpdS_skip rfl rfl rfl ?_
              refine wpdS_skip rfl rfl rfl ?_
              refine wpdS_skip rfl rfl rfl ?_
              refine wpdS_skip rfl rfl rfl ?_
              refine wpdS_mv (a := (eB false)) rfl rfl rfl (o_pick_f tk rfl rfl (Wk.refl _)) ?_
              refine wpdS_mv (a := (eB false)) rfl rfl rfl (o_mv tk rfl (Wk.refl _)) ?_
              refine wpdS_skip rfl rfl rfl ?_
              refine wpdS_skip rfl rfl rfl ?_
              refine wpdS_mv (a := (eB false)) rfl rfl rfl (o_pick_f tk rfl rfl (Wk.refl _)) ?_
              refine wpdS_mv (a := (eB false)) rfl rfl rfl (o_mv tk rfl (Wk.refl _)) ?_
              refine wpdS_skip rfl rfl rfl ?_
              refine wpdS_skip rfl rfl rfl ?_
              refine wpdS_skip rfl rfl rfl ?_
              refine wpdS_mv (a := (eB false)) rfl rfl rfl (o_pick_f tk rfl rfl (Wk.refl _)) ?_
              refine wpdS_mv (a := (eB false)) rfl rfl rfl (o_mv tk rfl (Wk.refl _)) ?_
              refine wpdS_skip rfl rfl rfl ?_
              refine wpdS_skip rfl rfl rfl ?_
              refine wpdS_skip rfl rfl rfl ?_
              refine wpdS_skip rfl rfl rfl ?_
              refine wpdS_mv (a := (eB false)) rfl rfl rfl (o_pick_f tk rfl rfl (Wk.refl _)) ?_
              refine wpdS_mv (a := (eB false)) rfl rfl rfl (o_as tk rfl (Wk.refl _)) ?_
              refine wpdS_nil ?_
              refine awp_ret ?_
              obtain rfl := Option.some.inj H50
              exact ⟨_, (eB false), rfl, (.of_eq rfl), .of_eq ((enc_b td4 sz4).cut _ _ _), ((hH.noT.drop n18).drop n4)⟩
          · subst hb
            refine wpdS_skip rfl rfl rfl ?_
            refine wpdS_skip rfl rfl rfl ?_
            refine wpdS_skip rfl rfl rfl ?_
            refine wpdS_mv (a := (eB false)) rfl rfl rfl (o_pick_f tk rfl rfl (Wk.refl _)) ?_
            refine wpdS_mv (a := (eB false)) rfl rfl rfl (o_mv tk rfl (Wk.refl _)) ?_
            refine wpdS_skip rfl rfl rfl ?_
            refine wpdS_skip rfl rfl rfl ?_
            refine wpdS_skip rfl rfl rfl ?_
            refine wpdS_skip rfl rfl rfl ?_
            refine wpdS_mv (a := (eB false)) rfl rfl rfl (o_pick_f tk rfl rfl (Wk.refl _)) ?_
            refine wpdS_mv (a := (eB false)) rfl rfl rfl (o_mv tk rfl (Wk.refl _)) ?_
            refine wpdS_skip rfl rfl rfl ?_
            refine wpdS_skip rfl rfl rfl ?_
            refine wpdS_mv (a := (eB false)) rfl rfl rfl (o_pick_f tk rfl rfl (Wk.refl _)) ?_
            refine wpdS_mv (a := (eB false)) rfl rfl rfl (o_mv tk rfl (Wk.refl _)) ?_
            refine wpdS_skip rfl rfl rfl ?_
            refine wpdS_skip rfl rfl rfl ?_
            refine wpdS_skip rfl rfl rfl ?_
            refine wpdS_mv (a := (eB false)) rfl rfl rfl (o_pick_f tk rfl rfl (Wk.refl _)) ?_
            refine wpdS_mv (a := (eB false)) rfl rfl rfl (o_mv tk rfl (Wk.refl _)) ?_
            refine wpdS_skip rfl rfl rfl ?_
            refine wpdS_skip rfl rfl rfl ?_
            refine wpdS_skip rfl rfl rfl ?_
            refine wpdS_skip rfl rfl rfl ?_
            refine wpdS_mv (a := (eB false)) rfl rfl rfl (o_pick_f tk rfl rfl (Wk.refl _)) ?_
            refine wpdS_mv (a := (eB false)) rfl rfl rfl (o_as tk rfl (Wk.refl _)) ?_
            refine wpdS_nil ?_
            refine awp_ret ?_
            obtain rfl := Option.some.inj H45
            exact ⟨_, (eB false), rfl, (.of_eq rfl), .of_eq ((enc_b td4 sz4).cut _ _ _), ((hH.noT.drop n18).drop n4)⟩
        · subst hb
          refine wpdS_skip rfl rfl rfl ?_
          refine wpdS_skip rfl rfl rfl ?_
          refine wpdS_skip rfl rfl rfl ?_
          refine wpdS_skip rfl rfl rfl ?_
          refine wpdS_skip rfl rfl rfl ?_
          refine wpdS_mv (a := (eB false)) rfl rfl rfl (o_pick_f tk rfl rfl (Wk.refl _)) ?_
          refine wpdS_mv (a := (eB false)) rfl rfl rfl (o_mv tk rfl (Wk.refl _)) ?_
          refine wpdS_skip rfl rfl rfl ?_
          refine wpdS_skip rfl rfl rfl ?_
          refine wpdS_skip rfl rfl rfl ?_
          refine wpdS_mv (a := (eB false)) rfl rfl rfl (o_pick_f tk rfl rfl (Wk.refl _)) ?_
          refine wpdS_mv (a := (eB false)) rfl rfl rfl (o_mv tk rfl (Wk.refl _)) ?_
          refine wpdS_skip rfl rfl rfl ?_
          refine wpdS_skip rfl rfl rfl ?_
          refine wpdS_skip rfl rfl rfl ?_
          refine wpdS_skip rfl rfl rfl ?_
          refine wpdS_mv (a := (eB false)) rfl rfl rfl (o_pick_f tk rfl rfl (Wk.refl _)) ?_
          refine wpdS_mv (a := (eB false)) rfl rfl rfl (o_mv tk rfl (Wk.refl _)) ?_
          refine wpdS_skip rfl rfl rfl ?_
          refine wpdS_skip rfl rfl rfl ?_
          refine wpdS_mv (a := (eB false)) rfl rfl rfl (o_pick_f tk rfl rfl (Wk.refl _)) ?_
          refine wpdS_mv (a := (eB false)) rfl rfl rfl (o_mv tk rfl (Wk.refl _)) ?_
          refine wpdS_skip rfl rfl rfl ?_
          refine wpdS_skip rfl rfl rfl ?_
          refine wpdS_skip rfl rfl rfl ?_
          refine wpdS_mv (a := (eB false)) rfl rfl rfl (o_pick_f tk rfl rfl (Wk.refl _)) ?_
          refine wpdS_mv (a := (eB false)) rfl rfl rfl (o_mv tk rfl (Wk.refl _)) ?_
          refine wpdS_skip rfl rfl rfl ?_
          refine wpdS_skip rfl rfl rfl ?_
          refine wpdS_skip rfl rfl rfl ?_
          refine wpdS_skip rfl rfl rfl ?_
          refine wpdS_mv (a := (eB false)) rfl rfl rfl (o_pick_f tk rfl rfl (Wk.refl _)) ?_
          refine wpdS_mv (a := (eB false)) rfl rfl rfl (o_as tk rfl (Wk.refl _)) ?_
          refine wpdS_nil ?_
          refine awp_ret ?_
          obtain rfl := Option.some.inj H40
          exact ⟨_, (eB false), rfl, (.of_eq rfl), .of_eq ((enc_b td4 sz4).cut _ _ _), ((hH.noT.drop n18).drop n4)⟩
      · subst hb
        refine wpdS_skip rfl rfl rfl ?_
        refine wpdS_skip rfl rfl rfl ?_
        refine wpdS_skip rfl rfl rfl ?_
        refine wpdS_mv (a := (eB false)) rfl rfl rfl (o_pick_f tk rfl rfl (Wk.refl _)) ?_
        refine wpdS_mv (a := (eB false)) rfl rfl rfl (o_mv tk rfl (Wk.refl _)) ?_
        refine wpdS_skip rfl rfl rfl ?_
        refine wpdS_skip rfl rfl rfl ?_
        refine wpdS_skip rfl rfl rfl ?_
        refine wpdS_skip rfl rfl rfl ?_
        refine wpdS_skip rfl rfl rfl ?_
        refine wpdS_mv (a := (eB false)) rfl rfl rfl (o_pick_f tk rfl rfl (Wk.refl _)) ?_
        refine wpdS_mv (a := (eB false)) rfl rfl rfl (o_mv tk rfl (Wk.refl _)) ?_
        refine wpdS_skip rfl rfl rfl ?_
        refine wpdS_skip rfl rfl rfl ?_
        refine wpdS_skip rfl rfl rfl ?_
        refine wpdS_mv (a := (eB false)) rfl rfl rfl (o_pick_f tk rfl rfl (Wk.refl _)) ?_
        refine wpdS_mv (a := (eB false)) rfl rfl rfl (o_mv tk rfl (Wk.refl _)) ?_
        refine wpdS_skip rfl rfl rfl ?_
        refine wpdS_skip rfl rfl rfl ?_
        refine wpdS_skip rfl rfl rfl ?_
        refine wpdS_skip rfl rfl rfl ?_
        refine wpdS_mv (a := (eB false)) rfl rfl rfl (o_pick_f tk rfl rfl (Wk.refl _)) ?_
        refine wpdS_mv (a := (eB false)) rfl rfl rfl (o_mv tk rfl (Wk.refl _)) ?_
        refine wpdS_skip rfl rfl rfl ?_
        refine wpdS_skip rfl rfl rfl ?_
        refine wpdS_mv (a := (eB false)) rfl rfl rfl (o_pick_f tk rfl rfl (Wk.refl _)) ?_
        refine wpdS_mv (a := (eB false)) rfl rfl rfl (o_mv tk rfl (Wk.refl _)) ?_
        refine wpdS_skip rfl rfl rfl ?_
        refine wpdS_skip rfl rfl rfl ?_
        refine wpdS_skip rfl rfl rfl ?_
        refine wpdS_mv (a := (eB false)) rfl rfl rfl (o_pick_f tk rfl rfl (Wk.refl _)) ?_
        refine wpdS_mv (a := (eB false)) rfl rfl rfl (o_mv tk rfl (Wk.refl _)) ?_
        refine wpdS_skip rfl rfl rfl ?_
        refine wpdS_skip rfl rfl rfl ?_
        refine wpdS_skip rfl rfl rfl ?_
        refine wpdS_skip rfl rfl rfl ?_
        refine wpdS_mv (a := (eB false)) rfl rfl rfl (o_pick_f tk rfl rfl (Wk.refl _)) ?_
        refine wpdS_mv (a := (eB false)) rfl rfl rfl (o_as tk rfl (Wk.refl _)) ?_
        refine wpdS_nil ?_
        refine awp_ret ?_
        obtain rfl := Option.some.inj H35
        exact ⟨_, (eB false), rfl, (.of_eq rfl), .of_eq ((enc_b td4 sz4).cut _ _ _), ((hH.noT.drop n18).drop n4)⟩
    · subst hb
      refine wpdS_skip rfl rfl rfl ?_
      refine wpdS_skip rfl rfl rfl ?_
      refine wpdS_mv (a := (eB false)) rfl rfl rfl (o_pick_f tk rfl rfl (Wk.refl _)) ?_
      refine wpdS_mv (a := (eB false)) rfl rfl rfl (o_mv tk rfl (Wk.refl _)) ?_
      refine wpdS_skip rfl rfl rfl ?_
      refine wpdS_skip rfl rfl rfl ?_
      refine wpdS_skip rfl rfl rfl ?_
      refine wpdS_mv (a := (eB false)) rfl rfl rfl (o_pick_f tk rfl rfl (Wk.refl _)) ?_
      refine wpdS_mv (a := (eB false)) rfl rfl rfl (o_mv tk rfl (Wk.refl _)) ?_
      refine wpdS_skip rfl rfl rfl ?_
      refine wpdS_skip rfl rfl rfl ?_
      refine wpdS_skip rfl rfl rfl ?_
      refine wpdS_skip rfl rfl rfl ?_
      refine wpdS_skip rfl rfl rfl ?_
      refine wpdS_mv (a := (eB false)) rfl rfl rfl (o_pick_f tk rfl rfl (Wk.refl _)) ?_
      refine wpdS_mv (a := (eB false)) rfl rfl rfl (o_mv tk rfl (Wk.refl _)) ?_
      refine wpdS_skip rfl rfl rfl ?_
      refine wpdS_skip rfl rfl rfl ?_
      refine wpdS_skip rfl rfl rfl ?_
      refine wpdS_mv (a := (eB false)) rfl rfl rfl (o_pick_f tk rfl rfl (Wk.refl _)) ?_
      refine wpdS_mv (a := (eB false)) rfl rfl rfl (o_mv tk rfl (Wk.refl _)) ?_
      refine wpdS_skip rfl rfl rfl ?_
      refine wpdS_skip rfl rfl rfl ?_
      refine wpdS_skip rfl rfl rfl ?_
      refine wpdS_skip rfl rfl rfl ?_
      refine wpdS_mv (a := (eB false)) rfl rfl rfl (o_pick_f tk rfl rfl (Wk.refl _)) ?_
      refine wpdS_mv (a := (eB false)) rfl rfl rfl (o_mv tk rfl (Wk.refl _)) ?_
      refine wpdS_skip rfl rfl rfl ?_
      refine wpdS_skip rfl rfl rfl ?_
      refine wpdS_mv (a := (eB false)) rfl rfl rfl (o_pick_f tk rfl rfl (Wk.refl _)) ?_
      refine wpdS_mv (a := (eB false)) rfl rfl rfl (o_mv tk rfl (Wk.refl _)) ?_
      refine wpdS_skip rfl rfl rfl ?_
      refine wpdS_skip rfl rfl rfl ?_
      refine wpdS_skip rfl rfl rfl ?_
      refine wpdS_mv (a := (eB false)) rfl rfl rfl (o_pick_f tk rfl rfl (Wk.refl _)) ?_
      refine wpdS_mv (a := (eB false)) rfl rfl rfl (o_mv tk rfl (Wk.refl _)) ?_
      refine wpdS_skip rfl rfl rfl ?_
      refine wpdS_skip rfl rfl rfl ?_
      refine wpdS_skip rfl rfl rfl ?_
      refine wpdS_skip rfl rfl rfl ?_
      refine wpdS_mv (a := (eB false)) rfl rfl rfl (o_pick_f tk rfl rfl (Wk.refl _)) ?_
      refine wpdS_mv (a := (eB false)) rfl rfl rfl (o_as tk rfl (Wk.refl _)) ?_
      refine wpdS_nil ?_
      refine awp_ret ?_
      obtain rfl := Option.some.inj H32
      exact ⟨_, (eB false), rfl, (.of_eq rfl), .of_eq ((enc_b td4 sz4).cut _ _ _), ((hH.noT.drop n18).drop n4)⟩
  · subst hb
    refine wpdS_skip rfl rfl rfl ?_
    refine wpdS_skip rfl rfl rfl ?_
    refine wpdS_skip rfl rfl rfl ?_
    refine wpdS_mv (a := (eB false)) rfl rfl rfl (o_pick_f tk rfl rfl (Wk.refl _)) ?_
    refine wpdS_mv (a := (eB false)) rfl rfl rfl (o_mv tk rfl (Wk.refl _)) ?_
    refine wpdS_skip rfl rfl rfl ?_
    refine wpdS_skip rfl rfl rfl ?_
    refine wpdS_mv (a := (eB false)) rfl rfl rfl (o_pick_f tk rfl rfl (Wk.refl _)) ?_
    refine wpdS_mv (a := (eB false)) rfl rfl rfl (o_mv tk rfl (Wk.refl _)) ?_
    refine wpdS_skip rfl rfl rfl ?_
    refine wpdS_skip rfl rfl rfl ?_
    refine wpdS_skip rfl rfl rfl ?_
    refine wpdS_mv (a := (eB false)) rfl rfl rfl (o_pick_f tk rfl rfl (Wk.refl _)) ?_
    refine wpdS_mv (a := (eB false)) rfl rfl rfl (o_mv tk rfl (Wk.refl _)) ?_
    refine wpdS_skip rfl rfl rfl ?_
    refine wpdS_skip rfl rfl rfl ?_
    refine wpdS_skip rfl rfl rfl ?_
    refine wpdS_skip rfl rfl rfl ?_
    refine wpdS_skip rfl rfl rfl ?_
    refine wpdS_mv (a := (eB false)) rfl rfl rfl (o_pick_f tk rfl rfl (Wk.refl _)) ?_
    refine wpdS_mv (a := (eB false)) rfl rfl rfl (o_mv tk rfl (Wk.refl _)) ?_
    refine wpdS_skip rfl rfl rfl ?_
    refine wpdS_skip rfl rfl rfl ?_
    refine wpdS_skip rfl rfl rfl ?_
    refine wpdS_mv (a := (eB false)) rfl rfl rfl (o_pick_f tk rfl rfl (Wk.refl _)) ?_
    refine wpdS_mv (a := (eB false)) rfl rfl rfl (o_mv tk rfl (Wk.refl _)) ?_
    refine wpdS_skip rfl rfl rfl ?_
    refine wpdS_skip rfl rfl rfl ?_
    refine wpdS_skip rfl rfl rfl ?_
    refine wpdS_skip rfl rfl rfl ?_
    refine wpdS_mv (a := (eB false)) rfl rfl rfl (o_pick_f tk rfl rfl (Wk.refl _)) ?_
    refine wpdS_mv (a := (eB false)) rfl rfl rfl (o_mv tk rfl (Wk.refl _)) ?_
    refine wpdS_skip rfl rfl rfl ?_
    refine wpdS_skip rfl rfl rfl ?_
    refine wpdS_mv (a := (eB false)) rfl rfl rfl (o_pick_f tk rfl rfl (Wk.refl _)) ?_
    refine wpdS_mv (a := (eB false)) rfl rfl rfl (o_mv tk rfl (Wk.refl _)) ?_
    refine wpdS_skip rfl rfl rfl ?_
    refine wpdS_skip rfl rfl rfl ?_
    refine wpdS_skip rfl rfl rfl ?_
    refine wpdS_mv (a := (eB false)) rfl rfl rfl (o_pick_f tk rfl rfl (Wk.refl _)) ?_
    refine wpdS_mv (a := (eB false)) rfl rfl rfl (o_mv tk rfl (Wk.refl _)) ?_
    refine wpdS_skip rfl rfl rfl ?_
    refine wpdS_skip rfl rfl rfl ?_
    refine wpdS_skip rfl rfl rfl ?_
    refine wpdS_skip rfl rfl rfl ?_
    refine wpdS_mv (a := (eB false)) rfl rfl rfl (o_pick_f tk rfl rfl (Wk.refl _)) ?_
    refine wpdS_mv (a := (eB false)) rfl rfl rfl (o_as tk rfl (Wk.refl _)) ?_
    refine wpdS_nil ?_
    refine awp_ret ?_
    obtain rfl := Option.some.inj H27
    exact ⟨_, (eB false), rfl, (.of_eq rfl), .of_eq ((enc_b td4 sz4).cut _ _ _), ((hH.noT.drop n18).drop n4)⟩
end Go.Proofs.YtgfedohhkbmobaaDoor
namespace Go.Proofs.YtgfedohhkbmobaaDoor
open Go Go.Va
set_option linter.unusedVariables false
set_option linter.unusedSimpArgs false
set_option maxRecDepth 20000
theorem butteryref02_Key_ok {x0 : List (BitVec 8)} {r : Int} (H : butteryref02_Key x0 = some r) (σ : St)  : ACall Tryd.prog 63 [(eS x0)] σ (fun a τ => a = eI r ∧ τ = σ) := by
  unfold butteryref02_Key at H
  refine ACall.pure (acall_start tk Tryd.func63 (by decide) rfl (Nat.le_of_ble_eq_true rfl) ?_)
  have hH := Holds.init σ
  refine awp_seq ?_
  refine awp_region rfl ?_
  refine wpo_mv (a := (eI (0 : Int))) rfl rfl rfl (o_as tk rfl (Wk.refl _)) ?_
  refine wpo_nil ?_
  refine awp_seq ?_
  refine awp_seq ?_
  refine awp_region rfl ?_
  refine wpo_mv (a := (eS x0)) rfl rfl rfl (o_mv tk rfl (Wk.refl _)) ?_
  refine wpo_lt H eB rfl rfl rfl (o_eql_s tk rfl rfl) fun v2 H1 => ?_
  refine wpo_nil ?_
  refine awp_if H1 rfl (fun H3 => ?_) (fun H3 => ?_)
  · refine awp_seq ?_
    refine awp_region rfl ?_
    refine wpo_mv (a := (eI (1 : Int))) rfl rfl rfl (o_as tk rfl (Wk.refl _)) ?_
    refine wpo_nil ?_
    refine awp_ret ?_
    obtain rfl := Option.some.inj H3
    exact ⟨_, (eI (1 : Int)), rfl, (.of_eq rfl), .of_eq ((enc_i64 td30 sz30).cut _ _ _), hH.noT⟩
  · refine awp_skip ?_
    refine awp_seq ?_
    refine awp_seq ?_
    refine awp_region rfl ?_
    refine wpo_mv (a := (eS x0)) rfl rfl rfl (o_mv tk rfl (Wk.refl _)) ?_
    refine wpo_lt H3 eI rfl rfl rfl (o_len_s tk td9 rfl) fun v5 H4 => ?_
    refine wpo_lt H4 eB rfl rfl rfl (o_ar tk rfl rfl rfl) fun v7 H6 => ?_
    refine wpo_nil ?_
    refine awp_if H6 rfl (fun H8 => ?_) (fun H8 => ?_)
    · refine awp_seq ?_
      refine awp_region rfl ?_
      refine wpo_mv (a := (eI (3 : Int))) rfl rfl rfl (o_as tk rfl (Wk.refl _)) ?_
      refine wpo_nil ?_
      refine awp_ret ?_
      obtain rfl := Option.some.inj H8
      exact ⟨_, (eI (3 : Int)), rfl, (.of_eq rfl), .of_eq ((enc_i64 td30 sz30).cut _ _ _), hH.noT⟩
    · refine awp_skip ?_
      refine awp_seq ?_
      refine awp_region rfl ?_
      refine wpo_mv (a := (eI (0 : Int))) rfl rfl rfl (o_as tk rfl (Wk.refl _)) ?_
      refine wpo_nil ?_
      refine awp_ret ?_
      obtain rfl := Option.some.inj H8
      exact ⟨_, (eI (0 : Int)), rfl, (.of_eq rfl), .of_eq ((enc_i64 td30 sz30).cut _ _ _), hH.noT⟩
end Go.Proofs.YtgfedohhkbmobaaDoor
namespace Go.Proofs.YtgfedohhkbmobaaDoor
open Go Go.Va
set_option linter.unusedVariables false
set_option linter.unusedSimpArgs false
set_option maxRecDepth 20000
theorem butteryref06_Check_ok {x0 : api_Entry} {r : Int} (H : butteryref06_Check x0 = some r) (σ : St)  : ACall Tryd.prog 28 [(e_api_Entry x0)] σ (fun a τ => a = eI r ∧ τ = σ) := by
  unfold butteryref06_Check at H
  refine ACall.pure (acall_start tk Tryd.func28 (by decide) rfl (Nat.le_of_ble_eq_true rfl) ?_)
  have hH := Holds.init σ
  refine awp_seq ?_
  refine awp_region rfl ?_
  refine wpo_mv (a := (.fptr (c_api_Entry x0) 0)) rfl rfl rfl (o_boxf tk rfl (.of_eq rfl) (b := (e_api_Entry x0)) (enc50.flat _)) ?_
  refine wpo_mv (a := (eI (0 : Int))) rfl rfl rfl (o_as tk rfl (Wk.refl _)) ?_
  refine wpo_nil ?_
  refine awp_seq ?_
  refine awp_seq ?_
  refine awp_region rfl ?_
  refine wpo_mv (a := (.fptr (c_api_Entry x0) 0)) rfl rfl rfl (o_c tk false rfl (fun _ => rfl)) ?_
  refine wpo_mv (a := (eS x0.Key)) rfl rfl rfl (o_ld tk rfl rfl) ?_
  refine wpo_bd H eI rfl rfl rfl (fun v2 hv => OpP.of_call rfl rfl (.cons (.of_eq rfl) .nil) (butteryref02_Key_ok hv)) fun v2 hv2 H1 => ?_
  refine wpo_mv (a := (eI v2)) rfl rfl rfl (o_as tk rfl (Wk.refl _)) ?_
  refine wpo_nil ?_
  refine awp_seq ?_
  refine awp_region rfl ?_
  refine wpo_mv (a := (eI v2)) rfl rfl rfl (o_mv tk rfl (Wk.refl _)) ?_
  refine wpo_lt H1 eB rfl rfl rfl (o_ar tk rfl rfl rfl) fun v4 H3 => ?_
  refine wpo_nil ?_
  refine awp_if H3 rfl (fun H5 => ?_) (fun H5 => ?_)
  · refine awp_seq ?_
    refine awp_region rfl ?_
    refine wpo_mv (a := (eI v2)) rfl rfl rfl (o_mv tk rfl (Wk.refl _)) ?_
    refine wpo_mv (a := (eI v2)) rfl rfl rfl (o_as tk rfl (Wk.refl _)) ?_
    refine wpo_nil ?_
    refine awp_ret ?_
    obtain rfl := Option.some.inj H5
    exact ⟨_, (eI v2), rfl, (.of_eq rfl), .of_eq ((enc_i64 td30 sz30).cut _ _ _), hH.noT⟩
  · refine awp_skip ?_
    refine awp_seq ?_
    refine awp_seq ?_
    obtain ⟨s6, hs8, hj9⟩ := Option.bind_eq_some_iff.1 H5
    refine awp_cutn (fun fr τ => WkF fr (fm [(1, (.fptr (c_api_Entry x0) 0)), (39, (eB s6))]) ∧ Holds σ [] [] τ) ?_ ?_
    · rintro fr τ ⟨hfr, hH⟩
      have H27 := hj9
      refine AWP.fm [(1, (.fptr (c_api_Entry x0) 0)), (39, (eB s6))] hfr ?_
      refine awp_if H27 rfl (fun H28 => ?_) (fun H28 => ?_)
      · refine awp_seq ?_
        refine awp_region rfl ?_
        refine wpo_mv (a := (eI (2 : Int))) rfl rfl rfl (o_as tk rfl (Wk.refl _)) ?_
        refine wpo_nil ?_
        refine awp_ret ?_
        obtain rfl := Option.some.inj H28
        exact ⟨_, (eI (2 : Int)), rfl, (.of_eq rfl), .of_eq ((enc_i64 td30 sz30).cut _ _ _), hH.noT⟩
      · refine awp_skip ?_
        refine awp_seq ?_
        refine awp_seq ?_
        refine awp_region rfl ?_
        refine wpo_mv (a := (.fptr (c_api_Entry x0) 4)) rfl rfl rfl (o_c tk false rfl (fun _ => rfl)) ?_
        refine wpo_mv (a := ((eL 1 (@eU .u8 8)) x0.Value)) rfl rfl rfl (o_ld tk rfl rfl) ?_
        refine wpo_lt H28 eI rfl rfl rfl (o_len tk td22 rfl) fun v30 H29 => ?_
        refine wpo_lt H29 eB rfl rfl rfl (o_ar tk rfl rfl rfl) fun v32 H31 => ?_
        refine wpo_nil ?_
        refine awp_if H31 rfl (fun H33 => ?_) (fun H33 => ?_)
        · refine awp_seq ?_
          refine awp_region rfl ?_
          refine wpo_mv (a := (eI (3 : Int))) rfl rfl rfl (o_as tk rfl (Wk.refl _)) ?_
          refine wpo_nil ?_
          refine awp_ret ?_
          obtain rfl := Option.some.inj H33
          exact ⟨_, (eI (3 : Int)), rfl, (.of_eq rfl), .of_eq ((enc_i64 td30 sz30).cut _ _ _), hH.noT⟩
        · refine awp_skip ?_
          refine awp_seq ?_
          refine awp_region rfl ?_
          refine wpo_mv (a := (eI (0 : Int))) rfl rfl rfl (o_as tk rfl (Wk.refl _)) ?_
          refine wpo_nil ?_
          refine awp_ret ?_
          obtain rfl := Option.some.inj H33
          exact ⟨_, (eI (0 : Int)), rfl, (.of_eq rfl), .of_eq ((enc_i64 td30 sz30).cut _ _ _), hH.noT⟩
    · refine awp_region rfl ?_
      refine wpo_mv (a := (.fptr (c_api_Entry x0) 1)) rfl rfl rfl (o_c tk false rfl (fun _ => rfl)) ?_
      refine wpo_mv (a := (eI x0.Version)) rfl rfl rfl (o_ld tk rfl rfl) ?_
      refine wpo_lt hs8 eB rfl rfl rfl (o_ar tk rfl rfl rfl) fun v11 H10 => ?_
      refine wpo_mv (a := (eB v11)) rfl rfl rfl (o_mv tk rfl (Wk.refl _)) ?_
      refine if_split H10 (fun hb H12 => ?_) (fun hb H12 => ?_)
      · subst hb
        refine wpo_skip rfl rfl rfl ?_
        refine wpo_skip rfl rfl rfl ?_
        refine wpo_skip rfl rfl rfl ?_
        refine wpo_mv (a := (eB true)) rfl rfl rfl (o_pick_t tk rfl rfl (Wk.refl _)) ?_
        refine wpo_mv (a := (eB true)) rfl rfl rfl (o_mv tk rfl (Wk.refl _)) ?_
        refine wpo_skip rfl rfl rfl ?_
        refine wpo_skip rfl rfl rfl ?_
        refine wpo_skip rfl rfl rfl ?_
        refine wpo_skip rfl rfl rfl ?_
        refine wpo_skip rfl rfl rfl ?_
        refine wpo_mv (a := (eB true)) rfl rfl rfl (o_pick_t tk rfl rfl (Wk.refl _)) ?_
        refine wpo_mv (a := (eB true)) rfl rfl rfl (o_mv tk rfl (Wk.refl _)) ?_
        refine wpo_skip rfl rfl rfl ?_
        refine wpo_skip rfl rfl rfl ?_
        refine wpo_skip rfl rfl rfl ?_
        refine wpo_mv (a := (eB true)) rfl rfl rfl (o_pick_t tk rfl rfl (Wk.refl _)) ?_
        refine wpo_mv (a := (eB true)) rfl rfl rfl (o_mv tk rfl (Wk.refl _)) ?_
        refine wpo_skip rfl rfl rfl ?_
        refine wpo_skip rfl rfl rfl ?_
        refine wpo_skip rfl rfl rfl ?_
        refine wpo_mv (a := (eB true)) rfl rfl rfl (o_pick_t tk rfl rfl (Wk.refl _)) ?_
        refine wpo_mv (a := (eB true)) rfl rfl rfl (o_mv tk rfl (Wk.refl _)) ?_
        refine wpo_skip rfl rfl rfl ?_
        refine wpo_skip rfl rfl rfl ?_
        refine wpo_skip rfl rfl rfl ?_
        refine wpo_mv (a := (eB true)) rfl rfl rfl (o_pick_t tk rfl rfl (Wk.refl _)) ?_
        refine wpo_nil ?_
        have e := Option.some.inj H12
        subst e
        exact ⟨(wkf_cons (.of_eq rfl) (wkf_cons (.of_eq rfl) (wkf_nil _))), hH⟩
      · subst hb
        refine wpo_mv (a := (.fptr (c_api_Entry x0) 1)) rfl rfl rfl (o_c tk false rfl (fun _ => rfl)) ?_
        refine wpo_mv (a := (eI x0.Version)) rfl rfl rfl (o_ld tk rfl rfl) ?_
        refine wpo_lt H12 eB rfl rfl rfl (o_ar tk rfl rfl rfl) fun v14 H13 => ?_
        refine wpo_mv (a := (eB v14)) rfl rfl rfl (o_pick_f tk rfl rfl (Wk.refl _)) ?_
        refine wpo_mv (a := (eB v14)) rfl rfl rfl (o_mv tk rfl (Wk.refl _)) ?_
        refine if_split H13 (fun hb H15 => ?_) (fun hb H15 => ?_)
        · subst hb
          refine wpo_skip rfl rfl rfl ?_
          refine wpo_skip rfl rfl rfl ?_
          refine wpo_skip rfl rfl rfl ?_
          refine wpo_skip rfl rfl rfl ?_
          refine wpo_skip rfl rfl rfl ?_
          refine wpo_mv (a := (eB true)) rfl rfl rfl (o_pick_t tk rfl rfl (Wk.refl _)) ?_
          refine wpo_mv (a := (eB true)) rfl rfl rfl (o_mv tk rfl (Wk.refl _)) ?_
          refine wpo_skip rfl rfl rfl ?_
          refine wpo_skip rfl rfl rfl ?_
          refine wpo_skip rfl rfl rfl ?_
          refine wpo_mv (a := (eB true)) rfl rfl rfl (o_pick_t tk rfl rfl (Wk.refl _)) ?_
          refine wpo_mv (a := (eB true)) rfl rfl rfl (o_mv tk rfl (Wk.refl _)) ?_
          refine wpo_skip rfl rfl rfl ?_
          refine wpo_skip rfl rfl rfl ?_
          refine wpo_skip rfl rfl rfl ?_
          refine wpo_mv (a := (eB true)) rfl rfl rfl (o_pick_t tk rfl rfl (Wk.refl _)) ?_
          refine wpo_mv (a := (eB true)) rfl rfl rfl (o_mv tk rfl (Wk.refl _)) ?_
          refine wpo_skip rfl rfl rfl ?_
          refine wpo_skip rfl rfl rfl ?_
          refine wpo_skip rfl rfl rfl ?_
          refine wpo_mv (a := (eB true)) rfl rfl rfl (o_pick_t tk rfl rfl (Wk.refl _)) ?_
          refine wpo_nil ?_
          have e := Option.some.inj H15
          subst e
          exact ⟨(wkf_cons (.of_eq rfl) (wkf_cons (.of_eq rfl) (wkf_nil _))), hH⟩
        · subst hb
          refine wpo_mv (a := (.fptr (c_api_Entry x0) 2)) rfl rfl rfl (o_c tk false rfl (fun _ => rfl)) ?_
          refine wpo_mv (a := (eI x0.AsOf)) rfl rfl rfl (o_ld tk rfl rfl) ?_
          refine wpo_mv (a := (.fptr (c_api_Entry x0) 1)) rfl rfl rfl (o_c tk false rfl (fun _ => rfl)) ?_
          refine wpo_mv (a := (eI x0.Version)) rfl rfl rfl (o_ld tk rfl rfl) ?_
          refine wpo_lt H15 eB rfl rfl rfl (o_ar tk rfl rfl rfl) fun v17 H16 => ?_
          refine wpo_mv (a := (eB v17)) rfl rfl rfl (o_pick_f tk rfl rfl (Wk.refl _)) ?_
          refine wpo_mv (a := (eB v17)) rfl rfl rfl (o_mv tk rfl (Wk.refl _)) ?_
          refine if_split H16 (fun hb H18 => ?_) (fun hb H18 => ?_)
          · subst hb
            refine wpo_skip rfl rfl rfl ?_
            refine wpo_skip rfl rfl rfl ?_
            refine wpo_skip rfl rfl rfl ?_
            refine wpo_mv (a := (eB true)) rfl rfl rfl (o_pick_t tk rfl rfl (Wk.refl _)) ?_
            refine wpo_mv (a := (eB true)) rfl rfl rfl (o_mv tk rfl (Wk.refl _)) ?_
            refine wpo_skip rfl rfl rfl ?_
            refine wpo_skip rfl rfl rfl ?_
            refine wpo_skip rfl rfl rfl ?_
            refine wpo_mv (a := (eB true)) rfl rfl rfl (o_pick_t tk rfl rfl (Wk.refl _)) ?_
            refine wpo_mv (a := (eB true)) rfl rfl rfl (o_mv tk rfl (Wk.refl _)) ?_
            refine wpo_skip rfl rfl rfl ?_
            refine wpo_skip rfl rfl rfl ?_
            refine wpo_skip rfl rfl rfl ?_
            refine wpo_mv (a := (eB true)) rfl rfl rfl (o_pick_t tk rfl rfl (Wk.refl _)) ?_
            refine wpo_nil ?_
            have e := Option.some.inj H18
            subst e
            exact ⟨(wkf_cons (.of_eq rfl) (wkf_cons (.of_eq rfl) (wkf_nil _))), hH⟩
          · subst hb
            refine wpo_mv (a := (.fptr (c_api_Entry x0) 2)) rfl rfl rfl (o_c tk false rfl (fun _ => rfl)) ?_
            refine wpo_mv (a := (eI x0.AsOf)) rfl rfl rfl (o_ld tk rfl rfl) ?_
            refine wpo_lt H18 eB rfl rfl rfl (o_ar tk rfl rfl rfl) fun v20 H19 => ?_
            refine wpo_mv (a := (eB v20)) rfl rfl rfl (o_pick_f tk rfl rfl (Wk.refl _)) ?_
            refine wpo_mv (a := (eB v20)) rfl rfl rfl (o_mv tk rfl (Wk.refl _)) ?_
            refine if_split H19 (fun hb H21 => ?_) (fun hb H21 => ?_)
            · subst hb
              refine wpo_skip rfl rfl rfl ?_
              refine wpo_skip rfl rfl rfl ?_
              refine wpo_skip rfl rfl rfl ?_
              refine wpo_mv (a := (eB true)) rfl rfl rfl (o_pick_t tk rfl rfl (Wk.refl _)) ?_
              refine wpo_mv (a := (eB true)) rfl rfl rfl (o_mv tk rfl (Wk.refl _)) ?_
              refine wpo_skip rfl rfl rfl ?_
              refine wpo_skip rfl rfl rfl ?_
              refine wpo_skip rfl rfl rfl ?_
              refine wpo_mv (a := (eB true)) rfl rfl rfl (o_pick_t tk rfl rfl (Wk.refl _)) ?_
              refine wpo_nil ?_
              have e := Option.some.inj H21
              subst e
              exact ⟨(wkf_cons (.of_eq rfl) (wkf_cons (.of_eq rfl) (wkf_nil _))), hH⟩
            · subst hb
              refine wpo_mv (a := (.fptr (c_api_Entry x0) 3)) rfl rfl rfl (o_c tk false rfl (fun _ => rfl)) ?_
              refine wpo_mv (a := (eI x0.Ends)) rfl rfl rfl (o_ld tk rfl rfl) ?_
              refine wpo_lt H21 eB rfl rfl rfl (o_ar tk rfl rfl rfl) fun v23 H22 => ?_
              refine wpo_mv (a := (eB v23)) rfl rfl rfl (o_pick_f tk rfl rfl (Wk.refl _)) ?_
              refine wpo_mv (a := (eB v23)) rfl rfl rfl (o_mv tk rfl (Wk.refl _)) ?_
              refine if_split H22 (fun hb H24 => ?_) (fun hb H24 => ?_)
              · subst hb
                refine wpo_skip rfl rfl rfl ?_
                refine wpo_skip rfl rfl rfl ?_
                refine wpo_skip rfl rfl rfl ?_
                refine wpo_mv (a := (eB true)) rfl rfl rfl (o_pick_t tk rfl rfl (Wk.refl _)) ?_
                refine wpo_nil ?_
                have e := Option.some.inj H24
                subst e
                exact ⟨(wkf_cons (.of_eq rfl) (wkf_cons (.of_eq rfl) (wkf_nil _))), hH⟩
              · subst hb
                refine wpo_mv (a := (.fptr (c_api_Entry x0) 3)) rfl rfl rfl (o_c tk false rfl (fun _ => rfl)) ?_
                refine wpo_mv (a := (eI x0.Ends)) rfl rfl rfl (o_ld tk rfl rfl) ?_
                refine wpo_lt H24 eB rfl rfl rfl (o_ar tk rfl rfl rfl) fun v26 H25 => ?_
                refine wpo_mv (a := (eB v26)) rfl rfl rfl (o_pick_f tk rfl rfl (Wk.refl _)) ?_
                refine wpo_nil ?_
                have e := Option.some.inj H25
                subst e
                exact ⟨(wkf_cons (.of_eq rfl) (wkf_cons (.of_eq rfl) (wkf_nil _))), hH⟩
end Go.Proofs.YtgfedohhkbmobaaDoor
namespace Go.Proofs.YtgfedohhkbmobaaDoor
open Go Go.Va
set_option linter.unusedVariables false
set_option linter.unusedSimpArgs false
set_option maxRecDepth 20000
theorem butteryref06_Same_ok {x0 : api_Entry} {x1 : api_Entry} {r : Bool} (H : butteryref06_Same x0 x1 = some r) (σ : St)  : ACall Tryd.prog 30 [(e_api_Entry x0), (e_api_Entry x1)] σ (fun a τ => a = eB r ∧ τ = σ) := by
  unfold butteryref06_Same at H
  refine ACall.pure (acall_start tk Tryd.func30 (by decide) rfl (Nat.le_of_ble_eq_true rfl) ?_)
  have hH := Holds.init σ
  refine awp_seq ?_
  refine awp_region rfl ?_
  refine wpo_mv (a := (.fptr (c_api_Entry x0) 0)) rfl rfl rfl (o_boxf tk rfl (.of_eq rfl) (b := (e_api_Entry x0)) (enc50.flat _)) ?_
  refine wpo_mv (a := (.fptr (c_api_Entry x1) 0)) rfl rfl rfl (o_boxf tk rfl (.of_eq rfl) (b := (e_api_Entry x1)) (enc50.flat _)) ?_
  refine wpo_mv (a := (eB false)) rfl rfl rfl (o_as tk rfl (Wk.refl _)) ?_
  refine wpo_nil ?_
  refine awp_seq ?_
  refine awp_region rfl ?_
  refine wpo_mv (a := (.fptr (c_api_Entry x0) 0)) rfl rfl rfl (o_c tk false rfl (fun _ => rfl)) ?_
  refine wpo_mv (a := (eS x0.Key)) rfl rfl rfl (o_ld tk rfl rfl) ?_
  refine wpo_mv (a := (.fptr (c_api_Entry x1) 0)) rfl rfl rfl (o_c tk false rfl (fun _ => rfl)) ?_
  refine wpo_mv (a := (eS x1.Key)) rfl rfl rfl (o_ld tk rfl rfl) ?_
  refine wpo_lt H eB rfl rfl rfl (o_eql_s tk rfl rfl) fun v2 H1 => ?_
  refine wpo_mv (a := (eB v2)) rfl rfl rfl (o_mv tk rfl (Wk.refl _)) ?_
  refine if_split H1 (fun hb H3 => ?_) (fun hb H3 => ?_)
  · subst hb
    refine wpo_mv (a := (.fptr (c_api_Entry x0) 1)) rfl rfl rfl (o_c tk false rfl (fun _ => rfl)) ?_
    refine wpo_mv (a := (eI x0.Version)) rfl rfl rfl (o_ld tk rfl rfl) ?_
    refine wpo_mv (a := (.fptr (c_api_Entry x1) 1)) rfl rfl rfl (o_c tk false rfl (fun _ => rfl)) ?_
    refine wpo_mv (a := (eI x1.Version)) rfl rfl rfl (o_ld tk rfl rfl) ?_
    refine wpo_lt H3 eB rfl rfl rfl (o_ar tk rfl rfl rfl) fun v5 H4 => ?_
    refine wpo_mv (a := (eB v5)) rfl rfl rfl (o_pick_t tk rfl rfl (Wk.refl _)) ?_
    refine wpo_mv (a := (eB v5)) rfl rfl rfl (o_mv tk rfl (Wk.refl _)) ?_
    refine if_split H4 (fun hb H6 => ?_) (fun hb H6 => ?_)
    · subst hb
      refine wpo_mv (a := (.fptr (c_api_Entry x0) 2)) rfl rfl rfl (o_c tk false rfl (fun _ => rfl)) ?_
      refine wpo_mv (a := (eI x0.AsOf)) rfl rfl rfl (o_ld tk rfl rfl) ?_
      refine wpo_mv (a := (.fptr (c_api_Entry x1) 2)) rfl rfl rfl (o_c tk false rfl (fun _ => rfl)) ?_
      refine wpo_mv (a := (eI x1.AsOf)) rfl rfl rfl (o_ld tk rfl rfl) ?_
      refine wpo_lt H6 eB rfl rfl rfl (o_ar tk rfl rfl rfl) fun v8 H7 => ?_
      refine wpo_mv (a := (eB v8)) rfl rfl rfl (o_pick_t tk rfl rfl (Wk.refl _)) ?_
      refine wpo_mv (a := (eB v8)) rfl rfl rfl (o_mv tk rfl (Wk.refl _)) ?_
      refine if_split H7 (fun hb H9 => ?_) (fun hb H9 => ?_)
      · subst hb
        refine wpo_mv (a := (.fptr (c_api_Entry x0) 3)) rfl rfl rfl (o_c tk false rfl (fun _ => rfl)) ?_
        refine wpo_mv (a := (eI x0.Ends)) rfl rfl rfl (o_ld tk rfl rfl) ?_
        refine wpo_mv (a := (.fptr (c_api_Entry x1) 3)) rfl rfl rfl (o_c tk false rfl (fun _ => rfl)) ?_
        refine wpo_mv (a := (eI x1.Ends)) rfl rfl rfl (o_ld tk rfl rfl) ?_
        refine wpo_lt H9 eB rfl rfl rfl (o_ar tk rfl rfl rfl) fun v11 H10 => ?_
        refine wpo_mv (a := (eB v11)) rfl rfl rfl (o_pick_t tk rfl rfl (Wk.refl _)) ?_
        refine wpo_mv (a := (eB v11)) rfl rfl rfl (o_mv tk rfl (Wk.refl _)) ?_
        refine if_split H10 (fun hb H12 => ?_) (fun hb H12 => ?_)
        · subst hb
          refine wpo_mv (a := (.fptr (c_api_Entry x0) 4)) rfl rfl rfl (o_c tk false rfl (fun _ => rfl)) ?_
          refine wpo_mv (a := ((eL 1 (@eU .u8 8)) x0.Value)) rfl rfl rfl (o_ld tk rfl rfl) ?_
          refine wpo_mv (a := (.fptr (c_api_Entry x1) 4)) rfl rfl rfl (o_c tk false rfl (fun _ => rfl)) ?_
          refine wpo_mv (a := ((eL 1 (@eU .u8 8)) x1.Value)) rfl rfl rfl (o_ld tk rfl rfl) ?_
          refine wpo_bd H12 eB rfl rfl rfl (fun v14 hv => OpP.of_call rfl rfl (.cons (.of_eq rfl) (.cons (.of_eq rfl) .nil)) (butteryref02_Same_ok hv)) fun v14 hv14 H13 => ?_
          refine wpo_mv (a := (eB v14)) rfl rfl rfl (o_pick_t tk rfl rfl (Wk.refl _)) ?_
          refine wpo_mv (a := (eB v14)) rfl rfl rfl (o_as tk rfl (Wk.refl _)) ?_
          refine wpo_nil ?_
          refine awp_ret ?_
          obtain rfl := Option.some.inj H13
          exact ⟨_, (eB v14), rfl, (.of_eq rfl), .of_eq ((enc_b td4 sz4).cut _ _ _), hH.noT⟩
        · subst hb
          refine wpo_skip rfl rfl rfl ?_
          refine wpo_skip rfl rfl rfl ?_
          refine wpo_skip rfl rfl rfl ?_
          refine wpo_skip rfl rfl rfl ?_
          refine wpo_skip rfl rfl rfl ?_
          refine wpo_mv (a := (eB false)) rfl rfl rfl (o_pick_f tk rfl rfl (Wk.refl _)) ?_
          refine wpo_mv (a := (eB false)) rfl rfl rfl (o_as tk rfl (Wk.refl _)) ?_
          refine wpo_nil ?_
          refine awp_ret ?_
          obtain rfl := Option.some.inj H12
          exact ⟨_, (eB false), rfl, (.of_eq rfl), .of_eq ((enc_b td4 sz4).cut _ _ _), hH.noT⟩
      · subst hb
        refine wpo_skip rfl rfl rfl ?_
        refine wpo_skip rfl rfl rfl ?_
        refine wpo_skip rfl rfl rfl ?_
        refine wpo_skip rfl rfl rfl ?_
        refine wpo_skip rfl rfl rfl ?_
        refine wpo_mv (a := (eB false)) rfl rfl rfl (o_pick_f tk rfl rfl (Wk.refl _)) ?_
        refine wpo_mv (a := (eB false)) rfl rfl rfl (o_mv tk rfl (Wk.refl _)) ?_
        refine wpo_skip rfl rfl rfl ?_
        refine wpo_skip rfl rfl rfl ?_
        refine wpo_skip rfl rfl rfl ?_
        refine wpo_skip rfl rfl rfl ?_
        refine wpo_skip rfl rfl rfl ?_
        refine wpo_mv (a := (eB false)) rfl rfl rfl (o_pick_f tk rfl rfl (Wk.refl _)) ?_
        refine wpo_mv (a := (eB false)) rfl rfl rfl (o_as tk rfl (Wk.refl _)) ?_
        refine wpo_nil ?_
        refine awp_ret ?_
        obtain rfl := Option.some.inj H9
        exact ⟨_, (eB false), rfl, (.of_eq rfl), .of_eq ((enc_b td4 sz4).cut _ _ _), hH.noT⟩
    · subst hb
      refine wpo_skip rfl rfl rfl ?_
      refine wpo_skip rfl rfl rfl ?_
      refine wpo_skip rfl rfl rfl ?_
      refine wpo_skip rfl rfl rfl ?_
      refine wpo_skip rfl rfl rfl ?_
      refine wpo_mv (a := (eB false)) rfl rfl rfl (o_pick_f tk rfl rfl (Wk.refl _)) ?_
      refine wpo_mv (a := (eB false)) rfl rfl rfl (o_mv tk rfl (Wk.refl _)) ?_
      refine wpo_skip rfl rfl rfl ?_
      refine wpo_skip rfl rfl rfl ?_
      refine wpo_skip rfl rfl rfl ?_
      refine wpo_skip rfl rfl rfl ?_
      refine wpo_skip rfl rfl rfl ?_
      refine wpo_mv (a := (eB false)) rfl rfl rfl (o_pick_f tk rfl rfl (Wk.refl _)) ?_
      refine wpo_mv (a := (eB false)) rfl rfl rfl (o_mv tk rfl (Wk.refl _)) ?_
      refine wpo_skip rfl rfl rfl ?_
      refine wpo_skip rfl rfl rfl ?_
      refine wpo_skip rfl rfl rfl ?_
      refine wpo_skip rfl rfl rfl ?_
      refine wpo_skip rfl rfl rfl ?_
      refine wpo_mv (a := (eB false)) rfl rfl rfl (o_pick_f tk rfl rfl (Wk.refl _)) ?_
      refine wpo_mv (a := (eB false)) rfl rfl rfl (o_as tk rfl (Wk.refl _)) ?_
      refine wpo_nil ?_
      refine awp_ret ?_
      obtain rfl := Option.some.inj H6
      exact ⟨_, (eB false), rfl, (.of_eq rfl), .of_eq ((enc_b td4 sz4).cut _ _ _), hH.noT⟩
  · subst hb
    refine wpo_skip rfl rfl rfl ?_
    refine wpo_skip rfl rfl rfl ?_
    refine wpo_skip rfl rfl rfl ?_
    refine wpo_skip rfl rfl rfl ?_
    refine wpo_skip rfl rfl rfl ?_
    refine wpo_mv (a := (eB false)) rfl rfl rfl (o_pick_f tk rfl rfl (Wk.refl _)) ?_
    refine wpo_mv (a := (eB false)) rfl rfl rfl (o_mv tk rfl (Wk.refl _)) ?_
    refine wpo_skip rfl rfl rfl ?_
    refine wpo_skip rfl rfl rfl ?_
    refine wpo_skip rfl rfl rfl ?_
    refine wpo_skip rfl rfl rfl ?_
    refine wpo_skip rfl rfl rfl ?_
    refine wpo_mv (a := (eB false)) rfl rfl rfl (o_pick_f tk rfl rfl (Wk.refl _)) ?_
    refine wpo_mv (a := (eB false)) rfl rfl rfl (o_mv tk rfl (Wk.refl _)) ?_
    refine wpo_skip rfl rfl rfl ?_
    refine wpo_skip rfl rfl rfl ?_
    refine wpo_skip rfl rfl rfl ?_
    refine wpo_skip rfl rfl rfl ?_
    refine wpo_skip rfl rfl rfl ?_
    refine wpo_mv (a := (eB false)) rfl rfl rfl (o_pick_f tk rfl rfl (Wk.refl _)) ?_
    refine wpo_mv (a := (eB false)) rfl rfl rfl (o_mv tk rfl (Wk.refl _)) ?_
    refine wpo_skip rfl rfl rfl ?_
    refine wpo_skip rfl rfl rfl ?_
    refine wpo_skip rfl rfl rfl ?_
    refine wpo_skip rfl rfl rfl ?_
    refine wpo_skip rfl rfl rfl ?_
    refine wpo_mv (a := (eB false)) rfl rfl rfl (o_pick_f tk rfl rfl (Wk.refl _)) ?_
    refine wpo_mv (a := (eB false)) rfl rfl rfl (o_as tk rfl (Wk.refl _)) ?_
    refine wpo_nil ?_
    refine awp_ret ?_
    obtain rfl := Option.some.inj H3
    exact ⟨_, (eB false), rfl, (.of_eq rfl), .of_eq ((enc_b td4 sz4).cut _ _ _), hH.noT⟩
end Go.Proofs.YtgfedohhkbmobaaDoor
namespace Go.Proofs.YtgfedohhkbmobaaDoor
open Go Go.Va
set_option linter.unusedVariables false
set_option linter.unusedSimpArgs false
set_option maxRecDepth 20000
theorem butteryref06_SameAll_ok {x0 : List api_Entry} {x1 : List api_Entry} {r : Bool} (H : butteryref06_SameAll x0 x1 = some r) (σ : St)  : ACall Tryd.prog 43 [((eL 5 e_api_Entry) x0), ((eL 5 e_api_Entry) x1)] σ (fun a τ => a = eB r ∧ τ = σ) := by
  unfold butteryref06_SameAll at H
  refine ACall.pure (acall_start tk Tryd.func43 (by decide) rfl (Nat.le_of_ble_eq_true rfl) ?_)
  have hH := Holds.init σ
  refine awp_seq ?_
  refine awp_region rfl ?_
  refine wpo_mv (a := (eB false)) rfl rfl rfl (o_as tk rfl (Wk.refl _)) ?_
  refine wpo_nil ?_
  refine awp_seq ?_
  refine awp_seq ?_
  refine awp_region rfl ?_
  refine wpo_mv (a := ((eL 5 e_api_Entry) x0)) rfl rfl rfl (o_mv tk rfl (Wk.refl _)) ?_
  refine wpo_lt H eI rfl rfl rfl (o_len tk td52 rfl) fun v2 H1 => ?_
  refine wpo_mv (a := ((eL 5 e_api_Entry) x1)) rfl rfl rfl (o_mv tk rfl (Wk.refl _)) ?_
  refine wpo_lt H1 eI rfl rfl rfl (o_len tk td52 rfl) fun v4 H3 => ?_
  refine wpo_lt H3 eB rfl rfl rfl (o_ar tk rfl rfl rfl) fun v6 H5 => ?_
  refine wpo_nil ?_
  refine awp_if H5 rfl (fun H7 => ?_) (fun H7 => ?_)
  · refine awp_seq ?_
    refine awp_region rfl ?_
    refine wpo_mv (a := (eB false)) rfl rfl rfl (o_as tk rfl (Wk.refl _)) ?_
    refine wpo_nil ?_
    refine awp_ret ?_
    obtain rfl := Option.some.inj H7
    exact ⟨_, (eB false), rfl, (.of_eq rfl), .of_eq ((enc_b td4 sz4).cut _ _ _), hH.noT⟩
  · refine awp_skip ?_
    refine awp_seq ?_
    refine awp_seq ?_
    refine awp_region rfl ?_
    refine wpo_mv (a := (eI (0 : Int))) rfl rfl rfl (o_as tk rfl (Wk.refl _)) ?_
    refine wpo_nil ?_
    refine awp_block ?_
    obtain ⟨o9, hs10, hj11⟩ := Option.bind_eq_some_iff.1 H7
    refine awp_cutx 0 (fun fr τ => ∃ s16 : Unit, o9 = .inl s16 ∧ WkF fr (fm []) ∧ Holds σ [] [] τ) ?_ ?_
    · rintro fr τ ⟨s16, rfl, hfr, hH⟩
      have H35 := hj11
      simp only [Sum.elim_inl] at H35
      refine AWP.fm [] hfr ?_
      refine awp_seq ?_
      refine awp_region rfl ?_
      refine wpo_mv (a := (eB true)) rfl rfl rfl (o_as tk rfl (Wk.refl _)) ?_
      refine wpo_nil ?_
      refine awp_ret ?_
      obtain rfl := Option.some.inj H35
      exact ⟨_, (eB true), rfl, (.of_eq rfl), .of_eq ((enc_b td4 sz4).cut _ _ _), hH.noT⟩
    · refine awp_loopO (body := fun s => butteryref06_SameAll_b0 x0 x1 s) hs10 (fun (s : Int) fr τ => WkF fr (fm [(0, ((eL 5 e_api_Entry) x0)), (1, ((eL 5 e_api_Entry) x1)), (5, (eI s))]) ∧ Holds σ [] [] τ) ⟨(wkf_cons (.of_eq rfl) (wkf_cons (.of_eq rfl) (wkf_cons (.of_eq rfl) (wkf_nil _)))), hH⟩ ?_
      rintro c8 fr τ y12 ⟨hfr, hH⟩ hb14 hy15
      have H17 : butteryref06_SameAll_b0 x0 x1 c8 = some y12 := hb14
      unfold butteryref06_SameAll_b0 at H17
      refine AWP.fm [(0, ((eL 5 e_api_Entry) x0)), (1, ((eL 5 e_api_Entry) x1)), (5, (eI c8))] hfr ?_
      have hH : Holds σ [] [] τ := hH
      refine awp_seq ?_
      refine awp_seq ?_
      refine awp_region rfl ?_
      refine wpo_mv (a := (eI c8)) rfl rfl rfl (o_mv tk rfl (Wk.refl _)) ?_
      refine wpo_mv (a := ((eL 5 e_api_Entry) x0)) rfl rfl rfl (o_mv tk rfl (Wk.refl _)) ?_
      refine wpo_lt H17 eI rfl rfl rfl (o_len tk td52 rfl) fun v19 H18 => ?_
      refine wpo_lt H18 eB rfl rfl rfl (o_ar tk rfl rfl rfl) fun v21 H20 => ?_
      refine wpo_nil ?_
      refine awp_if H20 rfl (fun H22 => ?_) (fun H22 => ?_)
      · refine awp_skip ?_
        refine awp_seq ?_
        refine awp_block ?_
        refine awp_seq ?_
        refine awp_drawS mixed [] rfl (by decide +kernel) rfl rfl ?_
        refine wpdS_mv (a := ((eL 5 e_api_Entry) x0)) rfl rfl rfl (o_mv tk rfl (Wk.refl _)) ?_
        refine wpdS_mv (a := (eI c8)) rfl rfl rfl (o_mv tk rfl (Wk.refl _)) ?_
        refine wpdS_bd H22 (fun y => .fptr (e_api_Entry y).cells 0) rfl rfl rfl (fun v24 hv => o_ixa tk hv td52 enc50 rfl rfl) fun v24 hv24 H23 => ?_
        refine wpdS_mv (a := (e_api_Entry v24)) rfl rfl rfl (o_ld_e tk enc50 rfl rfl) ?_
        refine wpdS_mv (a := ((eL 5 e_api_Entry) x1)) rfl rfl rfl (o_mv tk rfl (Wk.refl _)) ?_
        refine wpdS_mv (a := (eI c8)) rfl rfl rfl (o_mv tk rfl (Wk.refl _)) ?_
        refine wpdS_bd H23 (fun y => .fptr (e_api_Entry y).cells 0) rfl rfl rfl (fun v26 hv => o_ixa tk hv td52 enc50 rfl rfl) fun v26 hv26 H25 => ?_
        refine wpdS_mv (a := (e_api_Entry v26)) rfl rfl rfl (o_ld_e tk enc50 rfl rfl) ?_
        refine wpdS_bd H25 eB rfl rfl rfl (fun v28 hv => OpP.of_call rfl rfl (.cons (.of_eq rfl) (.cons (.of_eq rfl) .nil)) (butteryref06_Same_ok hv)) fun v28 hv28 H27 => ?_
        refine wpdS_lt H27 eB rfl rfl rfl (o_un tk rfl rfl) fun v30 H29 => ?_
        refine wpdS_nil ?_
        refine awp_if H29 rfl (fun H31 => ?_) (fun H31 => ?_)
        · refine awp_seq ?_
          refine awp_region rfl ?_
          refine wpo_mv (a := (eB false)) rfl rfl rfl (o_as tk rfl (Wk.refl _)) ?_
          refine wpo_nil ?_
          refine awp_ret ?_
          have hz := hy15 _ (inj_inr H31)
          refine ⟨⟨_, inj_inr H31⟩, ?_⟩
          rw [← hz] at hj11
          have H32 := (show some _ = some _ from hj11)
          obtain rfl := Option.some.inj H32
          exact ⟨_, (eB false), rfl, (.of_eq rfl), .of_eq ((enc_b td4 sz4).cut _ _ _), hH.noT⟩
        · refine awp_skip ?_
          refine awp_region rfl ?_
          refine wpo_mv (a := (eI c8)) rfl rfl rfl (o_mv tk rfl (Wk.refl _)) ?_
          refine wpo_lt H31 eI rfl rfl rfl (o_ar tk rfl rfl rfl) fun v34 H33 => ?_
          refine wpo_mv (a := (eI v34)) rfl rfl rfl (o_as tk rfl (Wk.refl _)) ?_
          refine wpo_nil ?_
          exact ⟨v34, inj_inl H33, (wkf_cons (.of_eq rfl) (wkf_cons (.of_eq rfl) (wkf_cons (.of_eq rfl) (wkf_nil _)))), hH⟩
      · refine awp_exit ?_
        have hz := hy15 _ (inj_inr H22)
        exact ⟨⟨_, inj_inr H22⟩, (), hz.symm, (wkf_nil _), hH⟩
end Go.Proofs.YtgfedohhkbmobaaDoor
namespace Go.Proofs.YtgfedohhkbmobaaDoor
open Go Go.Va
set_option linter.unusedVariables false
set_option linter.unusedSimpArgs false
set_option maxRecDepth 20000
theorem item_All_app {x0 : List api_Entry} {r : (List (BitVec 8))} (H : item_All x0 = some r) (σ : St)  : ACall Tryd.prog 47 [((eL 5 e_api_Entry) x0)] σ (fun a τ => a = .sl (.own σ.opn.length) 1 (r.map (@eU .u8 8)) ∧ τ = σ.more) := by
  unfold item_All at H
  refine ACall.app (fun ρ κ => cutL_enc (enc_u td5 sz5).cut ρ κ r) (acall_start tk Tryd.func47 (by decide) rfl (Nat.le_of_ble_eq_true rfl) ?_)
  have hH := Holds.init σ
  refine awp_seq ?_
  refine awp_region rfl ?_
  refine wpo_mv (a := AV.nils) rfl rfl rfl (o_as tk rfl (Wk.refl _)) ?_
  refine wpo_nil ?_
  refine awp_seq ?_
  refine awp_region rfl ?_
  refine wpo_mv (a := AV.nils) rfl rfl rfl (o_as tk rfl (Wk.refl _)) ?_
  refine wpo_nil ?_
  refine awp_seq ?_
  refine awp_seq ?_
  refine awp_region rfl ?_
  refine wpo_mv (a := ((eL 5 e_api_Entry) x0)) rfl rfl rfl (o_mv tk rfl (Wk.refl _)) ?_
  refine wpo_lt H eI rfl rfl rfl (o_len tk td52 rfl) fun v2 H1 => ?_
  refine wpo_mv (a := (eI (0 : Int))) rfl rfl rfl (o_mv tk rfl (Wk.refl _)) ?_
  refine wpo_nil ?_
  refine awp_block ?_
  refine AWP.tokN hH 3 1 rfl fun tk5 τ hH => ?_
  obtain ⟨s13, hs7, hj8⟩ := Option.bind_eq_some_iff.1 H1
  refine awp_cutx 0 (fun fr τ => ∃ tk_3, WkF fr (fm [(3, (eT tk_3 1 (@eU .u8 8) s13))]) ∧ Holds σ [] [tk_3] τ) ?_ ?_
  · rintro fr τ ⟨tk_3, hfr, hH⟩
    have H28 := hj8
    refine AWP.fm [(3, (eT tk_3 1 (@eU .u8 8) s13))] hfr ?_
    refine awp_seq ?_
    refine awp_region rfl ?_
    refine wpo_mv (a := (eT tk_3 1 (@eU .u8 8) s13)) rfl rfl rfl (o_mv tk rfl (Wk.refl _)) ?_
    refine wpo_mv (a := (eT tk_3 1 (@eU .u8 8) s13)) rfl rfl rfl (o_as tk rfl (Wk.refl _)) ?_
    refine wpo_nil ?_
    refine awp_ret ?_
    obtain rfl := Option.some.inj H28
    exact ⟨_, (eT tk_3 1 (@eU .u8 8) s13), rfl, .of_eq rfl, tk_3, rfl, hH⟩
  · refine awp_loopO (body := fun s => item_All_b0 x0 v2 s.1 s.2) hs7 (fun (s : (List (BitVec 8)) × Int) fr τ => ∃ tk_3, WkF fr (fm [(3, (eT tk_3 1 (@eU .u8 8) s.1)), (6, ((eL 5 e_api_Entry) x0)), (7, (eI v2)), (8, (eI s.2))]) ∧ Holds σ [] [tk_3] τ) ⟨tk5, (wkf_cons (.of_eq rfl) (wkf_cons (.of_eq rfl) (wkf_cons (.of_eq rfl) (wkf_cons (.of_eq rfl) (wkf_nil _))))), hH⟩ ?_
    rintro ⟨c3, c4⟩ fr τ y9 ⟨tk_3, hfr, hH⟩ hb11 hy12
    have H14 : item_All_b0 x0 v2 c3 c4 = some y9 := hb11
    unfold item_All_b0 at H14
    refine AWP.fm [(3, (eT tk_3 1 (@eU .u8 8) c3)), (6, ((eL 5 e_api_Entry) x0)), (7, (eI v2)), (8, (eI c4))] hfr ?_
    have hH : Holds σ [] [tk_3] τ := hH
    refine awp_seq ?_
    refine awp_region rfl ?_
    refine wpo_lt H14 eB rfl rfl rfl (o_ar tk rfl rfl rfl) fun v16 H15 => ?_
    refine wpo_nil ?_
    refine awp_seq ?_
    refine awp_if H15 rfl (fun H17 => ?_) (fun H17 => ?_)
    · refine awp_skip ?_
      refine awp_seq ?_
      refine awp_block ?_
      refine awp_seq ?_
      refine awp_region rfl ?_
      refine wpo_bd H17 (fun y => .fptr (e_api_Entry y).cells 0) rfl rfl rfl (fun v19 hv => o_ixa tk hv td52 enc50 rfl rfl) fun v19 hv19 H18 => ?_
      refine wpo_mv (a := (e_api_Entry v19)) rfl rfl rfl (o_ld_e tk enc50 rfl rfl) ?_
      refine wpo_a (av := fun id => .ref id 0) rfl rfl rfl (h_alloc tk hH ty50 [(eS z_api_Entry.Key), (eI z_api_Entry.Version), (eI z_api_Entry.AsOf), (eI z_api_Entry.Ends), AV.nils] rfl) fun id20 τ ⟨hH, n21⟩ => ?_
      refine wpo_z rfl rfl (h_st tk hH 0 rfl ty50 (by simp) rfl rfl (.of_eq rfl) (b := (e_api_Entry v19)) (enc50.flat _) rfl (Nat.le_of_ble_eq_true rfl) (c_api_Entry (v19 : api_Entry)) rfl) fun τ hH => ?_
      refine wpo_nil ?_
      refine awp_region rfl ?_
      refine wpo_mv (a := (eT tk_3 1 (@eU .u8 8) c3)) rfl rfl rfl (o_mv tk rfl (Wk.refl _)) ?_
      refine wpo_rd (a := (e_api_Entry (v19 : api_Entry))) rfl rfl rfl (h_ld tk hH 0 rfl rfl rfl) ?_
      refine wpo_cb H18 (fun x t => eT t 1 (@eU .u8 8) x) rfl rfl rfl (fun v24 hv => h_calla hH rfl rfl (.cons wk_no (.cons (.of_eq rfl) .nil)) (item_Put_app hv _)) fun v24 tk25 τ hv24 H23 hH => ?_
      refine wpo_mv (a := (eT tk25 1 (@eU .u8 8) v24)) rfl rfl rfl (o_as tk rfl (Wk.refl _)) ?_
      refine wpo_nil ?_
      refine awp_region rfl ?_
      refine wpo_lt H23 eI rfl rfl rfl (o_ar tk rfl rfl rfl) fun v27 H26 => ?_
      refine wpo_mv (a := (eI v27)) rfl rfl rfl (o_mv tk rfl (Wk.refl _)) ?_
      refine wpo_nil ?_
      exact ⟨(v24, v27), inj_inl H26, tk25, (wkf_cons (.of_eq rfl) (wkf_cons (.of_eq rfl) (wkf_cons (.of_eq rfl) (wkf_cons (.of_eq rfl) (wkf_nil _))))), ((hH.drop n21).sub (.cons_cons _ (.cons _ .slnil)))⟩
    · refine awp_exit ?_
      have hz := hy12 _ (inj_inr H17)
      subst hz
      exact ⟨⟨_, inj_inr H17⟩, tk_3, (wkf_cons (.of_eq rfl) (wkf_nil _)), hH⟩
theorem item_All_ok {x0 : List api_Entry} {r : (List (BitVec 8))} (H : item_All x0 = some r) (σ : St) : ACall Tryd.prog 47 [((eL 5 e_api_Entry) x0)] σ (fun a τ => a = (eL 1 (@eU .u8 8)) r ∧ τ = σ) := (item_All_app H σ).unapp (fun ρ κ => cutL_enc (enc_u td5 sz5).cut ρ κ r)
end Go.Proofs.YtgfedohhkbmobaaDoor
namespace Go.Proofs.YtgfedohhkbmobaaDoor
open Go Go.Va
set_option linter.unusedVariables false
set_option linter.unusedSimpArgs false
set_option maxRecDepth 20000
theorem butterylaw06_ItemBack_ok {x0 : List api_Entry} {x1 : List (BitVec 8)} {r : Bool} (H : butterylaw06_ItemBack x0 x1 = some r) (σ : St)  (hg : σ.gl = gls) : ACall Tryd.prog 11 [((eL 5 e_api_Entry) x0), ((eL 1 (@eU .u8 8)) x1)] σ (fun a τ => a = eB r ∧ τ = σ) := by
  unfold butterylaw06_ItemBack at H
  refine ACall.pure (acall_start tk Tryd.func11 (by decide) rfl (Nat.le_of_ble_eq_true rfl) ?_)
  have hH := Holds.init σ
  refine awp_seq ?_
  refine awp_region rfl ?_
  refine wpo_mv (a := (eB false)) rfl rfl rfl (o_as tk rfl (Wk.refl _)) ?_
  refine wpo_nil ?_
  refine awp_seq ?_
  refine awp_seq ?_
  obtain ⟨s1, hs3, hj4⟩ := Option.bind_eq_some_iff.1 H
  refine awp_cutn (fun fr τ => WkF fr (fm [(0, ((eL 5 e_api_Entry) x0)), (1, ((eL 1 (@eU .u8 8)) x1)), (17, (eB s1))]) ∧ Holds σ [] [] τ) ?_ ?_
  · rintro fr τ ⟨hfr, hH⟩
    have H14 := hj4
    refine AWP.fm [(0, ((eL 5 e_api_Entry) x0)), (1, ((eL 1 (@eU .u8 8)) x1)), (17, (eB s1))] hfr ?_
    refine awp_if H14 rfl (fun H15 => ?_) (fun H15 => ?_)
    · refine awp_seq ?_
      refine awp_region rfl ?_
      refine wpo_bdr H15 eB rfl rfl rfl (fun v17 hv => h_callr rfl rfl .nil (butterylaw06_works_ok hv _ (hH.gl.trans hg))) fun v17 hv17 H16 => ?_
      refine wpo_mv (a := (eB v17)) rfl rfl rfl (o_as tk rfl (Wk.refl _)) ?_
      refine wpo_nil ?_
      refine awp_ret ?_
      obtain rfl := Option.some.inj H16
      exact ⟨_, (eB v17), rfl, (.of_eq rfl), .of_eq ((enc_b td4 sz4).cut _ _ _), hH.noT⟩
    · refine awp_skip ?_
      refine awp_seq ?_
      refine awp_region rfl ?_
      refine wpo_mv (a := ((eL 1 (@eU .u8 8)) x1)) rfl rfl rfl (o_mv tk rfl (Wk.refl _)) ?_
      refine wpo_bdr H15 (fun r => .tup [(eL 5 e_api_Entry) r.1, eErr r.2]) rfl rfl rfl (fun v19 hv => h_callr rfl rfl (.cons (.of_eq rfl) .nil) (item_Read_ok hv _ (hH.gl.trans hg))) fun v19 hv19 H18 => ?_
      refine wpo_mv (a := (.tup [((eL 5 e_api_Entry) v19.1), (eErr v19.2)])) rfl rfl rfl (o_mv tk rfl (Wk.refl _)) ?_
      refine wpo_mv (a := ((eL 5 e_api_Entry) v19.1)) rfl rfl rfl (o_ext tk rfl rfl) ?_
      refine wpo_mv (a := (eErr v19.2)) rfl rfl rfl (o_ext tk rfl rfl) ?_
      refine wpo_mv (a := ((eL 5 e_api_Entry) v19.1)) rfl rfl rfl (o_as tk rfl (Wk.refl _)) ?_
      refine wpo_mv (a := (eErr v19.2)) rfl rfl rfl (o_as tk rfl (Wk.refl _)) ?_
      refine wpo_nil ?_
      refine awp_seq ?_
      refine awp_seq ?_
      obtain ⟨s20, hs22, hj23⟩ := Option.bind_eq_some_iff.1 H18
      refine awp_cutn (fun fr τ => WkF fr (fm [(0, ((eL 5 e_api_Entry) x0)), (32, (eB s20))]) ∧ Holds σ [] [] τ) ?_ ?_
      · rintro fr τ ⟨hfr, hH⟩
        have H33 := hj23
        refine AWP.fm [(0, ((eL 5 e_api_Entry) x0)), (32, (eB s20))] hfr ?_
        refine awp_if H33 rfl (fun H34 => ?_) (fun H34 => ?_)
        · refine awp_seq ?_
          refine awp_region rfl ?_
          refine wpo_mv (a := (eB false)) rfl rfl rfl (o_as tk rfl (Wk.refl _)) ?_
          refine wpo_nil ?_
          refine awp_ret ?_
          obtain rfl := Option.some.inj H34
          exact ⟨_, (eB false), rfl, (.of_eq rfl), .of_eq ((enc_b td4 sz4).cut _ _ _), hH.noT⟩
        · refine awp_skip ?_
          refine awp_seq ?_
          refine awp_seq ?_
          refine awp_region rfl ?_
          refine wpo_mv (a := (eI (0 : Int))) rfl rfl rfl (o_as tk rfl (Wk.refl _)) ?_
          refine wpo_nil ?_
          refine awp_block ?_
          obtain ⟨o36, hs37, hj38⟩ := Option.bind_eq_some_iff.1 H34
          refine awp_cutx 0 (fun fr τ => ∃ s43 : Unit, o36 = .inl s43 ∧ WkF fr (fm [(0, ((eL 5 e_api_Entry) x0))]) ∧ Holds σ [] [] τ) ?_ ?_
          · rintro fr τ ⟨s43, rfl, hfr, hH⟩
            have H62 := hj38
            simp only [Sum.elim_inl] at H62
            refine AWP.fm [(0, ((eL 5 e_api_Entry) x0))] hfr ?_
            refine awp_seq ?_
            refine awp_region rfl ?_
            refine wpo_mv (a := ((eL 5 e_api_Entry) x0)) rfl rfl rfl (o_mv tk rfl (Wk.refl _)) ?_
            refine wpo_bd H62 (eL 1 (@eU .u8 8)) rfl rfl rfl (fun v64 hv => OpP.of_call rfl rfl (.cons (.of_eq rfl) .nil) (item_All_ok hv)) fun v64 hv64 H63 => ?_
            refine wpo_bdr H63 (fun r => .tup [(eL 5 e_api_Entry) r.1, eErr r.2]) rfl rfl rfl (fun v66 hv => h_callr rfl rfl (.cons (.of_eq rfl) .nil) (item_Read_ok hv _ (hH.gl.trans hg))) fun v66 hv66 H65 => ?_
            refine wpo_mv (a := (.tup [((eL 5 e_api_Entry) v66.1), (eErr v66.2)])) rfl rfl rfl (o_mv tk rfl (Wk.refl _)) ?_
            refine wpo_mv (a := ((eL 5 e_api_Entry) v66.1)) rfl rfl rfl (o_ext tk rfl rfl) ?_
            refine wpo_mv (a := (eErr v66.2)) rfl rfl rfl (o_ext tk rfl rfl) ?_
            refine wpo_mv (a := ((eL 5 e_api_Entry) v66.1)) rfl rfl rfl (o_as tk rfl (Wk.refl _)) ?_
            refine wpo_mv (a := (eErr v66.2)) rfl rfl rfl (o_as tk rfl (Wk.refl _)) ?_
            refine wpo_nil ?_
            refine awp_seq ?_
            refine awp_region rfl ?_
            refine wpo_mv (a := (eErr v66.2)) rfl rfl rfl (o_mv tk rfl (Wk.refl _)) ?_
            refine wpo_lt H65 eB rfl rfl rfl (o_err_eql tk rfl rfl rfl) fun v68 H67 => ?_
            refine wpo_mv (a := (eB v68)) rfl rfl rfl (o_mv tk rfl (Wk.refl _)) ?_
            refine if_split H67 (fun hb H69 => ?_) (fun hb H69 => ?_)
            · subst hb
              refine wpo_mv (a := ((eL 5 e_api_Entry) v66.1)) rfl rfl rfl (o_mv tk rfl (Wk.refl _)) ?_
              refine wpo_mv (a := ((eL 5 e_api_Entry) x0)) rfl rfl rfl (o_mv tk rfl (Wk.refl _)) ?_
              refine wpo_bd H69 eB rfl rfl rfl (fun v71 hv => OpP.of_call rfl rfl (.cons (.of_eq rfl) (.cons (.of_eq rfl) .nil)) (butteryref06_SameAll_ok hv)) fun v71 hv71 H70 => ?_
              refine wpo_mv (a := (eB v71)) rfl rfl rfl (o_pick_t tk rfl rfl (Wk.refl _)) ?_
              refine wpo_mv (a := (eB v71)) rfl rfl rfl (o_mv tk rfl (Wk.refl _)) ?_
              refine if_split H70 (fun hb H72 => ?_) (fun hb H72 => ?_)
              · subst hb
                refine wpo_bdr H72 eB rfl rfl rfl (fun v74 hv => h_callr rfl rfl .nil (butterylaw06_works_ok hv _ (hH.gl.trans hg))) fun v74 hv74 H73 => ?_
                refine wpo_mv (a := (eB v74)) rfl rfl rfl (o_pick_t tk rfl rfl (Wk.refl _)) ?_
                refine wpo_mv (a := (eB v74)) rfl rfl rfl (o_as tk rfl (Wk.refl _)) ?_
                refine wpo_nil ?_
                refine awp_ret ?_
                obtain rfl := Option.some.inj H73
                exact ⟨_, (eB v74), rfl, (.of_eq rfl), .of_eq ((enc_b td4 sz4).cut _ _ _), hH.noT⟩
              · subst hb
                refine wpo_skip rfl rfl rfl ?_
                refine wpo_mv (a := (eB false)) rfl rfl rfl (o_pick_f tk rfl rfl (Wk.refl _)) ?_
                refine wpo_mv (a := (eB false)) rfl rfl rfl (o_as tk rfl (Wk.refl _)) ?_
                refine wpo_nil ?_
                refine awp_ret ?_
                obtain rfl := Option.some.inj H72
                exact ⟨_, (eB false), rfl, (.of_eq rfl), .of_eq ((enc_b td4 sz4).cut _ _ _), hH.noT⟩
            · subst hb
              refine wpo_skip rfl rfl rfl ?_
              refine wpo_skip rfl rfl rfl ?_
              refine wpo_skip rfl rfl rfl ?_
              refine wpo_mv (a := (eB false)) rfl rfl rfl (o_pick_f tk rfl rfl (Wk.refl _)) ?_
              refine wpo_mv (a := (eB false)) rfl rfl rfl (o_mv tk rfl (Wk.refl _)) ?_
              refine wpo_skip rfl rfl rfl ?_
              refine wpo_mv (a := (eB false)) rfl rfl rfl (o_pick_f tk rfl rfl (Wk.refl _)) ?_
              refine wpo_mv (a := (eB false)) rfl rfl rfl (o_as tk rfl (Wk.refl _)) ?_
              refine wpo_nil ?_
              refine awp_ret ?_
              obtain rfl := Option.some.inj H69
              exact ⟨_, (eB false), rfl, (.of_eq rfl), .of_eq ((enc_b td4 sz4).cut _ _ _), hH.noT⟩
          · refine awp_loopO (body := fun s => butterylaw06_ItemBack_b0 x0 s) hs37 (fun (s : Int) fr τ => WkF fr (fm [(0, ((eL 5 e_api_Entry) x0)), (7, (eI s))]) ∧ Holds σ [] [] τ) ⟨(wkf_cons (.of_eq rfl) (wkf_cons (.of_eq rfl) (wkf_nil _))), hH⟩ ?_
            rintro c35 fr τ y39 ⟨hfr, hH⟩ hb41 hy42
            have H44 : butterylaw06_ItemBack_b0 x0 c35 = some y39 := hb41
            unfold butterylaw06_ItemBack_b0 at H44
            refine AWP.fm [(0, ((eL 5 e_api_Entry) x0)), (7, (eI c35))] hfr ?_
            have hH : Holds σ [] [] τ := hH
            refine awp_seq ?_
            refine awp_seq ?_
            refine awp_region rfl ?_
            refine wpo_mv (a := (eI c35)) rfl rfl rfl (o_mv tk rfl (Wk.refl _)) ?_
            refine wpo_mv (a := ((eL 5 e_api_Entry) x0)) rfl rfl rfl (o_mv tk rfl (Wk.refl _)) ?_
            refine wpo_lt H44 eI rfl rfl rfl (o_len tk td52 rfl) fun v46 H45 => ?_
            refine wpo_lt H45 eB rfl rfl rfl (o_ar tk rfl rfl rfl) fun v48 H47 => ?_
            refine wpo_nil ?_
            refine awp_if H47 rfl (fun H49 => ?_) (fun H49 => ?_)
            · refine awp_skip ?_
              refine awp_seq ?_
              refine awp_block ?_
              refine awp_seq ?_
              refine awp_region rfl ?_
              refine wpo_mv (a := ((eL 5 e_api_Entry) x0)) rfl rfl rfl (o_mv tk rfl (Wk.refl _)) ?_
              refine wpo_mv (a := (eI c35)) rfl rfl rfl (o_mv tk rfl (Wk.refl _)) ?_
              refine wpo_bd H49 (fun y => .fptr (e_api_Entry y).cells 0) rfl rfl rfl (fun v51 hv => o_ixa tk hv td52 enc50 rfl rfl) fun v51 hv51 H50 => ?_
              refine wpo_mv (a := (e_api_Entry v51)) rfl rfl rfl (o_ld_e tk enc50 rfl rfl) ?_
              refine wpo_bd H50 eI rfl rfl rfl (fun v53 hv => OpP.of_call rfl rfl (.cons (.of_eq rfl) .nil) (butteryref06_Check_ok hv)) fun v53 hv53 H52 => ?_
              refine wpo_lt H52 eB rfl rfl rfl (o_ar tk rfl rfl rfl) fun v55 H54 => ?_
              refine wpo_nil ?_
              refine awp_if H54 rfl (fun H56 => ?_) (fun H56 => ?_)
              · refine awp_seq ?_
                refine awp_region rfl ?_
                refine wpo_bdr H56 eB rfl rfl rfl (fun v58 hv => h_callr rfl rfl .nil (butterylaw06_works_ok hv _ (hH.gl.trans hg))) fun v58 hv58 H57 => ?_
                refine wpo_mv (a := (eB v58)) rfl rfl rfl (o_as tk rfl (Wk.refl _)) ?_
                refine wpo_nil ?_
                refine awp_ret ?_
                have hz := hy42 _ (inj_inr H57)
                refine ⟨⟨_, inj_inr H57⟩, ?_⟩
                rw [← hz] at hj38
                have H59 := (show some _ = some _ from hj38)
                obtain rfl := Option.some.inj H59
                exact ⟨_, (eB v58), rfl, (.of_eq rfl), .of_eq ((enc_b td4 sz4).cut _ _ _), hH.noT⟩
              · refine awp_skip ?_
                refine awp_region rfl ?_
                refine wpo_mv (a := (eI c35)) rfl rfl rfl (o_mv tk rfl (Wk.refl _)) ?_
                refine wpo_lt H56 eI rfl rfl rfl (o_ar tk rfl rfl rfl) fun v61 H60 => ?_
                refine wpo_mv (a := (eI v61)) rfl rfl rfl (o_as tk rfl (Wk.refl _)) ?_
                refine wpo_nil ?_
                exact ⟨v61, inj_inl H60, (wkf_cons (.of_eq rfl) (wkf_cons (.of_eq rfl) (wkf_nil _))), hH⟩
            · refine awp_exit ?_
              have hz := hy42 _ (inj_inr H49)
              exact ⟨⟨_, inj_inr H49⟩, (), hz.symm, (wkf_cons (.of_eq rfl) (wkf_nil _)), hH⟩
      · refine awp_region rfl ?_
        refine wpo_mv (a := (eErr v19.2)) rfl rfl rfl (o_mv tk rfl (Wk.refl _)) ?_
        refine wpo_lt hs22 eB rfl rfl rfl (o_err_eql tk rfl rfl rfl) fun v25 H24 => ?_
        refine wpo_mv (a := (eB v25)) rfl rfl rfl (o_mv tk rfl (Wk.refl _)) ?_
        refine if_split H24 (fun hb H26 => ?_) (fun hb H26 => ?_)
        · subst hb
          refine wpo_mv (a := ((eL 5 e_api_Entry) v19.1)) rfl rfl rfl (o_mv tk rfl (Wk.refl _)) ?_
          refine wpo_bd H26 (eL 1 (@eU .u8 8)) rfl rfl rfl (fun v28 hv => OpP.of_call rfl rfl (.cons (.of_eq rfl) .nil) (item_All_ok hv)) fun v28 hv28 H27 => ?_
          refine wpo_mv (a := ((eL 1 (@eU .u8 8)) x1)) rfl rfl rfl (o_mv tk rfl (Wk.refl _)) ?_
          refine wpo_bd H27 eB rfl rfl rfl (fun v30 hv => OpP.of_call rfl rfl (.cons (.of_eq rfl) (.cons (.of_eq rfl) .nil)) (butteryref02_Same_ok hv)) fun v30 hv30 H29 => ?_
          refine wpo_lt H29 eB rfl rfl rfl (o_un tk rfl rfl) fun v32 H31 => ?_
          refine wpo_mv (a := (eB v32)) rfl rfl rfl (o_pick_t tk rfl rfl (Wk.refl _)) ?_
          refine wpo_nil ?_
          have e := Option.some.inj H31
          subst e
          exact ⟨(wkf_cons (.of_eq rfl) (wkf_cons (.of_eq rfl) (wkf_nil _))), hH⟩
        · subst hb
          refine wpo_skip rfl rfl rfl ?_
          refine wpo_skip rfl rfl rfl ?_
          refine wpo_skip rfl rfl rfl ?_
          refine wpo_skip rfl rfl rfl ?_
          refine wpo_skip rfl rfl rfl ?_
          refine wpo_mv (a := (eB false)) rfl rfl rfl (o_pick_f tk rfl rfl (Wk.refl _)) ?_
          refine wpo_nil ?_
          have e := Option.some.inj H26
          subst e
          exact ⟨(wkf_cons (.of_eq rfl) (wkf_cons (.of_eq rfl) (wkf_nil _))), hH⟩
  · refine awp_region rfl ?_
    refine wpo_mv (a := ((eL 5 e_api_Entry) x0)) rfl rfl rfl (o_mv tk rfl (Wk.refl _)) ?_
    refine wpo_bd hs3 eI rfl rfl rfl (fun v6 hv => OpP.of_call rfl rfl (.cons (.of_eq rfl) .nil) (butterylaw06_Light_ok hv)) fun v6 hv6 H5 => ?_
    refine wpo_lt H5 eB rfl rfl rfl (o_ar tk rfl rfl rfl) fun v8 H7 => ?_
    refine wpo_mv (a := (eB v8)) rfl rfl rfl (o_mv tk rfl (Wk.refl _)) ?_
    refine if_split H7 (fun hb H9 => ?_) (fun hb H9 => ?_)
    · subst hb
      refine wpo_skip rfl rfl rfl ?_
      refine wpo_skip rfl rfl rfl ?_
      refine wpo_skip rfl rfl rfl ?_
      refine wpo_mv (a := (eB true)) rfl rfl rfl (o_pick_t tk rfl rfl (Wk.refl _)) ?_
      refine wpo_nil ?_
      have e := Option.some.inj H9
      subst e
      exact ⟨(wkf_cons (.of_eq rfl) (wkf_cons (.of_eq rfl) (wkf_cons (.of_eq rfl) (wkf_nil _)))), hH⟩
    · subst hb
      refine wpo_mv (a := ((eL 1 (@eU .u8 8)) x1)) rfl rfl rfl (o_mv tk rfl (Wk.refl _)) ?_
      refine wpo_lt H9 eI rfl rfl rfl (o_len tk td22 rfl) fun v11 H10 => ?_
      refine wpo_lt H10 eB rfl rfl rfl (o_ar tk rfl rfl rfl) fun v13 H12 => ?_
      refine wpo_mv (a := (eB v13)) rfl rfl rfl (o_pick_f tk rfl rfl (Wk.refl _)) ?_
      refine wpo_nil ?_
      have e := Option.some.inj H12
      subst e
      exact ⟨(wkf_cons (.of_eq rfl) (wkf_cons (.of_eq rfl) (wkf_cons (.of_eq rfl) (wkf_nil _)))), hH⟩
end Go.Proofs.YtgfedohhkbmobaaDoor
namespace Go.Va
open Go
set_option linter.unusedVariables false
set_option linter.unusedSimpArgs false
theorem shr64_nat {n m : Nat} (h : m ≤ 64) : shr64 (n : Int) m = ((n / 2 ^ m : Nat) : Int) := by
  unfold shr64
  rw [Nat.min_eq_left h]
  have : (2 : Int) ^ m = ((2 ^ m : Nat) : Int) := by simp
  rw [this, Int.fdiv_eq_ediv_of_nonneg _ (Int.natCast_nonneg _), ← Int.natCast_ediv]
theorem quo64_nat {n m : Nat} (h : n < 9223372036854775808) : quo64 (n : Int) (m : Int) = ((n / m : Nat) : Int) := by
  unfold quo64
  have := Nat.div_le_self n m
  rw [Int.tdiv_eq_ediv_of_nonneg (Int.natCast_nonneg _), ← Int.natCast_ediv]
  generalize n / m = q at *
  exact w64_eq (by omega) (by omega)
theorem tmod_nat (n m : Nat) : Int.tmod (n : Int) (m : Int) = ((n % m : Nat) : Int) := by
  rw [Int.tmod_eq_emod_of_nonneg (Int.natCast_nonneg _)]; rfl
theorem or_low (a b : Nat) (h : b < 128) : a * 128 ||| b = a * 128 + b := by
  have := Nat.two_pow_add_eq_or_of_lt (i := 7) (b := b) (by omega) a
  rw [show 2 ^ 7 * a + b = a * 128 + b by omega, show 2 ^ 7 * a = a * 128 by omega] at this
  exact this.symm
theorem or64_nat {a b : Nat} (ha : a < 9223372036854775808) (hb : b < 9223372036854775808) : or64 (a : Int) (b : Int) = ((a ||| b : Nat) : Int) := by
  have h : a ||| b < 2 ^ 63 := Nat.or_lt_two_pow (by omega) (by omega)
  show w64 ((BitVec.ofInt 64 (a : Int) ||| BitVec.ofInt 64 (b : Int) : BitVec 64).toNat : Int) = _
  rw [BitVec.toNat_or, BitVec.toNat_ofInt, BitVec.toNat_ofInt]
  have e1 : ((a : Int) % ((2 ^ 64 : Nat) : Int)).toNat = a := by omega
  have e2 : ((b : Int) % ((2 ^ 64 : Nat) : Int)).toNat = b := by omega
  rw [e1, e2, w64_eq (by omega) (by omega)]
theorem shl64_7 {a : Nat} (ha : a < 72057594037927936) : shl64 (a : Int) 7 = ((a * 128 : Nat) : Int) := by
  unfold shl64
  rw [w64_eq] <;> simp <;> omega
theorem or64_7 {a b : Nat} (ha : a < 72057594037927936) (hb : b < 128) : or64 (shl64 (a : Int) 7) (b : Int) = ((a * 128 + b : Nat) : Int) := by
  rw [shl64_7 ha, or64_nat (by omega) (by omega), or_low a b hb]
theorem byte_and (x : BitVec 8) : (x &&& 127#8).toNat = x.toNat % 128 := by
  rw [BitVec.toNat_and, show (127#8).toNat = 2 ^ 7 - 1 from rfl, Nat.and_two_pow_sub_one_eq_mod]
theorem byte_or (x : BitVec 8) : x ||| 128#8 = BitVec.ofNat 8 (x.toNat % 128 + 128) := by
  have : ∀ y : Fin 256, (BitVec.ofFin y : BitVec 8) ||| 128#8 = BitVec.ofNat 8 ((BitVec.ofFin y : BitVec 8).toNat % 128 + 128) := by decide +kernel
  exact this x.toFin
theorem byte_and' (x : BitVec 8) : x &&& 127#8 = BitVec.ofNat 8 (x.toNat % 128) := by
  apply BitVec.eq_of_toNat_eq
  rw [byte_and]; simp
  have := x.isLt
  omega
theorem byte_int (n : Nat) : BitVec.ofInt 8 (n : Int) = BitVec.ofNat 8 n := by
  apply BitVec.eq_of_toNat_eq
  simp [BitVec.toNat_ofInt]
theorem byte_hi (n : Nat) : BitVec.ofInt 8 (n : Int) ||| 128#8 = BitVec.ofNat 8 (n % 128 + 128) := by
  rw [byte_int, byte_or]; congr 1; simp
theorem byte_lo (n : Nat) : BitVec.ofInt 8 (n : Int) &&& 127#8 = BitVec.ofNat 8 (n % 128) := by
  rw [byte_int, byte_and']; congr 1; simp
/-! ### seven bits a byte -/
/-- The bytes that go on. -/
def pre (m : Nat) : List (BitVec 8) := if m = 0 then [] else pre (m / 128) ++ [BitVec.ofNat 8 (m % 128 + 128)]
termination_by m
decreasing_by omega
def num7 (n : Nat) : List (BitVec 8) := pre (n / 128) ++ [BitVec.ofNat 8 (n % 128)]
theorem pre_zero : pre 0 = [] := by rw [pre]; rfl
theorem pre_pos {m : Nat} (h : 0 < m) : pre m = pre (m / 128) ++ [BitVec.ofNat 8 (m % 128 + 128)] := by
  rw [pre, if_neg (by omega)]
theorem pre_len : ∀ (k m : Nat), m < 128 ^ k → (pre m).length ≤ k
  | 0, m, h => by
    have : m = 0 := by simpa using h
    subst this; rw [pre_zero]; simp
  | k + 1, m, h => by
    by_cases h0 : m = 0
    · subst h0; rw [pre_zero]; simp
    · rw [pre_pos (by omega)]
      have := pre_len k (m / 128) (by rw [Nat.div_lt_iff_lt_mul (by decide)]; rw [Nat.pow_succ] at h; exact h)
      simp; exact this
theorem num7_len {n : Nat} (h : n < 9223372036854775808) : (num7 n).length ≤ 9 := by
  have := pre_len 8 (n / 128) (by omega)
  simp [num7]; omega
theorem num7_small {n : Nat} (h : n < 128) : num7 n = [BitVec.ofNat 8 n] := by
  rw [num7, show n / 128 = 0 by omega, pre_zero, Nat.mod_eq_of_lt h]; rfl
/-- The same from the highest one on. -/
def seq7 (n : Nat) : Nat → List (BitVec 8)
  | 0 => []
  | c + 1 => BitVec.ofNat 8 (n / 128 ^ (c + 1) % 128 + 128) :: seq7 n c
theorem seq7_snoc (n : Nat) : ∀ c, seq7 n (c + 1) = seq7 (n / 128) c ++ [BitVec.ofNat 8 (n / 128 % 128 + 128)]
  | 0 => by simp [seq7]
  | c + 1 => by
    rw [seq7, seq7_snoc n c, seq7]
    simp only [List.cons_append]
    rw [Nat.div_div_eq_div_mul, ← Nat.pow_succ']
theorem seq7_pre : ∀ (h n : Nat), n / 128 ^ h < 128 → (∀ j, j < h → 128 ≤ n / 128 ^ j) → seq7 n h = pre (n / 128)
  | 0, n, h1, h2 => by
    rw [show n / 128 = 0 by simp at h1; omega, pre_zero]; rfl
  | h + 1, n, h1, h2 => by
    have h0 := h2 0 (by omega)
    simp at h0
    rw [seq7_snoc, pre_pos (by omega), seq7_pre h (n / 128) (by rw [Nat.div_div_eq_div_mul, ← Nat.pow_succ']; exact h1) (fun j hj => by
      rw [Nat.div_div_eq_div_mul, ← Nat.pow_succ']; exact h2 (j + 1) (by omega))]
/-- How many bytes. -/
def nlen (n : Nat) : Nat := if n < 128 then 1 else nlen (n / 128) + 1
termination_by n
decreasing_by omega
theorem nlen_lt {n : Nat} (h : n < 128) : nlen n = 1 := by rw [nlen, if_pos h]
theorem nlen_ge {n : Nat} (h : 128 ≤ n) : nlen n = nlen (n / 128) + 1 := by rw [nlen, if_neg (by omega)]
/-! ### reading -/
def up7 : Int ⊕ (Nat × Nat) → Int ⊕ (Nat × Nat)
  | .inl e => .inl e
  | .inr (m, k) => .inr (m, k + 1)
/-- What a number is that begins here, and how many bytes it has; or what is wrong first. -/
def rd7 (most : Nat) : List (BitVec 8) → Bool → Nat → Int ⊕ (Nat × Nat)
  | [], _, _ => .inl 6
  | c :: l, f, n =>
    if c = 128#8 ∧ f = true then .inl 5 else if most / 128 < n then .inl 2 else
    if 128 ≤ c.toNat then up7 (rd7 most l false (n * 128 + c.toNat % 128))
    else if most < n * 128 + c.toNat then .inl 2 else .inr (n * 128 + c.toNat, 1)
theorem rd7_le {most : Nat} : ∀ {l : List (BitVec 8)} {f : Bool} {n m k : Nat}, rd7 most l f n = .inr (m, k) → m ≤ most ∧ 1 ≤ k ∧ k ≤ l.length
  | [], f, n, m, k, h => by simp [rd7] at h
  | c :: l, f, n, m, k, h => by
    simp only [rd7] at h
    split at h
    · cases h
    · split at h
      · cases h
      · split at h
        · cases hr : rd7 most l false (n * 128 + c.toNat % 128) with
          | inl e => rw [hr] at h; cases h
          | inr p =>
            obtain ⟨m', k'⟩ := p
            rw [hr] at h
            simp only [up7, Sum.inr.injEq, Prod.mk.injEq] at h
            obtain ⟨rfl, rfl⟩ := h
            have := rd7_le hr
            simp; omega
        · split at h
          · cases h
          · simp only [Sum.inr.injEq, Prod.mk.injEq] at h
            obtain ⟨rfl, rfl⟩ := h
            simp; omega
end Go.Va
namespace Go.Proofs.YtgfedohhkbmobaaDoor
open Go Go.Va
set_option linter.unusedVariables false
set_option linter.unusedSimpArgs false
set_option maxRecDepth 20000
noncomputable def octets_Word_b0 (x1 : BitVec 64) (c5 : List (BitVec 8)) (c6 : Int) : Option (((List (BitVec 8)) × Int) ⊕ ((List (BitVec 8)))) :=
  lt (decide (c6 ≥ (0 : Int))) fun v17 =>
  if v17 = true then
    ((sc c6).map fun m => x1 >>> m).bind fun v20 =>
    lt (BitVec.setWidth 8 v20) fun v22 =>
    lt (([v22] : List (BitVec 8))) fun v24 =>
    (app 1 c5 v24).bind fun v26 =>
    lt (w64 (c6 - (8 : Int))) fun v30 =>
    some (.inl (v26, v30))
  else
    some (.inr c5)
noncomputable def octets_Word_l0 (x1 : BitVec 64) (s : (List (BitVec 8)) × Int) : Option ((List (BitVec 8))) := loopO (fun s => octets_Word_b0 x1 s.1 s.2) s
noncomputable def octets_Word (x0 : List (BitVec 8)) (x1 : BitVec 64) : Option ((List (BitVec 8))) :=
  (app 1 ([] : List (BitVec 8)) x0).bind fun v2 =>
  (octets_Word_l0 x1 (v2, (56 : Int))).bind fun s14 =>
    some s14
end Go.Proofs.YtgfedohhkbmobaaDoor
namespace Go.Proofs.YtgfedohhkbmobaaDoor
open Go Go.Va
set_option linter.unusedVariables false
set_option linter.unusedSimpArgs false
set_option maxRecDepth 20000
noncomputable def butteryref02_num_b0  (c9 : List (BitVec 8)) (c10 : Int) : Option (((List (BitVec 8)) × Int) ⊕ ((List (BitVec 8)))) :=
  lt (decide (c10 > (0 : Int))) fun v22 =>
  if v22 = true then
    lt (Int.tmod c10 (128 : Int)) fun v25 =>
    lt (w64 (v25 + (128 : Int))) fun v27 =>
    lt (BitVec.ofInt 8 v27) fun v29 =>
    lt (([v29] : List (BitVec 8))) fun v31 =>
    (app 1 v31 c9).bind fun v33 =>
    lt (quo64 c10 (128 : Int)) fun v37 =>
    some (.inl (v33, v37))
  else
    some (.inr c9)
noncomputable def butteryref02_num_l0  (s : (List (BitVec 8)) × Int) : Option ((List (BitVec 8))) := loopO (fun s => butteryref02_num_b0 s.1 s.2) s
noncomputable def butteryref02_num (x0 : Int) : Option ((List (BitVec 8))) :=
  lt (Int.tmod x0 (128 : Int)) fun v2 =>
  lt (BitVec.ofInt 8 v2) fun v4 =>
  lt (([v4] : List (BitVec 8))) fun v6 =>
  lt (quo64 x0 (128 : Int)) fun v8 =>
  (butteryref02_num_l0 (v6, v8)).bind fun s19 =>
    some s19
end Go.Proofs.YtgfedohhkbmobaaDoor
