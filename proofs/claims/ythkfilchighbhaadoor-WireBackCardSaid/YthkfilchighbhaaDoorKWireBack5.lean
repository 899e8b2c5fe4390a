/- THERE AND BACK: a message that may be is read as it was; bytes that are read are those of the message. (part 5 of 7) -/
import Derived.Test.YthkfilchighbhaaDoorKWireBack4
namespace Go.Proofs.YthkfilchighbhaaDoor
open Go Go.Va
set_option linter.unusedVariables false
set_option linter.unusedSimpArgs false
set_option maxRecDepth 20000
theorem trouble_Of_ok {x0 : Err} {r : Int} (H : trouble_Of x0 = some r) (σ : St) (hg : σ.gl = gls) : ACall Tryd.prog 12 [eErr x0] σ (fun a τ => a = eI r ∧ τ = σ) := by
  obtain rfl := Option.some.inj H
  refine ACall.pure (acall_start tk Tryd.func12 (by decide) rfl (Nat.le_of_ble_eq_true rfl) ?_)
  have hH := Holds.init σ
  refine awp_seq ?_
  refine awp_region rfl ?_
  refine wpo_mv (a := (eI (0 : Int))) rfl rfl rfl (o_as tk rfl (Wk.refl _)) ?_
  refine wpo_nil ?_
  refine awp_seq ?_
  refine awp_block ?_
  have hs := trouble_Of_l0 x0
  refine awp_cutx 0 (fun fr τ => codeOf x0 = 0 ∧ WkF fr (fm []) ∧ Holds σ [] [] τ) ?_ ?_
  · rintro fr τ ⟨h0, hfr, hH⟩
    refine AWP.fm [] hfr ?_
    refine awp_seq ?_
    refine awp_region rfl ?_
    refine wpo_mv (a := (eI 0)) rfl rfl rfl (o_as tk rfl (Wk.refl _)) ?_
    refine wpo_nil ?_
    refine awp_ret ?_
    rw [h0]
    exact ⟨_, (eI 0), rfl, (.of_eq rfl), .of_eq rfl, hH.noT⟩
  · refine awp_loopO (body := trouble_Of_b0) hs (fun (s : Err) fr τ => WkF fr (fm [(0, eErr s)]) ∧ Holds σ [] [] τ) ⟨(wkf_cons (.of_eq rfl) (wkf_nil _)), hH⟩ ?_
    rintro c1 fr τ y ⟨hfr, hH⟩ hb hy
    refine AWP.fm [(0, eErr c1)] hfr ?_
    cases c1 with
    | nil =>
      refine awp_seq ?_
      refine awp_seq ?_
      refine awp_region rfl ?_
      refine wpo_mv (a := eErr .nil) rfl rfl rfl (o_mv tk rfl (Wk.refl _)) ?_
      refine wpo_mv (a := eB false) rfl rfl rfl (o_err_neq (x := .nil) tk rfl rfl rfl) ?_
      refine wpo_nil ?_
      refine awp_false rfl ?_
      refine awp_exit ?_
      have hb : some (Sum.inr (Sum.inl ())) = some y := hb
      have hz := hy _ (Option.some.inj hb).symm
      refine ⟨⟨_, (Option.some.inj hb).symm⟩, ?_, (wkf_nil _), hH⟩
      split at hz
      · assumption
      · cases hz
    | fault o a c u =>
      refine awp_seq ?_
      refine awp_seq ?_
      refine awp_region rfl ?_
      refine wpo_mv (a := eErr (.fault o a c u)) rfl rfl rfl (o_mv tk rfl (Wk.refl _)) ?_
      refine wpo_mv (a := eB true) rfl rfl rfl (o_err_neq (x := .fault o a c u) tk rfl rfl rfl) ?_
      refine wpo_nil ?_
      refine awp_true rfl ?_
      refine awp_skip ?_
      refine awp_block ?_
      refine awp_seq ?_
      refine awp_region rfl ?_
      refine wpo_a (av := fun id => .ref id 0) rfl rfl rfl (h_alloc tk hH ty60 [.nilp] rfl) fun id τ ⟨hH, hn⟩ => ?_
      refine wpo_nil ?_
      refine awp_seq ?_
      refine awp_seq ?_
      refine awp_region rfl ?_
      refine wpo_mv (a := eErr (.fault o a c u)) rfl rfl rfl (o_mv tk rfl (Wk.refl _)) ?_
      refine wpo_mv (a := .iface 62 (.ref id 0)) rfl rfl rfl (o_c tk false rfl (fun _ => rfl)) ?_
      refine wpo_cb (α := Unit) (z := some ()) (k := fun _ => some ()) (r := ()) rfl (fun _ _ => eB true) rfl rfl rfl (fun v hv => h_call1 hH [(0, (id, [(Err.fault o a c u).ptr]))] ⟨⟨_, rfl⟩, trivial⟩ rfl rfl (.cons (.of_eq rfl) (.cons (.of_eq rfl) .nil)) (as_ok (x := .fault o a c u) rfl (hH.at_ 0 rfl) (hH.gl.trans hg))) fun _ _ τ _ _ hH => ?_
      refine wpo_mv (a := eB false) rfl rfl rfl (o_un tk rfl rfl) ?_
      refine wpo_nil ?_
      refine awp_false rfl ?_
      refine awp_skip ?_
      refine awp_seq ?_
      refine awp_seq ?_
      refine awp_region rfl ?_
      refine wpo_rd (a := (Err.fault o a c u).ptr) rfl rfl rfl (h_ld tk hH 0 rfl rfl rfl) ?_
      refine wpo_mv (a := (Err.fault o a c u).ptr) rfl rfl rfl (o_c tk false rfl (fun _ => rfl)) ?_
      refine wpo_mv (a := .fptr [eS o, eI a, eI c, eErr u] 2) rfl rfl rfl (o_c tk false rfl (fun _ => rfl)) ?_
      refine wpo_mv (a := eI c) rfl rfl rfl (o_ld tk rfl rfl) ?_
      refine wpo_mv (a := eB (c != 0)) rfl rfl rfl (o_ar tk rfl rfl rfl) ?_
      refine wpo_nil ?_
      have hb : (if (c != 0) = true then some (.inr (.inr c)) else some (.inl u)) = some y := hb
      refine awp_if hb rfl (fun hb => ?_) (fun hb => ?_)
      · refine awp_seq ?_
        refine awp_region rfl ?_
        refine wpo_rd (a := (Err.fault o a c u).ptr) rfl rfl rfl (h_ld tk hH 0 rfl rfl rfl) ?_
        refine wpo_mv (a := (Err.fault o a c u).ptr) rfl rfl rfl (o_c tk false rfl (fun _ => rfl)) ?_
        refine wpo_mv (a := .fptr [eS o, eI a, eI c, eErr u] 2) rfl rfl rfl (o_c tk false rfl (fun _ => rfl)) ?_
        refine wpo_mv (a := eI c) rfl rfl rfl (o_ld tk rfl rfl) ?_
        refine wpo_mv (a := eI c) rfl rfl rfl (o_as tk rfl (Wk.refl _)) ?_
        refine wpo_nil ?_
        refine awp_ret ?_
        have hz := hy _ (Option.some.inj hb).symm
        refine ⟨⟨_, (Option.some.inj hb).symm⟩, ?_⟩
        have hc : codeOf x0 = c := by
          split at hz
          · cases hz
          · exact Sum.inr.inj hz.symm
        rw [hc]
        exact ⟨_, (eI c), rfl, (.of_eq rfl), .of_eq rfl, (hH.noT.drop hn)⟩
      · refine awp_skip ?_
        refine awp_region rfl ?_
        refine wpo_rd (a := (Err.fault o a c u).ptr) rfl rfl rfl (h_ld tk hH 0 rfl rfl rfl) ?_
        refine wpo_mv (a := (Err.fault o a c u).ptr) rfl rfl rfl (o_c tk false rfl (fun _ => rfl)) ?_
        refine wpo_mv (a := .fptr [eS o, eI a, eI c, eErr u] 3) rfl rfl rfl (o_c tk false rfl (fun _ => rfl)) ?_
        refine wpo_mv (a := eErr u) rfl rfl rfl (o_ld tk rfl (by cases u <;> rfl)) ?_
        refine wpo_mv (a := eErr u) rfl rfl rfl (o_as tk rfl (Wk.refl _)) ?_
        refine wpo_nil ?_
        exact ⟨u, (Option.some.inj hb).symm, (wkf_cons (.of_eq rfl) (wkf_nil _)), hH.drop hn⟩
end Go.Proofs.YthkfilchighbhaaDoor
namespace Go.Proofs.YthkfilchighbhaaDoor
open Go Go.Va
set_option linter.unusedVariables false
set_option linter.unusedSimpArgs false
set_option maxRecDepth 20000
theorem wire_Same_ok {x0 : api_Msg} {x1 : api_Msg} {r : Bool} (H : wire_Same x0 x1 = some r) (σ : St)  : ACall Tryd.prog 15 [(e_api_Msg x0), (e_api_Msg x1)] σ (fun a τ => a = eB r ∧ τ = σ) := by
  unfold wire_Same at H
  refine ACall.pure (acall_start tk Tryd.func15 (by decide) rfl (Nat.le_of_ble_eq_true rfl) ?_)
  have hH := Holds.init σ
  refine awp_seq ?_
  refine awp_region rfl ?_
  refine wpo_mv (a := (.fptr (c_api_Msg x0) 0)) rfl rfl rfl (o_boxf tk rfl (.of_eq rfl) (b := (e_api_Msg x0)) (enc26.flat _)) ?_
  refine wpo_mv (a := (.fptr (c_api_Msg x1) 0)) rfl rfl rfl (o_boxf tk rfl (.of_eq rfl) (b := (e_api_Msg x1)) (enc26.flat _)) ?_
  refine wpo_mv (a := (eB false)) rfl rfl rfl (o_as tk rfl (Wk.refl _)) ?_
  refine wpo_nil ?_
  refine awp_seq ?_
  refine awp_region rfl ?_
  refine wpo_mv (a := (.fptr (c_api_Msg x0) 0)) rfl rfl rfl (o_c tk false rfl (fun _ => rfl)) ?_
  refine wpo_mv (a := (eI x0.Kind)) rfl rfl rfl (o_ld tk rfl rfl) ?_
  refine wpo_mv (a := (.fptr (c_api_Msg x1) 0)) rfl rfl rfl (o_c tk false rfl (fun _ => rfl)) ?_
  refine wpo_mv (a := (eI x1.Kind)) rfl rfl rfl (o_ld tk rfl rfl) ?_
  refine wpo_lt H eB rfl rfl rfl (o_ar tk rfl rfl rfl) fun v2 H1 => ?_
  refine wpo_mv (a := (eB v2)) rfl rfl rfl (o_mv tk rfl (Wk.refl _)) ?_
  refine if_split H1 (fun hb H3 => ?_) (fun hb H3 => ?_)
  · subst hb
    refine wpo_mv (a := (.fptr (c_api_Msg x0) 1)) rfl rfl rfl (o_c tk false rfl (fun _ => rfl)) ?_
    refine wpo_mv (a := (eI x0.From)) rfl rfl rfl (o_ld tk rfl rfl) ?_
    refine wpo_mv (a := (.fptr (c_api_Msg x1) 1)) rfl rfl rfl (o_c tk false rfl (fun _ => rfl)) ?_
    refine wpo_mv (a := (eI x1.From)) rfl rfl rfl (o_ld tk rfl rfl) ?_
    refine wpo_lt H3 eB rfl rfl rfl (o_ar tk rfl rfl rfl) fun v5 H4 => ?_
    refine wpo_mv (a := (eB v5)) rfl rfl rfl (o_pick_t tk rfl rfl (Wk.refl _)) ?_
    refine wpo_mv (a := (eB v5)) rfl rfl rfl (o_mv tk rfl (Wk.refl _)) ?_
    refine if_split H4 (fun hb H6 => ?_) (fun hb H6 => ?_)
    · subst hb
      refine wpo_mv (a := (.fptr (c_api_Msg x0) 2)) rfl rfl rfl (o_c tk false rfl (fun _ => rfl)) ?_
      refine wpo_mv (a := (eI x0.To)) rfl rfl rfl (o_ld tk rfl rfl) ?_
      refine wpo_mv (a := (.fptr (c_api_Msg x1) 2)) rfl rfl rfl (o_c tk false rfl (fun _ => rfl)) ?_
      refine wpo_mv (a := (eI x1.To)) rfl rfl rfl (o_ld tk rfl rfl) ?_
      refine wpo_lt H6 eB rfl rfl rfl (o_ar tk rfl rfl rfl) fun v8 H7 => ?_
      refine wpo_mv (a := (eB v8)) rfl rfl rfl (o_pick_t tk rfl rfl (Wk.refl _)) ?_
      refine wpo_mv (a := (eB v8)) rfl rfl rfl (o_mv tk rfl (Wk.refl _)) ?_
      refine if_split H7 (fun hb H9 => ?_) (fun hb H9 => ?_)
      · subst hb
        refine wpo_mv (a := (.fptr (c_api_Msg x0) 3)) rfl rfl rfl (o_c tk false rfl (fun _ => rfl)) ?_
        refine wpo_mv (a := (eI x0.Epoch)) rfl rfl rfl (o_ld tk rfl rfl) ?_
        refine wpo_mv (a := (.fptr (c_api_Msg x1) 3)) rfl rfl rfl (o_c tk false rfl (fun _ => rfl)) ?_
        refine wpo_mv (a := (eI x1.Epoch)) rfl rfl rfl (o_ld tk rfl rfl) ?_
        refine wpo_lt H9 eB rfl rfl rfl (o_ar tk rfl rfl rfl) fun v11 H10 => ?_
        refine wpo_mv (a := (eB v11)) rfl rfl rfl (o_pick_t tk rfl rfl (Wk.refl _)) ?_
        refine wpo_mv (a := (eB v11)) rfl rfl rfl (o_mv tk rfl (Wk.refl _)) ?_
        refine if_split H10 (fun hb H12 => ?_) (fun hb H12 => ?_)
        · subst hb
          refine wpo_mv (a := (.fptr (c_api_Msg x0) 4)) rfl rfl rfl (o_c tk false rfl (fun _ => rfl)) ?_
          refine wpo_mv (a := (eI x0.Id)) rfl rfl rfl (o_ld tk rfl rfl) ?_
          refine wpo_mv (a := (.fptr (c_api_Msg x1) 4)) rfl rfl rfl (o_c tk false rfl (fun _ => rfl)) ?_
          refine wpo_mv (a := (eI x1.Id)) rfl rfl rfl (o_ld tk rfl rfl) ?_
          refine wpo_lt H12 eB rfl rfl rfl (o_ar tk rfl rfl rfl) fun v14 H13 => ?_
          refine wpo_mv (a := (eB v14)) rfl rfl rfl (o_pick_t tk rfl rfl (Wk.refl _)) ?_
          refine wpo_mv (a := (eB v14)) rfl rfl rfl (o_mv tk rfl (Wk.refl _)) ?_
          refine if_split H13 (fun hb H15 => ?_) (fun hb H15 => ?_)
          · subst hb
            refine wpo_mv (a := (.fptr (c_api_Msg x0) 10)) rfl rfl rfl (o_c tk false rfl (fun _ => rfl)) ?_
            refine wpo_mv (a := (eB x0.Found)) rfl rfl rfl (o_ld tk rfl rfl) ?_
            refine wpo_mv (a := (.fptr (c_api_Msg x1) 10)) rfl rfl rfl (o_c tk false rfl (fun _ => rfl)) ?_
            refine wpo_mv (a := (eB x1.Found)) rfl rfl rfl (o_ld tk rfl rfl) ?_
            refine wpo_lt H15 eB rfl rfl rfl (o_bool_eql tk td4 rfl rfl) fun v17 H16 => ?_
            refine wpo_mv (a := (eB v17)) rfl rfl rfl (o_pick_t tk rfl rfl (Wk.refl _)) ?_
            refine wpo_mv (a := (eB v17)) rfl rfl rfl (o_mv tk rfl (Wk.refl _)) ?_
            refine if_split H16 (fun hb H18 => ?_) (fun hb H18 => ?_)
            · subst hb
              refine wpo_mv (a := (.fptr (c_api_Msg x0) 5)) rfl rfl rfl (o_c tk false rfl (fun _ => rfl)) ?_
              refine wpo_mv (a := (e_api_Entry x0.X)) rfl rfl rfl (o_ld tk rfl rfl) ?_
              refine wpo_mv (a := (.fptr (c_api_Msg x1) 5)) rfl rfl rfl (o_c tk false rfl (fun _ => rfl)) ?_
              refine wpo_mv (a := (e_api_Entry x1.X)) rfl rfl rfl (o_ld tk rfl rfl) ?_
              refine wpo_bd H18 eB rfl rfl rfl (fun v20 hv => OpP.of_call rfl rfl (.cons (.of_eq rfl) (.cons (.of_eq rfl) .nil)) (item_Same_ok hv)) fun v20 hv20 H19 => ?_
              refine wpo_mv (a := (eB v20)) rfl rfl rfl (o_pick_t tk rfl rfl (Wk.refl _)) ?_
              refine wpo_mv (a := (eB v20)) rfl rfl rfl (o_as tk rfl (Wk.refl _)) ?_
              refine wpo_nil ?_
              refine awp_ret ?_
              obtain rfl := Option.some.inj H19
              exact ⟨_, (eB v20), rfl, (.of_eq rfl), .of_eq ((enc_b td4 sz4).cut _ _ _), hH.noT⟩
            · subst hb
              refine wpo_skip rfl rfl rfl ?_
              refine wpo_skip rfl rfl rfl ?_
              refine wpo_skip rfl rfl rfl ?_
              refine wpo_skip rfl rfl rfl ?_
              refine wpo_skip rfl rfl rfl ?_
              refine wpo_mv (a := (eB false)) rfl rfl rfl (o_pick_f tk rfl rfl (Wk.refl _)) ?_
              refine wpo_mv (a := (eB false)) rfl rfl rfl (o_as tk rfl (Wk.refl _)) ?_
              refine wpo_nil ?_
              refine awp_ret ?_
              obtain rfl := Option.some.inj H18
              exact ⟨_, (eB false), rfl, (.of_eq rfl), .of_eq ((enc_b td4 sz4).cut _ _ _), hH.noT⟩
          · subst hb
            refine wpo_skip rfl rfl rfl ?_
            refine wpo_skip rfl rfl rfl ?_
            refine wpo_skip rfl rfl rfl ?_
            refine wpo_skip rfl rfl rfl ?_
            refine wpo_skip rfl rfl rfl ?_
            refine wpo_mv (a := (eB false)) rfl rfl rfl (o_pick_f tk rfl rfl (Wk.refl _)) ?_
            refine wpo_mv (a := (eB false)) rfl rfl rfl (o_mv tk rfl (Wk.refl _)) ?_
            refine wpo_skip rfl rfl rfl ?_
            refine wpo_skip rfl rfl rfl ?_
            refine wpo_skip rfl rfl rfl ?_
            refine wpo_skip rfl rfl rfl ?_
            refine wpo_skip rfl rfl rfl ?_
            refine wpo_mv (a := (eB false)) rfl rfl rfl (o_pick_f tk rfl rfl (Wk.refl _)) ?_
            refine wpo_mv (a := (eB false)) rfl rfl rfl (o_as tk rfl (Wk.refl _)) ?_
            refine wpo_nil ?_
            refine awp_ret ?_
            obtain rfl := Option.some.inj H15
            exact ⟨_, (eB false), rfl, (.of_eq rfl), .of_eq ((enc_b td4 sz4).cut _ _ _), hH.noT⟩
        · subst hb
          refine wpo_skip rfl rfl rfl ?_
          refine wpo_skip rfl rfl rfl ?_
          refine wpo_skip rfl rfl rfl ?_
          refine wpo_skip rfl rfl rfl ?_
          refine wpo_skip rfl rfl rfl ?_
          refine wpo_mv (a := (eB false)) rfl rfl rfl (o_pick_f tk rfl rfl (Wk.refl _)) ?_
          refine wpo_mv (a := (eB false)) rfl rfl rfl (o_mv tk rfl (Wk.refl _)) ?_
          refine wpo_skip rfl rfl rfl ?_
          refine wpo_skip rfl rfl rfl ?_
          refine wpo_skip rfl rfl rfl ?_
          refine wpo_skip rfl rfl rfl ?_
          refine wpo_skip rfl rfl rfl ?_
          refine wpo_mv (a := (eB false)) rfl rfl rfl (o_pick_f tk rfl rfl (Wk.refl _)) ?_
          refine wpo_mv (a := (eB false)) rfl rfl rfl (o_mv tk rfl (Wk.refl _)) ?_
          refine wpo_skip rfl rfl rfl ?_
          refine wpo_skip rfl rfl rfl ?_
          refine wpo_skip rfl rfl rfl ?_
          refine wpo_skip rfl rfl rfl ?_
          refine wpo_skip rfl rfl rfl ?_
          refine wpo_mv (a := (eB false)) rfl rfl rfl (o_pick_f tk rfl rfl (Wk.refl _)) ?_
          refine wpo_mv (a := (eB false)) rfl rfl rfl (o_as tk rfl (Wk.refl _)) ?_
          refine wpo_nil ?_
          refine awp_ret ?_
          obtain rfl := Option.some.inj H12
          exact ⟨_, (eB false), rfl, (.of_eq rfl), .of_eq ((enc_b td4 sz4).cut _ _ _), hH.noT⟩
      · subst hb
        refine wpo_skip rfl rfl rfl ?_
        refine wpo_skip rfl rfl rfl ?_
        refine wpo_skip rfl rfl rfl ?_
        refine wpo_skip rfl rfl rfl ?_
        refine wpo_skip rfl rfl rfl ?_
        refine wpo_mv (a := (eB false)) rfl rfl rfl (o_pick_f tk rfl rfl (Wk.refl _)) ?_
        refine wpo_mv (a := (eB false)) rfl rfl rfl (o_mv tk rfl (Wk.refl _)) ?_
        refine wpo_skip rfl rfl rfl ?_
        refine wpo_skip rfl rfl rfl ?_
        refine wpo_skip rfl rfl rfl ?_
        refine wpo_skip rfl rfl rfl ?_
        refine wpo_skip rfl rfl rfl ?_
        refine wpo_mv (a := (eB false)) rfl rfl rfl (o_pick_f tk rfl rfl (Wk.refl _)) ?_
        refine wpo_mv (a := (eB false)) rfl rfl rfl (o_mv tk rfl (Wk.refl _)) ?_
        refine wpo_skip rfl rfl rfl ?_
        refine wpo_skip rfl rfl rfl ?_
        refine wpo_skip rfl rfl rfl ?_
        refine wpo_skip rfl rfl rfl ?_
        refine wpo_skip rfl rfl rfl ?_
        refine wpo_mv (a := (eB false)) rfl rfl rfl (o_pick_f tk rfl rfl (Wk.refl _)) ?_
        refine wpo_mv (a := (eB false)) rfl rfl rfl (o_mv tk rfl (Wk.refl _)) ?_
        refine wpo_skip rfl rfl rfl ?_
        refine wpo_skip rfl rfl rfl ?_
        refine wpo_skip rfl rfl rfl ?_
        refine wpo_skip rfl rfl rfl ?_
        refine wpo_skip rfl rfl rfl ?_
        refine wpo_mv (a := (eB false)) rfl rfl rfl (o_pick_f tk rfl rfl (Wk.refl _)) ?_
        refine wpo_mv (a := (eB false)) rfl rfl rfl (o_as tk rfl (Wk.refl _)) ?_
        refine wpo_nil ?_
        refine awp_ret ?_
        obtain rfl := Option.some.inj H9
        exact ⟨_, (eB false), rfl, (.of_eq rfl), .of_eq ((enc_b td4 sz4).cut _ _ _), hH.noT⟩
    · subst hb
      refine wpo_skip rfl rfl rfl ?_
      refine wpo_skip rfl rfl rfl ?_
      refine wpo_skip rfl rfl rfl ?_
      refine wpo_skip rfl rfl rfl ?_
      refine wpo_skip rfl rfl rfl ?_
      refine wpo_mv (a := (eB false)) rfl rfl rfl (o_pick_f tk rfl rfl (Wk.refl _)) ?_
      refine wpo_mv (a := (eB false)) rfl rfl rfl (o_mv tk rfl (Wk.refl _)) ?_
      refine wpo_skip rfl rfl rfl ?_
      refine wpo_skip rfl rfl rfl ?_
      refine wpo_skip rfl rfl rfl ?_
      refine wpo_skip rfl rfl rfl ?_
      refine wpo_skip rfl rfl rfl ?_
      refine wpo_mv (a := (eB false)) rfl rfl rfl (o_pick_f tk rfl rfl (Wk.refl _)) ?_
      refine wpo_mv (a := (eB false)) rfl rfl rfl (o_mv tk rfl (Wk.refl _)) ?_
      refine wpo_skip rfl rfl rfl ?_
      refine wpo_skip rfl rfl rfl ?_
      refine wpo_skip rfl rfl rfl ?_
      refine wpo_skip rfl rfl rfl ?_
      refine wpo_skip rfl rfl rfl ?_
      refine wpo_mv (a := (eB false)) rfl rfl rfl (o_pick_f tk rfl rfl (Wk.refl _)) ?_
      refine wpo_mv (a := (eB false)) rfl rfl rfl (o_mv tk rfl (Wk.refl _)) ?_
      refine wpo_skip rfl rfl rfl ?_
      refine wpo_skip rfl rfl rfl ?_
      refine wpo_skip rfl rfl rfl ?_
      refine wpo_skip rfl rfl rfl ?_
      refine wpo_skip rfl rfl rfl ?_
      refine wpo_mv (a := (eB false)) rfl rfl rfl (o_pick_f tk rfl rfl (Wk.refl _)) ?_
      refine wpo_mv (a := (eB false)) rfl rfl rfl (o_mv tk rfl (Wk.refl _)) ?_
      refine wpo_skip rfl rfl rfl ?_
      refine wpo_skip rfl rfl rfl ?_
      refine wpo_skip rfl rfl rfl ?_
      refine wpo_skip rfl rfl rfl ?_
      refine wpo_skip rfl rfl rfl ?_
      refine wpo_mv (a := (eB false)) rfl rfl rfl (o_pick_f tk rfl rfl (Wk.refl _)) ?_
      refine wpo_mv (a := (eB false)) rfl rfl rfl (o_as tk rfl (Wk.refl _)) ?_
      refine wpo_nil ?_
      refine awp_ret ?_
      obtain rfl := Option.some.inj H6
      exact ⟨_, (eB false), rfl, (.of_eq rfl), .of_eq ((enc_b td4 sz4).cut _ _ _), hH.noT⟩
  · subst hb
    refine wpo_skip rfl rfl rfl ?_
    refine wpo_skip rfl rfl rfl ?_
    refine wpo_skip rfl rfl rfl ?_
    refine wpo_skip rfl rfl rfl ?_
    refine wpo_skip rfl rfl rfl ?_
    refine wpo_mv (a := (eB false)) rfl rfl rfl (o_pick_f tk rfl rfl (Wk.refl _)) ?_
    refine wpo_mv (a := (eB false)) rfl rfl rfl (o_mv tk rfl (Wk.refl _)) ?_
    refine wpo_skip rfl rfl rfl ?_
    refine wpo_skip rfl rfl rfl ?_
    refine wpo_skip rfl rfl rfl ?_
    refine wpo_skip rfl rfl rfl ?_
    refine wpo_skip rfl rfl rfl ?_
    refine wpo_mv (a := (eB false)) rfl rfl rfl (o_pick_f tk rfl rfl (Wk.refl _)) ?_
    refine wpo_mv (a := (eB false)) rfl rfl rfl (o_mv tk rfl (Wk.refl _)) ?_
    refine wpo_skip rfl rfl rfl ?_
    refine wpo_skip rfl rfl rfl ?_
    refine wpo_skip rfl rfl rfl ?_
    refine wpo_skip rfl rfl rfl ?_
    refine wpo_skip rfl rfl rfl ?_
    refine wpo_mv (a := (eB false)) rfl rfl rfl (o_pick_f tk rfl rfl (Wk.refl _)) ?_
    refine wpo_mv (a := (eB false)) rfl rfl rfl (o_mv tk rfl (Wk.refl _)) ?_
    refine wpo_skip rfl rfl rfl ?_
    refine wpo_skip rfl rfl rfl ?_
    refine wpo_skip rfl rfl rfl ?_
    refine wpo_skip rfl rfl rfl ?_
    refine wpo_skip rfl rfl rfl ?_
    refine wpo_mv (a := (eB false)) rfl rfl rfl (o_pick_f tk rfl rfl (Wk.refl _)) ?_
    refine wpo_mv (a := (eB false)) rfl rfl rfl (o_mv tk rfl (Wk.refl _)) ?_
    refine wpo_skip rfl rfl rfl ?_
    refine wpo_skip rfl rfl rfl ?_
    refine wpo_skip rfl rfl rfl ?_
    refine wpo_skip rfl rfl rfl ?_
    refine wpo_skip rfl rfl rfl ?_
    refine wpo_mv (a := (eB false)) rfl rfl rfl (o_pick_f tk rfl rfl (Wk.refl _)) ?_
    refine wpo_mv (a := (eB false)) rfl rfl rfl (o_mv tk rfl (Wk.refl _)) ?_
    refine wpo_skip rfl rfl rfl ?_
    refine wpo_skip rfl rfl rfl ?_
    refine wpo_skip rfl rfl rfl ?_
    refine wpo_skip rfl rfl rfl ?_
    refine wpo_skip rfl rfl rfl ?_
    refine wpo_mv (a := (eB false)) rfl rfl rfl (o_pick_f tk rfl rfl (Wk.refl _)) ?_
    refine wpo_mv (a := (eB false)) rfl rfl rfl (o_as tk rfl (Wk.refl _)) ?_
    refine wpo_nil ?_
    refine awp_ret ?_
    obtain rfl := Option.some.inj H3
    exact ⟨_, (eB false), rfl, (.of_eq rfl), .of_eq ((enc_b td4 sz4).cut _ _ _), hH.noT⟩
end Go.Proofs.YthkfilchighbhaaDoor
namespace Go.Proofs.YthkfilchighbhaaDoor
open Go Go.Va
set_option linter.unusedVariables false
set_option linter.unusedSimpArgs false
set_option maxRecDepth 20000
theorem octets_Put_app {x0 : List (BitVec 8)} {x1 : List Int} {r : (List (BitVec 8))} (H : octets_Put x0 x1 = some r) (σ : St)  : ACall Tryd.prog 22 [((eL 1 (@eU .u8 8)) x0), ((eL 1 eI) x1)] σ (fun a τ => a = .sl (.own σ.opn.length) 1 (r.map (@eU .u8 8)) ∧ τ = σ.more) := by
  unfold octets_Put at H
  refine ACall.app (fun ρ κ => cutL_enc (enc_u td5 sz5).cut ρ κ r) (acall_start tk Tryd.func22 (by decide) rfl (Nat.le_of_ble_eq_true rfl) ?_)
  have hH := Holds.init σ
  refine awp_seq ?_
  refine awp_region rfl ?_
  refine wpo_mv (a := AV.nils) rfl rfl rfl (o_as tk rfl (Wk.refl _)) ?_
  refine wpo_nil ?_
  refine awp_seq ?_
  refine awp_region rfl ?_
  refine wpo_mv (a := (eF 1 (@eU .u8 8) ([] : List (BitVec 8)))) rfl rfl rfl (o_c tk false rfl (fun _ => rfl)) ?_
  refine wpo_mv (a := ((eL 1 (@eU .u8 8)) x0)) rfl rfl rfl (o_mv tk rfl (Wk.refl _)) ?_
  obtain ⟨v2, hv3, H1⟩ := Option.bind_eq_some_iff.1 H
  refine wpo_a (av := fun t => eT t 1 (@eU .u8 8) v2) rfl rfl rfl (h_app0 tk hH hv3 td22 ty5 rfl (by decide) (.inr rfl) (src_l td22 rfl)) fun tk4 τ hH => ?_
  refine wpo_mv (a := (eT tk4 1 (@eU .u8 8) v2)) rfl rfl rfl (o_as tk rfl (Wk.refl _)) ?_
  refine wpo_nil ?_
  refine awp_seq ?_
  refine awp_seq ?_
  refine awp_region rfl ?_
  refine wpo_mv (a := ((eL 1 eI) x1)) rfl rfl rfl (o_mv tk rfl (Wk.refl _)) ?_
  refine wpo_lt H1 eI rfl rfl rfl (o_len tk td58 rfl) fun v6 H5 => ?_
  refine wpo_mv (a := (eI (0 : Int))) rfl rfl rfl (o_mv tk rfl (Wk.refl _)) ?_
  refine wpo_nil ?_
  refine awp_block ?_
  obtain ⟨s16, hs10, hj11⟩ := Option.bind_eq_some_iff.1 H5
  refine awp_cutx 0 (fun fr τ => ∃ tk_5, WkF fr (fm [(5, (eT tk_5 1 (@eU .u8 8) s16))]) ∧ Holds σ [] [tk_5] τ) ?_ ?_
  · rintro fr τ ⟨tk_5, hfr, hH⟩
    have H86 := hj11
    refine AWP.fm [(5, (eT tk_5 1 (@eU .u8 8) s16))] hfr ?_
    refine awp_seq ?_
    refine awp_region rfl ?_
    refine wpo_mv (a := (eT tk_5 1 (@eU .u8 8) s16)) rfl rfl rfl (o_mv tk rfl (Wk.refl _)) ?_
    refine wpo_mv (a := (eT tk_5 1 (@eU .u8 8) s16)) rfl rfl rfl (o_as tk rfl (Wk.refl _)) ?_
    refine wpo_nil ?_
    refine awp_ret ?_
    obtain rfl := Option.some.inj H86
    exact ⟨_, (eT tk_5 1 (@eU .u8 8) s16), rfl, .of_eq rfl, tk_5, rfl, hH⟩
  · refine awp_loopO (body := fun s => octets_Put_b0 x1 v6 s.1 s.2) hs10 (fun (s : (List (BitVec 8)) × Int) fr τ => ∃ tk_5, WkF fr (fm [(5, (eT tk_5 1 (@eU .u8 8) s.1)), (12, ((eL 1 eI) x1)), (13, (eI v6)), (14, (eI s.2))]) ∧ Holds σ [] [tk_5] τ) ⟨tk4, (wkf_cons (.of_eq rfl) (wkf_cons (.of_eq rfl) (wkf_cons (.of_eq rfl) (wkf_cons (.of_eq rfl) (wkf_nil _))))), hH⟩ ?_
    rintro ⟨c7, c8⟩ fr τ y12 ⟨tk_5, hfr, hH⟩ hb14 hy15
    have H17 : octets_Put_b0 x1 v6 c7 c8 = some y12 := hb14
    unfold octets_Put_b0 at H17
    refine AWP.fm [(5, (eT tk_5 1 (@eU .u8 8) c7)), (12, ((eL 1 eI) x1)), (13, (eI v6)), (14, (eI c8))] hfr ?_
    have hH : Holds σ [] [tk_5] τ := hH
    refine awp_seq ?_
    refine awp_region rfl ?_
    refine wpo_lt H17 eB rfl rfl rfl (o_ar tk rfl rfl rfl) fun v19 H18 => ?_
    refine wpo_nil ?_
    refine awp_seq ?_
    refine awp_if H18 rfl (fun H20 => ?_) (fun H20 => ?_)
    · refine awp_skip ?_
      refine awp_seq ?_
      refine awp_block ?_
      refine awp_seq ?_
      refine awp_region rfl ?_
      refine wpo_bd H20 (fun y => .fptr (eI y).cells 0) rfl rfl rfl (fun v22 hv => o_ixa tk hv td58 (enc_i64 td3 sz3) rfl rfl) fun v22 hv22 H21 => ?_
      refine wpo_mv (a := (eI v22)) rfl rfl rfl (o_ld_e tk (enc_i64 td3 sz3) rfl rfl) ?_
      refine wpo_mv (a := (eI v22)) rfl rfl rfl (o_as tk rfl (Wk.refl _)) ?_
      refine wpo_nil ?_
      refine awp_seq ?_
      refine awp_region rfl ?_
      refine wpo_mv (a := (eI (0 : Int))) rfl rfl rfl (o_as tk rfl (Wk.refl _)) ?_
      refine wpo_nil ?_
      refine awp_seq ?_
      refine awp_block ?_
      obtain ⟨s31, hs25, hj26⟩ := Option.bind_eq_some_iff.1 H21
      refine awp_cutx 2 (fun fr τ => ∃ tk_5, WkF fr (fm [(5, (eT tk_5 1 (@eU .u8 8) c7)), (7, (eI v22)), (8, (eI s31)), (12, ((eL 1 eI) x1)), (13, (eI v6)), (14, (eI c8))]) ∧ Holds σ [] [tk_5] τ) ?_ ?_
      · rintro fr τ ⟨tk_5, hfr, hH⟩
        have H42 := hj26
        refine AWP.fm [(5, (eT tk_5 1 (@eU .u8 8) c7)), (7, (eI v22)), (8, (eI s31)), (12, ((eL 1 eI) x1)), (13, (eI v6)), (14, (eI c8))] hfr ?_
        refine awp_seq ?_
        refine awp_block ?_
        obtain ⟨s52, hs46, hj47⟩ := Option.bind_eq_some_iff.1 H42
        refine awp_cutx 4 (fun fr τ => ∃ tk_5, WkF fr (fm [(5, (eT tk_5 1 (@eU .u8 8) s52)), (7, (eI v22)), (12, ((eL 1 eI) x1)), (13, (eI v6)), (14, (eI c8))]) ∧ Holds σ [] [tk_5] τ) ?_ ?_
        · rintro fr τ ⟨tk_5, hfr, hH⟩
          have H73 := hj47
          refine AWP.fm [(5, (eT tk_5 1 (@eU .u8 8) s52)), (7, (eI v22)), (12, ((eL 1 eI) x1)), (13, (eI v6)), (14, (eI c8))] hfr ?_
          refine awp_region rfl ?_
          refine wpo_mv (a := (eT tk_5 1 (@eU .u8 8) s52)) rfl rfl rfl (o_mv tk rfl (Wk.refl _)) ?_
          refine wpo_mv (a := (eI v22)) rfl rfl rfl (o_mv tk rfl (Wk.refl _)) ?_
          refine wpo_lt H73 (@eU .u8 8) rfl rfl rfl (o_cv_iu tk td3 td5 rfl rfl) fun v75 H74 => ?_
          refine wpo_lt H74 (@eU .u8 8) rfl rfl rfl (o_and_u tk rfl rfl rfl) fun v77 H76 => ?_
          refine wpo_lt H76 (eF 1 (@eU .u8 8)) rfl rfl rfl (o_c tk false rfl (fun _ => rfl)) fun v79 H78 => ?_
          obtain ⟨v81, hv82, H80⟩ := Option.bind_eq_some_iff.1 H78
          refine wpo_a (av := fun t => eT t 1 (@eU .u8 8) v81) rfl rfl rfl (h_app tk hH 0 hv82 rfl td22 ty5 rfl (by decide) rfl (src_l td22 rfl)) fun tk83 τ hH => ?_
          refine wpo_mv (a := (eT tk83 1 (@eU .u8 8) v81)) rfl rfl rfl (o_as tk rfl (Wk.refl _)) ?_
          refine wpo_nil ?_
          refine awp_region rfl ?_
          refine wpo_lt H80 eI rfl rfl rfl (o_ar tk rfl rfl rfl) fun v85 H84 => ?_
          refine wpo_mv (a := (eI v85)) rfl rfl rfl (o_mv tk rfl (Wk.refl _)) ?_
          refine wpo_nil ?_
          exact ⟨(v81, v85), inj_inl H84, tk83, (wkf_cons (.of_eq rfl) (wkf_cons (.of_eq rfl) (wkf_cons (.of_eq rfl) (wkf_cons (.of_eq rfl) (wkf_nil _))))), hH⟩
        · refine awp_loopO (body := fun s => octets_Put_b2 x1 v6 c8 v22 s.1 s.2) hs46 (fun (s : (List (BitVec 8)) × Int) fr τ => ∃ tk_5, WkF fr (fm [(5, (eT tk_5 1 (@eU .u8 8) s.1)), (7, (eI v22)), (8, (eI s.2)), (12, ((eL 1 eI) x1)), (13, (eI v6)), (14, (eI c8))]) ∧ Holds σ [] [tk_5] τ) ⟨tk_5, (wkf_cons (.of_eq rfl) (wkf_cons (.of_eq rfl) (wkf_cons (.of_eq rfl) (wkf_cons (.of_eq rfl) (wkf_cons (.of_eq rfl) (wkf_cons (.of_eq rfl) (wkf_nil _))))))), hH⟩ ?_
          rintro ⟨c43, c44⟩ fr τ y48 ⟨tk_5, hfr, hH⟩ hb50 hy51
          have H53 : octets_Put_b2 x1 v6 c8 v22 c43 c44 = some y48 := hb50
          unfold octets_Put_b2 at H53
          refine AWP.fm [(5, (eT tk_5 1 (@eU .u8 8) c43)), (7, (eI v22)), (8, (eI c44)), (12, ((eL 1 eI) x1)), (13, (eI v6)), (14, (eI c8))] hfr ?_
          have hH : Holds σ [] [tk_5] τ := hH
          refine awp_seq ?_
          refine awp_seq ?_
          refine awp_region rfl ?_
          refine wpo_mv (a := (eI c44)) rfl rfl rfl (o_mv tk rfl (Wk.refl _)) ?_
          refine wpo_lt H53 eB rfl rfl rfl (o_ar tk rfl rfl rfl) fun v55 H54 => ?_
          refine wpo_nil ?_
          refine awp_if H54 rfl (fun H56 => ?_) (fun H56 => ?_)
          · refine awp_skip ?_
            refine awp_seq ?_
            refine awp_block ?_
            refine awp_region rfl ?_
            refine wpo_mv (a := (eT tk_5 1 (@eU .u8 8) c43)) rfl rfl rfl (o_mv tk rfl (Wk.refl _)) ?_
            refine wpo_mv (a := (eI v22)) rfl rfl rfl (o_mv tk rfl (Wk.refl _)) ?_
            refine wpo_mv (a := (eI c44)) rfl rfl rfl (o_mv tk rfl (Wk.refl _)) ?_
            refine wpo_lt H56 eI rfl rfl rfl (o_ar tk rfl rfl rfl) fun v58 H57 => ?_
            refine wpo_bd H57 eI rfl rfl rfl (fun v60 hv => om_shr tk hv rfl rfl) fun v60 hv60 H59 => ?_
            refine wpo_lt H59 (@eU .u8 8) rfl rfl rfl (o_cv_iu tk td3 td5 rfl rfl) fun v62 H61 => ?_
            refine wpo_lt H61 (@eU .u8 8) rfl rfl rfl (o_or_u tk rfl rfl rfl) fun v64 H63 => ?_
            refine wpo_lt H63 (eF 1 (@eU .u8 8)) rfl rfl rfl (o_c tk false rfl (fun _ => rfl)) fun v66 H65 => ?_
            obtain ⟨v68, hv69, H67⟩ := Option.bind_eq_some_iff.1 H65
            refine wpo_a (av := fun t => eT t 1 (@eU .u8 8) v68) rfl rfl rfl (h_app tk hH 0 hv69 rfl td22 ty5 rfl (by decide) rfl (src_l td22 rfl)) fun tk70 τ hH => ?_
            refine wpo_mv (a := (eT tk70 1 (@eU .u8 8) v68)) rfl rfl rfl (o_as tk rfl (Wk.refl _)) ?_
            refine wpo_nil ?_
            refine awp_region rfl ?_
            refine wpo_mv (a := (eI c44)) rfl rfl rfl (o_mv tk rfl (Wk.refl _)) ?_
            refine wpo_lt H67 eI rfl rfl rfl (o_ar tk rfl rfl rfl) fun v72 H71 => ?_
            refine wpo_mv (a := (eI v72)) rfl rfl rfl (o_as tk rfl (Wk.refl _)) ?_
            refine wpo_nil ?_
            exact ⟨(v68, v72), inj_inl H71, tk70, (wkf_cons (.of_eq rfl) (wkf_cons (.of_eq rfl) (wkf_cons (.of_eq rfl) (wkf_cons (.of_eq rfl) (wkf_cons (.of_eq rfl) (wkf_cons (.of_eq rfl) (wkf_nil _))))))), hH⟩
          · refine awp_exit ?_
            have hz := hy51 _ (inj_inr H56)
            subst hz
            exact ⟨⟨_, inj_inr H56⟩, tk_5, (wkf_cons (.of_eq rfl) (wkf_cons (.of_eq rfl) (wkf_cons (.of_eq rfl) (wkf_cons (.of_eq rfl) (wkf_cons (.of_eq rfl) (wkf_nil _)))))), hH⟩
      · refine awp_loopO (body := fun s => octets_Put_b1 x1 v6 c7 c8 v22 s) hs25 (fun (s : Int) fr τ => ∃ tk_5, WkF fr (fm [(5, (eT tk_5 1 (@eU .u8 8) c7)), (7, (eI v22)), (8, (eI s)), (12, ((eL 1 eI) x1)), (13, (eI v6)), (14, (eI c8))]) ∧ Holds σ [] [tk_5] τ) ⟨tk_5, (wkf_cons (.of_eq rfl) (wkf_cons (.of_eq rfl) (wkf_cons (.of_eq rfl) (wkf_cons (.of_eq rfl) (wkf_cons (.of_eq rfl) (wkf_cons (.of_eq rfl) (wkf_nil _))))))), hH⟩ ?_
        rintro c23 fr τ y27 ⟨tk_5, hfr, hH⟩ hb29 hy30
        have H32 : octets_Put_b1 x1 v6 c7 c8 v22 c23 = some y27 := hb29
        unfold octets_Put_b1 at H32
        refine AWP.fm [(5, (eT tk_5 1 (@eU .u8 8) c7)), (7, (eI v22)), (8, (eI c23)), (12, ((eL 1 eI) x1)), (13, (eI v6)), (14, (eI c8))] hfr ?_
        have hH : Holds σ [] [tk_5] τ := hH
        refine awp_seq ?_
        refine awp_seq ?_
        refine awp_region rfl ?_
        refine wpo_mv (a := (eI v22)) rfl rfl rfl (o_mv tk rfl (Wk.refl _)) ?_
        refine wpo_mv (a := (eI c23)) rfl rfl rfl (o_mv tk rfl (Wk.refl _)) ?_
        refine wpo_lt H32 eI rfl rfl rfl (o_ar tk rfl rfl rfl) fun v34 H33 => ?_
        refine wpo_bd H33 eI rfl rfl rfl (fun v36 hv => om_shr tk hv rfl rfl) fun v36 hv36 H35 => ?_
        refine wpo_lt H35 eB rfl rfl rfl (o_ar tk rfl rfl rfl) fun v38 H37 => ?_
        refine wpo_nil ?_
        refine awp_if H37 rfl (fun H39 => ?_) (fun H39 => ?_)
        · refine awp_skip ?_
          refine awp_block ?_
          refine awp_region rfl ?_
          refine wpo_mv (a := (eI c23)) rfl rfl rfl (o_mv tk rfl (Wk.refl _)) ?_
          refine wpo_lt H39 eI rfl rfl rfl (o_ar tk rfl rfl rfl) fun v41 H40 => ?_
          refine wpo_mv (a := (eI v41)) rfl rfl rfl (o_as tk rfl (Wk.refl _)) ?_
          refine wpo_nil ?_
          exact ⟨v41, inj_inl H40, tk_5, (wkf_cons (.of_eq rfl) (wkf_cons (.of_eq rfl) (wkf_cons (.of_eq rfl) (wkf_cons (.of_eq rfl) (wkf_cons (.of_eq rfl) (wkf_cons (.of_eq rfl) (wkf_nil _))))))), hH⟩
        · refine awp_exit ?_
          have hz := hy30 _ (inj_inr H39)
          subst hz
          exact ⟨⟨_, inj_inr H39⟩, tk_5, (wkf_cons (.of_eq rfl) (wkf_cons (.of_eq rfl) (wkf_cons (.of_eq rfl) (wkf_cons (.of_eq rfl) (wkf_cons (.of_eq rfl) (wkf_cons (.of_eq rfl) (wkf_nil _))))))), hH⟩
    · refine awp_exit ?_
      have hz := hy15 _ (inj_inr H20)
      subst hz
      exact ⟨⟨_, inj_inr H20⟩, tk_5, (wkf_cons (.of_eq rfl) (wkf_nil _)), hH⟩
theorem octets_Put_ok {x0 : List (BitVec 8)} {x1 : List Int} {r : (List (BitVec 8))} (H : octets_Put x0 x1 = some r) (σ : St) : ACall Tryd.prog 22 [((eL 1 (@eU .u8 8)) x0), ((eL 1 eI) x1)] σ (fun a τ => a = (eL 1 (@eU .u8 8)) r ∧ τ = σ) := (octets_Put_app H σ).unapp (fun ρ κ => cutL_enc (enc_u td5 sz5).cut ρ κ r)
end Go.Proofs.YthkfilchighbhaaDoor
namespace Go.Proofs.YthkfilchighbhaaDoor
open Go Go.Va
set_option linter.unusedVariables false
set_option linter.unusedSimpArgs false
set_option maxRecDepth 20000
theorem octets_Bytes_app {x0 : List (BitVec 8)} {x1 : List (BitVec 8)} {r : (List (BitVec 8))} (H : octets_Bytes x0 x1 = some r) (σ : St)  : ACall Tryd.prog 24 [((eL 1 (@eU .u8 8)) x0), ((eL 1 (@eU .u8 8)) x1)] σ (fun a τ => a = .sl (.own σ.opn.length) 1 (r.map (@eU .u8 8)) ∧ τ = σ.more) := by
  unfold octets_Bytes at H
  refine ACall.app (fun ρ κ => cutL_enc (enc_u td5 sz5).cut ρ κ r) (acall_start tk Tryd.func24 (by decide) rfl (Nat.le_of_ble_eq_true rfl) ?_)
  have hH := Holds.init σ
  refine awp_seq ?_
  refine awp_region rfl ?_
  refine wpo_mv (a := AV.nils) rfl rfl rfl (o_as tk rfl (Wk.refl _)) ?_
  refine wpo_nil ?_
  refine awp_seq ?_
  refine awp_region rfl ?_
  refine wpo_mv (a := ((eL 1 (@eU .u8 8)) x0)) rfl rfl rfl (o_mv tk rfl (Wk.refl _)) ?_
  refine wpo_mv (a := ((eL 1 (@eU .u8 8)) x1)) rfl rfl rfl (o_mv tk rfl (Wk.refl _)) ?_
  refine wpo_lt H eI rfl rfl rfl (o_len tk td22 rfl) fun v2 H1 => ?_
  refine wpo_lt H1 (eF 1 eI) rfl rfl rfl (o_c tk false rfl (fun _ => rfl)) fun v4 H3 => ?_
  refine wpo_cb H3 (fun x t => eT t 1 (@eU .u8 8) x) rfl rfl rfl (fun v6 hv => h_calla hH rfl rfl (.cons (.of_eq rfl) (.cons wk_no .nil)) (octets_Put_app hv _)) fun v6 tk7 τ hv6 H5 hH => ?_
  refine wpo_mv (a := ((eL 1 (@eU .u8 8)) x1)) rfl rfl rfl (o_mv tk rfl (Wk.refl _)) ?_
  obtain ⟨v9, hv10, H8⟩ := Option.bind_eq_some_iff.1 H5
  refine wpo_a (av := fun t => eT t 1 (@eU .u8 8) v9) rfl rfl rfl (h_app tk hH 0 hv10 rfl td22 ty5 rfl (by decide) rfl (src_l td22 rfl)) fun tk11 τ hH => ?_
  refine wpo_mv (a := (eT tk11 1 (@eU .u8 8) v9)) rfl rfl rfl (o_as tk rfl (Wk.refl _)) ?_
  refine wpo_nil ?_
  refine awp_ret ?_
  obtain rfl := Option.some.inj H8
  exact ⟨_, (eT tk11 1 (@eU .u8 8) v9), rfl, .of_eq rfl, tk11, rfl, hH⟩
theorem octets_Bytes_ok {x0 : List (BitVec 8)} {x1 : List (BitVec 8)} {r : (List (BitVec 8))} (H : octets_Bytes x0 x1 = some r) (σ : St) : ACall Tryd.prog 24 [((eL 1 (@eU .u8 8)) x0), ((eL 1 (@eU .u8 8)) x1)] σ (fun a τ => a = (eL 1 (@eU .u8 8)) r ∧ τ = σ) := (octets_Bytes_app H σ).unapp (fun ρ κ => cutL_enc (enc_u td5 sz5).cut ρ κ r)
end Go.Proofs.YthkfilchighbhaaDoor
namespace Go.Proofs.YthkfilchighbhaaDoor
open Go Go.Va
set_option linter.unusedVariables false
set_option linter.unusedSimpArgs false
set_option maxRecDepth 20000
theorem checksum_Seal_app {x0 : List (BitVec 8)} {r : (List (BitVec 8))} (H : checksum_Seal x0 = some r) (σ : St)  : ACall Tryd.prog 25 [((eL 1 (@eU .u8 8)) x0)] σ (fun a τ => a = .sl (.own σ.opn.length) 1 (r.map (@eU .u8 8)) ∧ τ = σ.more) := by
  unfold checksum_Seal at H
  refine ACall.app (fun ρ κ => cutL_enc (enc_u td5 sz5).cut ρ κ r) (acall_start tk Tryd.func25 (by decide) rfl (Nat.le_of_ble_eq_true rfl) ?_)
  have hH := Holds.init σ
  refine awp_seq ?_
  refine awp_region rfl ?_
  refine wpo_mv (a := AV.nils) rfl rfl rfl (o_as tk rfl (Wk.refl _)) ?_
  refine wpo_nil ?_
  refine awp_seq ?_
  refine awp_region rfl ?_
  refine wpo_mv (a := ((eL 1 (@eU .u8 8)) x0)) rfl rfl rfl (o_mv tk rfl (Wk.refl _)) ?_
  refine wpo_bd H (@eU .u32 32) rfl rfl rfl (fun v2 hv => OpP.of_call rfl rfl (.cons (.of_eq rfl) .nil) (checksum_Sum_ok hv)) fun v2 hv2 H1 => ?_
  refine wpo_bd H1 (eA (@eU .u8 8)) rfl rfl rfl (fun v4 hv => OpP.of_call rfl rfl (.cons (.of_eq rfl) .nil) (checksum_Four_ok hv)) fun v4 hv4 H3 => ?_
  refine wpo_a (av := fun id => .ref id 0) rfl rfl rfl (h_alloc tk hH ty85 (cL (@eU .u8 8) (List.replicate 4 0#8)) rfl) fun id5 τ ⟨hH, n6⟩ => ?_
  obtain ⟨c8, hc9, H7⟩ := Option.bind_eq_some_iff.1 H3
  refine wpo_z rfl rfl (h_stw tk hH 0 hc9 rfl (enc_u td5 sz5) ty85 rfl (by simp) rfl rfl) fun τ hH => ?_
  refine wpo_nil ?_
  refine awp_seq ?_
  refine awp_drawS mixed [2, 4] rfl (by decide +kernel) rfl rfl ?_
  refine wpdS_mv (a := (eF 1 (@eU .u8 8) ([] : List (BitVec 8)))) rfl rfl rfl (o_c tk false rfl (fun _ => rfl)) ?_
  refine wpdS_mv (a := ((eL 1 (@eU .u8 8)) x0)) rfl rfl rfl (o_mv tk rfl (Wk.refl _)) ?_
  obtain ⟨v11, hv12, H10⟩ := Option.bind_eq_some_iff.1 H7
  refine wpdS_a (av := fun t => eT t 1 (@eU .u8 8) v11) rfl rfl rfl (h_app0 tk hH hv12 td22 ty5 rfl (by decide) (.inr rfl) (src_l td22 rfl)) fun tk13 τ hH => ?_
  refine wpdS_mv (a := (.msl id5 0 4)) rfl rfl rfl (o_c tk false rfl (fun _ => rfl)) ?_
  obtain ⟨v15, hv16, H14⟩ := Option.bind_eq_some_iff.1 H10
  obtain ⟨whv16, hwhv16, hv16b⟩ := Option.bind_eq_some_iff.1 hv16
  obtain ⟨hxhv16, rfl⟩ := whole_some hwhv16
  refine wpdS_a (av := fun t => eT t 1 (@eU .u8 8) v15) rfl rfl rfl (h_app tk hH 0 hv16b rfl td22 ty5 rfl (by decide) rfl (src_arr hH 0 rfl (enc_u td5 sz5) rfl td22 hxhv16 rfl)) fun tk17 τ hH => ?_
  refine wpdS_mv (a := (eT tk17 1 (@eU .u8 8) v15)) rfl rfl rfl (o_as tk rfl (Wk.refl _)) ?_
  refine wpdS_nil ?_
  refine awp_ret ?_
  obtain rfl := Option.some.inj H14
  exact ⟨_, (eT tk17 1 (@eU .u8 8) v15), rfl, .of_eq rfl, tk17, rfl, (hH.drop n6)⟩
theorem checksum_Seal_ok {x0 : List (BitVec 8)} {r : (List (BitVec 8))} (H : checksum_Seal x0 = some r) (σ : St) : ACall Tryd.prog 25 [((eL 1 (@eU .u8 8)) x0)] σ (fun a τ => a = (eL 1 (@eU .u8 8)) r ∧ τ = σ) := (checksum_Seal_app H σ).unapp (fun ρ κ => cutL_enc (enc_u td5 sz5).cut ρ κ r)
end Go.Proofs.YthkfilchighbhaaDoor
namespace Go.Proofs.YthkfilchighbhaaDoor
open Go Go.Va
set_option linter.unusedVariables false
set_option linter.unusedSimpArgs false
set_option maxRecDepth 20000
theorem wire_Put_ok {x0 : api_Msg} {r : (List (BitVec 8)) × Err} (H : wire_Put x0 = some r) (σ : St)  : ACall Tryd.prog 9 [(e_api_Msg x0)] σ (fun a τ => a = .tup [(eL 1 (@eU .u8 8)) r.1, eErr r.2] ∧ τ = σ) := by
  unfold wire_Put at H
  refine ACall.pure (acall_start tk Tryd.func9 (by decide) rfl (Nat.le_of_ble_eq_true rfl) ?_)
  have hH := Holds.init σ
  refine awp_seq ?_
  refine awp_region rfl ?_
  refine wpo_mv (a := (.fptr (c_api_Msg x0) 0)) rfl rfl rfl (o_boxf tk rfl (.of_eq rfl) (b := (e_api_Msg x0)) (enc26.flat _)) ?_
  refine wpo_mv (a := AV.nils) rfl rfl rfl (o_as tk rfl (Wk.refl _)) ?_
  refine wpo_mv (a := (eErr Err.nil)) rfl rfl rfl (o_as tk rfl (Wk.refl _)) ?_
  refine wpo_nil ?_
  refine awp_seq ?_
  refine awp_seq ?_
  refine awp_region rfl ?_
  refine wpo_mv (a := (e_api_Msg x0)) rfl rfl rfl (o_ld tk rfl rfl) ?_
  refine wpo_bd H eErr rfl rfl rfl (fun v2 hv => OpP.of_call rfl rfl (.cons (.of_eq rfl) .nil) (wire_Check_ok hv)) fun v2 hv2 H1 => ?_
  refine wpo_mv (a := (eErr v2)) rfl rfl rfl (o_as tk rfl (Wk.refl _)) ?_
  refine wpo_nil ?_
  refine awp_seq ?_
  refine awp_region rfl ?_
  refine wpo_mv (a := (eErr v2)) rfl rfl rfl (o_mv tk rfl (Wk.refl _)) ?_
  refine wpo_lt H1 eB rfl rfl rfl (o_err_neq tk rfl rfl rfl) fun v4 H3 => ?_
  refine wpo_nil ?_
  refine awp_if H3 rfl (fun H5 => ?_) (fun H5 => ?_)
  · refine awp_seq ?_
    refine awp_region rfl ?_
    refine wpo_mv (a := (.fptr (c_api_Msg x0) 0)) rfl rfl rfl (o_c tk false rfl (fun _ => rfl)) ?_
    refine wpo_mv (a := (eI x0.Kind)) rfl rfl rfl (o_ld tk rfl rfl) ?_
    refine wpo_mv (a := (eErr v2)) rfl rfl rfl (o_mv tk rfl (Wk.refl _)) ?_
    refine wpo_bd H5 eErr rfl rfl rfl (fun v7 hv => OpP.of_call rfl rfl (.cons (.of_eq rfl) (.cons (.of_eq rfl) (.cons (.of_eq rfl) .nil))) (trouble_Wrap_ok hv)) fun v7 hv7 H6 => ?_
    refine wpo_mv (a := AV.nils) rfl rfl rfl (o_as tk rfl (Wk.refl _)) ?_
    refine wpo_mv (a := (eErr v7)) rfl rfl rfl (o_as tk rfl (Wk.refl _)) ?_
    refine wpo_nil ?_
    refine awp_ret ?_
    obtain rfl := Option.some.inj H6
    exact ⟨_, (.tup [((eL 1 (@eU .u8 8)) []), (eErr v7)]), rfl, (wk_tup (.cons (wk_nils _) (.cons (.of_eq rfl) .nil))), .of_eq (by simp only [cutAV, cutL, (enc_l td22 sz22 (enc_u td5 sz5).cut).cut _ _ _, encErr.cut _ _ _]), hH.noT⟩
  · refine awp_skip ?_
    refine awp_seq ?_
    refine awp_region rfl ?_
    refine wpo_mv (a := (.fptr (c_api_Msg x0) 0)) rfl rfl rfl (o_c tk false rfl (fun _ => rfl)) ?_
    refine wpo_mv (a := (eI x0.Kind)) rfl rfl rfl (o_ld tk rfl rfl) ?_
    refine wpo_mv (a := (.fptr (c_api_Msg x0) 1)) rfl rfl rfl (o_c tk false rfl (fun _ => rfl)) ?_
    refine wpo_mv (a := (eI x0.From)) rfl rfl rfl (o_ld tk rfl rfl) ?_
    refine wpo_mv (a := (.fptr (c_api_Msg x0) 2)) rfl rfl rfl (o_c tk false rfl (fun _ => rfl)) ?_
    refine wpo_mv (a := (eI x0.To)) rfl rfl rfl (o_ld tk rfl rfl) ?_
    refine wpo_mv (a := (.fptr (c_api_Msg x0) 3)) rfl rfl rfl (o_c tk false rfl (fun _ => rfl)) ?_
    refine wpo_mv (a := (eI x0.Epoch)) rfl rfl rfl (o_ld tk rfl rfl) ?_
    refine wpo_lt H5 (eF 1 eI) rfl rfl rfl (o_c tk false rfl (fun _ => rfl)) fun v9 H8 => ?_
    refine wpo_bd H8 (eL 1 (@eU .u8 8)) rfl rfl rfl (fun v11 hv => OpP.of_call rfl rfl (.cons (wk_nils _) (.cons wk_no .nil)) (octets_Put_ok hv)) fun v11 hv11 H10 => ?_
    refine wpo_mv (a := ((eL 1 (@eU .u8 8)) v11)) rfl rfl rfl (o_as tk rfl (Wk.refl _)) ?_
    refine wpo_nil ?_
    refine awp_seq ?_
    refine awp_seq ?_
    refine awp_region rfl ?_
    refine wpo_mv (a := (.fptr (c_api_Msg x0) 0)) rfl rfl rfl (o_c tk false rfl (fun _ => rfl)) ?_
    refine wpo_mv (a := (eI x0.Kind)) rfl rfl rfl (o_ld tk rfl rfl) ?_
    refine wpo_bd H10 eS rfl rfl rfl (fun v13 hv => OpP.of_call rfl rfl (.cons (.of_eq rfl) .nil) (wire_parts_ok hv)) fun v13 hv13 H12 => ?_
    refine wpo_a (av := fun id => .spc id) rfl rfl rfl (h_range tk hH td9 rfl) fun id14 τ ⟨hH, n15⟩ => ?_
    refine wpo_nil ?_
    refine awp_block ?_
    obtain ⟨s25, hs19, hj20⟩ := Option.bind_eq_some_iff.1 H12
    refine awp_cutx 0 (fun fr τ => WkF fr (fm [(5, ((eL 1 (@eU .u8 8)) s25.1))]) ∧ Holds σ [(id14, (cIt s25.2))] [] τ) ?_ ?_
    · rintro fr τ ⟨hfr, hH⟩
      have H75 := hj20
      refine AWP.fm [(5, ((eL 1 (@eU .u8 8)) s25.1))] hfr ?_
      refine awp_seq ?_
      refine awp_region rfl ?_
      refine wpo_mv (a := ((eL 1 (@eU .u8 8)) s25.1)) rfl rfl rfl (o_mv tk rfl (Wk.refl _)) ?_
      refine wpo_bd H75 (eL 1 (@eU .u8 8)) rfl rfl rfl (fun v77 hv => OpP.of_call rfl rfl (.cons (.of_eq rfl) .nil) (checksum_Seal_ok hv)) fun v77 hv77 H76 => ?_
      refine wpo_mv (a := ((eL 1 (@eU .u8 8)) v77)) rfl rfl rfl (o_as tk rfl (Wk.refl _)) ?_
      refine wpo_mv (a := (eErr Err.nil)) rfl rfl rfl (o_as tk rfl (Wk.refl _)) ?_
      refine wpo_nil ?_
      refine awp_ret ?_
      obtain rfl := Option.some.inj H76
      exact ⟨_, (.tup [((eL 1 (@eU .u8 8)) v77), (eErr Err.nil)]), rfl, (wk_tup (.cons (.of_eq rfl) (.cons (.of_eq rfl) .nil))), .of_eq (by simp only [cutAV, cutL, (enc_l td22 sz22 (enc_u td5 sz5).cut).cut _ _ _, encErr.cut _ _ _]), (hH.noT.drop n15)⟩
    · refine awp_loopO (body := fun s => wire_Put_b0 x0 s.1 s.2) hs19 (fun (s : (List (BitVec 8)) × (List (BitVec 8) × Nat)) fr τ => WkF fr (fm [(1, (.fptr (c_api_Msg x0) 0)), (5, ((eL 1 (@eU .u8 8)) s.1)), (30, (.spc id14))]) ∧ Holds σ [(id14, (cIt s.2))] [] τ) ⟨(wkf_cons (.of_eq rfl) (wkf_cons (.of_eq rfl) (wkf_cons (.of_eq rfl) (wkf_nil _)))), hH⟩ ?_
      rintro ⟨c16, c17⟩ fr τ y21 ⟨hfr, hH⟩ hb23 hy24
      have H26 : wire_Put_b0 x0 c16 c17 = some y21 := hb23
      unfold wire_Put_b0 at H26
      refine AWP.fm [(1, (.fptr (c_api_Msg x0) 0)), (5, ((eL 1 (@eU .u8 8)) c16)), (30, (.spc id14))] hfr ?_
      have hH : Holds σ [(id14, (cIt c17))] [] τ := hH
      refine awp_seq ?_
      refine awp_region rfl ?_
      obtain ⟨v28, hv29, H27⟩ := Option.bind_eq_some_iff.1 H26
      rcases v28 with _ | c30
      · rw [Option.elim_none] at H27
        refine wpo_a (av := fun _ => .tup [eB false]) rfl rfl rfl (h_next0 hH 0 hv29 rfl rfl) fun _ τ hH => ?_
        refine wpo_mv (a := (eB false)) rfl rfl rfl (o_ext tk rfl rfl) ?_
        refine wpo_nil ?_
        refine awp_seq ?_
        refine awp_false rfl ?_
        refine awp_exit ?_
        have hz := hy24 _ (inj_inr H27)
        subst hz
        exact ⟨⟨_, inj_inr H27⟩, (wkf_cons (.of_eq rfl) (wkf_nil _)), hH⟩
      · rw [Option.elim_some] at H27
        refine wpo_a (av := fun _ => .tup [eB true, eI (c17.2 : Int), eK .i32 c30]) rfl rfl rfl (h_next1 hH 0 hv29 rfl rfl) fun _ τ (hH : Holds σ [(id14, (cIt (c17.1, c17.2 + 1)))] [] τ) => ?_
        refine wpo_mv (a := (eB true)) rfl rfl rfl (o_ext tk rfl rfl) ?_
        refine wpo_nil ?_
        refine awp_seq ?_
        refine awp_true rfl ?_
        refine awp_skip ?_
        refine awp_block ?_
        refine awp_seq ?_
        refine awp_region rfl ?_
        refine wpo_mv (a := ((eK .i32) c30)) rfl rfl rfl (o_ext tk rfl rfl) ?_
        refine wpo_mv (a := ((eK .i32) c30)) rfl rfl rfl (o_as tk rfl (Wk.refl _)) ?_
        refine wpo_nil ?_
        refine awp_seq ?_
        refine awp_region rfl ?_
        refine wpo_mv (a := ((eK .i32) c30)) rfl rfl rfl (o_mv tk rfl (Wk.refl _)) ?_
        refine wpo_nil ?_
        refine awp_block ?_
        refine awp_seq ?_
        refine awp_region rfl ?_
        refine wpo_lt H27 eB rfl rfl rfl (o_ar tk rfl rfl rfl) fun v32 H31 => ?_
        refine wpo_mv (a := (eB v32)) rfl rfl rfl (o_as tk rfl (Wk.refl _)) ?_
        refine wpo_nil ?_
        refine awp_if H31 rfl (fun H33 => ?_) (fun H33 => ?_)
        · refine awp_region rfl ?_
          refine wpo_mv (a := ((eL 1 (@eU .u8 8)) c16)) rfl rfl rfl (o_mv tk rfl (Wk.refl _)) ?_
          refine wpo_mv (a := (.fptr (c_api_Msg x0) 4)) rfl rfl rfl (o_c tk false rfl (fun _ => rfl)) ?_
          refine wpo_mv (a := (eI x0.Id)) rfl rfl rfl (o_ld tk rfl rfl) ?_
          refine wpo_lt H33 (eF 1 eI) rfl rfl rfl (o_c tk false rfl (fun _ => rfl)) fun v35 H34 => ?_
          refine wpo_bd H34 (eL 1 (@eU .u8 8)) rfl rfl rfl (fun v37 hv => OpP.of_call rfl rfl (.cons (.of_eq rfl) (.cons wk_no .nil)) (octets_Put_ok hv)) fun v37 hv37 H36 => ?_
          refine wpo_mv (a := ((eL 1 (@eU .u8 8)) v37)) rfl rfl rfl (o_as tk rfl (Wk.refl _)) ?_
          refine wpo_nil ?_
          exact ⟨(v37, (c17.1, c17.2 + 1)), inj_inl H36, (wkf_cons (.of_eq rfl) (wkf_cons (.of_eq rfl) (wkf_cons (.of_eq rfl) (wkf_nil _)))), hH⟩
        · refine awp_seq ?_
          refine awp_region rfl ?_
          refine wpo_lt H33 eB rfl rfl rfl (o_ar tk rfl rfl rfl) fun v39 H38 => ?_
          refine wpo_mv (a := (eB v39)) rfl rfl rfl (o_as tk rfl (Wk.refl _)) ?_
          refine wpo_nil ?_
          refine awp_if H38 rfl (fun H40 => ?_) (fun H40 => ?_)
          · refine awp_region rfl ?_
            refine wpo_mv (a := ((eL 1 (@eU .u8 8)) c16)) rfl rfl rfl (o_mv tk rfl (Wk.refl _)) ?_
            refine wpo_mv (a := (.fptr (c_api_Msg x0) 5)) rfl rfl rfl (o_c tk false rfl (fun _ => rfl)) ?_
            refine wpo_mv (a := (.fptr (c_api_Msg x0) 5)) rfl rfl rfl (o_c tk false rfl (fun _ => rfl)) ?_
            refine wpo_mv (a := (eS x0.X.Key)) rfl rfl rfl (o_ld tk rfl rfl) ?_
            refine wpo_bd H40 (eL 1 (@eU .u8 8)) rfl rfl rfl (fun v42 hv => o_s2b tk hv td9 td22 td5 rfl) fun v42 hv42 H41 => ?_
            refine wpo_bd H41 (eL 1 (@eU .u8 8)) rfl rfl rfl (fun v44 hv => OpP.of_call rfl rfl (.cons (.of_eq rfl) (.cons (.of_eq rfl) .nil)) (octets_Bytes_ok hv)) fun v44 hv44 H43 => ?_
            refine wpo_mv (a := ((eL 1 (@eU .u8 8)) v44)) rfl rfl rfl (o_as tk rfl (Wk.refl _)) ?_
            refine wpo_nil ?_
            exact ⟨(v44, (c17.1, c17.2 + 1)), inj_inl H43, (wkf_cons (.of_eq rfl) (wkf_cons (.of_eq rfl) (wkf_cons (.of_eq rfl) (wkf_nil _)))), hH⟩
          · refine awp_seq ?_
            refine awp_region rfl ?_
            refine wpo_lt H40 eB rfl rfl rfl (o_ar tk rfl rfl rfl) fun v46 H45 => ?_
            refine wpo_mv (a := (eB v46)) rfl rfl rfl (o_as tk rfl (Wk.refl _)) ?_
            refine wpo_nil ?_
            refine awp_if H45 rfl (fun H47 => ?_) (fun H47 => ?_)
            · refine awp_region rfl ?_
              refine wpo_mv (a := ((eL 1 (@eU .u8 8)) c16)) rfl rfl rfl (o_mv tk rfl (Wk.refl _)) ?_
              refine wpo_mv (a := (.fptr (c_api_Msg x0) 5)) rfl rfl rfl (o_c tk false rfl (fun _ => rfl)) ?_
              refine wpo_mv (a := (.fptr (c_api_Msg x0) 7)) rfl rfl rfl (o_c tk false rfl (fun _ => rfl)) ?_
              refine wpo_mv (a := (eI x0.X.AsOf)) rfl rfl rfl (o_ld tk rfl rfl) ?_
              refine wpo_lt H47 (eF 1 eI) rfl rfl rfl (o_c tk false rfl (fun _ => rfl)) fun v49 H48 => ?_
              refine wpo_bd H48 (eL 1 (@eU .u8 8)) rfl rfl rfl (fun v51 hv => OpP.of_call rfl rfl (.cons (.of_eq rfl) (.cons wk_no .nil)) (octets_Put_ok hv)) fun v51 hv51 H50 => ?_
              refine wpo_mv (a := ((eL 1 (@eU .u8 8)) v51)) rfl rfl rfl (o_as tk rfl (Wk.refl _)) ?_
              refine wpo_nil ?_
              exact ⟨(v51, (c17.1, c17.2 + 1)), inj_inl H50, (wkf_cons (.of_eq rfl) (wkf_cons (.of_eq rfl) (wkf_cons (.of_eq rfl) (wkf_nil _)))), hH⟩
            · refine awp_seq ?_
              refine awp_region rfl ?_
              refine wpo_lt H47 eB rfl rfl rfl (o_ar tk rfl rfl rfl) fun v53 H52 => ?_
              refine wpo_mv (a := (eB v53)) rfl rfl rfl (o_as tk rfl (Wk.refl _)) ?_
              refine wpo_nil ?_
              refine awp_if H52 rfl (fun H54 => ?_) (fun H54 => ?_)
              · refine awp_seq ?_
                refine awp_region rfl ?_
                refine wpo_mv (a := (eI (0 : Int))) rfl rfl rfl (o_as tk rfl (Wk.refl _)) ?_
                refine wpo_nil ?_
                refine awp_seq ?_
                refine awp_seq ?_
                refine awp_region rfl ?_
                refine wpo_mv (a := (.fptr (c_api_Msg x0) 10)) rfl rfl rfl (o_c tk false rfl (fun _ => rfl)) ?_
                refine wpo_mv (a := (eB x0.Found)) rfl rfl rfl (o_ld tk rfl rfl) ?_
                refine wpo_nil ?_
                obtain ⟨s55, hs57, hj58⟩ := Option.bind_eq_some_iff.1 H54
                refine awp_cutn (fun fr τ => WkF fr (fm [(1, (.fptr (c_api_Msg x0) 0)), (5, ((eL 1 (@eU .u8 8)) c16)), (8, (eI s55)), (30, (.spc id14))]) ∧ Holds σ [(id14, (cIt (c17.1, c17.2 + 1)))] [] τ) ?_ ?_
                · rintro fr τ ⟨hfr, hH⟩
                  have H60 := hj58
                  refine AWP.fm [(1, (.fptr (c_api_Msg x0) 0)), (5, ((eL 1 (@eU .u8 8)) c16)), (8, (eI s55)), (30, (.spc id14))] hfr ?_
                  refine awp_region rfl ?_
                  refine wpo_mv (a := ((eL 1 (@eU .u8 8)) c16)) rfl rfl rfl (o_mv tk rfl (Wk.refl _)) ?_
                  refine wpo_mv (a := (eI s55)) rfl rfl rfl (o_mv tk rfl (Wk.refl _)) ?_
                  refine wpo_lt H60 (eF 1 eI) rfl rfl rfl (o_c tk false rfl (fun _ => rfl)) fun v62 H61 => ?_
                  refine wpo_bd H61 (eL 1 (@eU .u8 8)) rfl rfl rfl (fun v64 hv => OpP.of_call rfl rfl (.cons (.of_eq rfl) (.cons wk_no .nil)) (octets_Put_ok hv)) fun v64 hv64 H63 => ?_
                  refine wpo_mv (a := ((eL 1 (@eU .u8 8)) v64)) rfl rfl rfl (o_as tk rfl (Wk.refl _)) ?_
                  refine wpo_nil ?_
                  exact ⟨(v64, (c17.1, c17.2 + 1)), inj_inl H63, (wkf_cons (.of_eq rfl) (wkf_cons (.of_eq rfl) (wkf_cons (.of_eq rfl) (wkf_nil _)))), hH⟩
                · refine awp_if hs57 rfl (fun H59 => ?_) (fun H59 => ?_)
                  · refine awp_region rfl ?_
                    refine wpo_mv (a := (eI (1 : Int))) rfl rfl rfl (o_as tk rfl (Wk.refl _)) ?_
                    refine wpo_nil ?_
                    have e := Option.some.inj H59
                    subst e
                    exact ⟨(wkf_cons (.of_eq rfl) (wkf_cons (.of_eq rfl) (wkf_cons (.of_eq rfl) (wkf_cons (.of_eq rfl) (wkf_nil _))))), hH⟩
                  · refine awp_skip ?_
                    have e := Option.some.inj H59
                    subst e
                    exact ⟨(wkf_cons (.of_eq rfl) (wkf_cons (.of_eq rfl) (wkf_cons (.of_eq rfl) (wkf_cons (.of_eq rfl) (wkf_nil _))))), hH⟩
              · refine awp_seq ?_
                refine awp_region rfl ?_
                refine wpo_lt H54 eB rfl rfl rfl (o_ar tk rfl rfl rfl) fun v66 H65 => ?_
                refine wpo_mv (a := (eB v66)) rfl rfl rfl (o_as tk rfl (Wk.refl _)) ?_
                refine wpo_nil ?_
                refine awp_if H65 rfl (fun H67 => ?_) (fun H67 => ?_)
                · refine awp_seq ?_
                  refine awp_region rfl ?_
                  refine wpo_mv (a := (.fptr (c_api_Msg x0) 10)) rfl rfl rfl (o_c tk false rfl (fun _ => rfl)) ?_
                  refine wpo_mv (a := (eB x0.Found)) rfl rfl rfl (o_ld tk rfl rfl) ?_
                  refine wpo_nil ?_
                  refine awp_if H67 rfl (fun H68 => ?_) (fun H68 => ?_)
                  · refine awp_drawS mixed [] rfl (by decide +kernel) rfl rfl ?_
                    refine wpdS_mv (a := ((eL 1 (@eU .u8 8)) c16)) rfl rfl rfl (o_mv tk rfl (Wk.refl _)) ?_
                    refine wpdS_mv (a := (.fptr (c_api_Msg x0) 5)) rfl rfl rfl (o_c tk false rfl (fun _ => rfl)) ?_
                    refine wpdS_mv (a := (.fptr (c_api_Msg x0) 6)) rfl rfl rfl (o_c tk false rfl (fun _ => rfl)) ?_
                    refine wpdS_mv (a := (eI x0.X.Version)) rfl rfl rfl (o_ld tk rfl rfl) ?_
                    refine wpdS_mv (a := (.fptr (c_api_Msg x0) 5)) rfl rfl rfl (o_c tk false rfl (fun _ => rfl)) ?_
                    refine wpdS_mv (a := (.fptr (c_api_Msg x0) 8)) rfl rfl rfl (o_c tk false rfl (fun _ => rfl)) ?_
                    refine wpdS_mv (a := (eI x0.X.Ends)) rfl rfl rfl (o_ld tk rfl rfl) ?_
                    refine wpdS_lt H68 (eF 1 eI) rfl rfl rfl (o_c tk false rfl (fun _ => rfl)) fun v70 H69 => ?_
                    refine wpdS_bd H69 (eL 1 (@eU .u8 8)) rfl rfl rfl (fun v72 hv => OpP.of_call rfl rfl (.cons (.of_eq rfl) (.cons wk_no .nil)) (octets_Put_ok hv)) fun v72 hv72 H71 => ?_
                    refine wpdS_mv (a := (.fptr (c_api_Msg x0) 5)) rfl rfl rfl (o_c tk false rfl (fun _ => rfl)) ?_
                    refine wpdS_mv (a := (.fptr (c_api_Msg x0) 9)) rfl rfl rfl (o_c tk false rfl (fun _ => rfl)) ?_
                    refine wpdS_mv (a := ((eL 1 (@eU .u8 8)) x0.X.Value)) rfl rfl rfl (o_ld tk rfl rfl) ?_
                    refine wpdS_bd H71 (eL 1 (@eU .u8 8)) rfl rfl rfl (fun v74 hv => OpP.of_call rfl rfl (.cons (.of_eq rfl) (.cons (.of_eq rfl) .nil)) (octets_Bytes_ok hv)) fun v74 hv74 H73 => ?_
                    refine wpdS_mv (a := ((eL 1 (@eU .u8 8)) v74)) rfl rfl rfl (o_as tk rfl (Wk.refl _)) ?_
                    refine wpdS_nil ?_
                    exact ⟨(v74, (c17.1, c17.2 + 1)), inj_inl H73, (wkf_cons (.of_eq rfl) (wkf_cons (.of_eq rfl) (wkf_cons (.of_eq rfl) (wkf_nil _)))), hH⟩
                  · refine awp_skip ?_
                    exact ⟨(c16, (c17.1, c17.2 + 1)), inj_inl H68, (wkf_cons (.of_eq rfl) (wkf_cons (.of_eq rfl) (wkf_cons (.of_eq rfl) (wkf_nil _)))), hH⟩
                · refine awp_skip ?_
                  exact ⟨(c16, (c17.1, c17.2 + 1)), inj_inl H67, (wkf_cons (.of_eq rfl) (wkf_cons (.of_eq rfl) (wkf_cons (.of_eq rfl) (wkf_nil _)))), hH⟩
end Go.Proofs.YthkfilchighbhaaDoor
namespace Go.Proofs.YthkfilchighbhaaDoor
open Go Go.Va
set_option linter.unusedVariables false
set_option linter.unusedSimpArgs false
set_option maxRecDepth 20000
theorem butterylaw23_works_ok  {r : Bool} (H : butterylaw23_works = some r) (σ : St)  (hg : σ.gl = gls) : ACall Tryd.prog 8 [] σ (fun a τ => a = eB r ∧ τ = σ) := by
  unfold butterylaw23_works at H
  refine ACall.pure (acall_start tk Tryd.func8 (by decide) rfl (Nat.le_of_ble_eq_true rfl) ?_)
  have hH := Holds.init σ
  refine awp_seq ?_
  refine awp_region rfl ?_
  refine wpo_mv (a := (eB false)) rfl rfl rfl (o_as tk rfl (Wk.refl _)) ?_
  refine wpo_nil ?_
  refine awp_seq ?_
  refine awp_region rfl ?_
  refine wpo_mv (a := (eF 1 (@eU .u8 8) ([118#8] : List (BitVec 8)))) rfl rfl rfl (o_c tk false rfl (fun _ => rfl)) ?_
  refine wpo_mv (a := (eF 1 (@eU .u8 8) ([118#8] : List (BitVec 8)))) rfl rfl rfl (o_bconst tk td22 td5 rfl) ?_
  refine wpo_lt H e_api_Entry rfl rfl rfl (OpP.wk (wkf_up (t := 11) (a := ((eL 1 (@eU .u8 8)) ([118#8] : List (BitVec 8)))) wk_no) (o_c tk false rfl (fun _ => rfl))) fun v2 H1 => ?_
  refine wpo_lt H1 e_api_Msg rfl rfl rfl (o_c tk false rfl (fun _ => rfl)) fun v4 H3 => ?_
  refine wpo_a (av := fun id => .ref id 0) rfl rfl rfl (h_allocw tk hH ty26 (c_api_Msg z_api_Msg) (.cons (.of_eq rfl) (.cons (.of_eq rfl) (.cons (.of_eq rfl) (.cons (.of_eq rfl) (.cons (.of_eq rfl) (.cons (.of_eq rfl) (.cons (.of_eq rfl) (.cons (.of_eq rfl) (.cons (.of_eq rfl) (.cons (wk_nils _) (.cons (.of_eq rfl) .nil)))))))))))) fun id5 τ ⟨hH, n6⟩ => ?_
  obtain ⟨c8, hc9, H7⟩ := lt_ex H3
  refine wpo_z rfl rfl (h_st tk hH 0 rfl ty26 (by simp) rfl rfl (.of_eq rfl) (b := (e_api_Msg v4)) (enc26.flat _) rfl (Nat.le_of_ble_eq_true rfl) (c_api_Msg c8) (by rw [← hc9]; rfl)) fun τ hH => ?_
  refine wpo_nil ?_
  refine awp_seq ?_
  refine awp_region rfl ?_
  refine wpo_rd (a := (e_api_Msg c8)) rfl rfl rfl (h_ld tk hH 0 rfl rfl rfl) ?_
  refine wpo_bd H7 (fun r => .tup [(eL 1 (@eU .u8 8)) r.1, eErr r.2]) rfl rfl rfl (fun v11 hv => OpP.of_call rfl rfl (.cons (.of_eq rfl) .nil) (wire_Put_ok hv)) fun v11 hv11 H10 => ?_
  refine wpo_mv (a := (.tup [((eL 1 (@eU .u8 8)) v11.1), (eErr v11.2)])) rfl rfl rfl (o_mv tk rfl (Wk.refl _)) ?_
  refine wpo_mv (a := ((eL 1 (@eU .u8 8)) v11.1)) rfl rfl rfl (o_ext tk rfl rfl) ?_
  refine wpo_mv (a := (eErr v11.2)) rfl rfl rfl (o_ext tk rfl rfl) ?_
  refine wpo_mv (a := ((eL 1 (@eU .u8 8)) v11.1)) rfl rfl rfl (o_as tk rfl (Wk.refl _)) ?_
  refine wpo_mv (a := (eErr v11.2)) rfl rfl rfl (o_as tk rfl (Wk.refl _)) ?_
  refine wpo_nil ?_
  refine awp_seq ?_
  refine awp_region rfl ?_
  refine wpo_mv (a := ((eL 1 (@eU .u8 8)) v11.1)) rfl rfl rfl (o_mv tk rfl (Wk.refl _)) ?_
  refine wpo_bd H10 (fun r => .tup [e_api_Msg r.1, eErr r.2]) rfl rfl rfl (fun v13 hv => OpP.of_call rfl rfl (.cons (.of_eq rfl) .nil) (wire_Get_ok hv)) fun v13 hv13 H12 => ?_
  refine wpo_mv (a := (.tup [(e_api_Msg v13.1), (eErr v13.2)])) rfl rfl rfl (o_mv tk rfl (Wk.refl _)) ?_
  refine wpo_mv (a := (e_api_Msg v13.1)) rfl rfl rfl (o_ext tk rfl rfl) ?_
  refine wpo_mv (a := (eErr v13.2)) rfl rfl rfl (o_ext tk rfl rfl) ?_
  refine wpo_a (av := fun id => .ref id 0) rfl rfl rfl (h_allocw tk hH ty26 (c_api_Msg z_api_Msg) (.cons (.of_eq rfl) (.cons (.of_eq rfl) (.cons (.of_eq rfl) (.cons (.of_eq rfl) (.cons (.of_eq rfl) (.cons (.of_eq rfl) (.cons (.of_eq rfl) (.cons (.of_eq rfl) (.cons (.of_eq rfl) (.cons (wk_nils _) (.cons (.of_eq rfl) .nil)))))))))))) fun id14 τ ⟨hH, n15⟩ => ?_
  obtain ⟨c17, hc18, H16⟩ := lt_ex H12
  refine wpo_z rfl rfl (h_st tk hH 0 rfl ty26 (by simp) rfl rfl (.of_eq rfl) (b := (e_api_Msg v13.1)) (enc26.flat _) rfl (Nat.le_of_ble_eq_true rfl) (c_api_Msg c17) (by rw [← hc18]; rfl)) fun τ hH => ?_
  refine wpo_mv (a := (eErr v13.2)) rfl rfl rfl (o_as tk rfl (Wk.refl _)) ?_
  refine wpo_nil ?_
  refine awp_seq ?_
  refine awp_region rfl ?_
  refine wpo_lt H16 e_api_Msg rfl rfl rfl (o_cw tk false (a := .agg ([(eI (1 : Int))] ++ [(eI (3 : Int))] ++ [AV.int .i64 0] ++ [(eI (1 : Int))] ++ [AV.int .i64 0] ++ [AV.str ⟨#[]⟩, AV.int .i64 0, AV.int .i64 0, AV.int .i64 0, AV.nils] ++ [(eB true)])) rfl (fun _ => rfl) (wk_agg (WkL.append (WkL.append (WkL.append (WkL.append (WkL.append (WkL.append (.refl _) (.refl _)) (.cons (.of_eq rfl) .nil)) (.refl _)) (.cons (.of_eq rfl) .nil)) (.cons (.of_eq rfl) (.cons (.of_eq rfl) (.cons (.of_eq rfl) (.cons (.of_eq rfl) (.cons (wk_nils _) .nil)))))) (.refl _)))) fun v20 H19 => ?_
  refine wpo_bd H19 (fun r => .tup [(eL 1 (@eU .u8 8)) r.1, eErr r.2]) rfl rfl rfl (fun v22 hv => OpP.of_call rfl rfl (.cons (.of_eq rfl) .nil) (wire_Put_ok hv)) fun v22 hv22 H21 => ?_
  refine wpo_mv (a := (.tup [((eL 1 (@eU .u8 8)) v22.1), (eErr v22.2)])) rfl rfl rfl (o_mv tk rfl (Wk.refl _)) ?_
  refine wpo_mv (a := ((eL 1 (@eU .u8 8)) v22.1)) rfl rfl rfl (o_ext tk rfl rfl) ?_
  refine wpo_mv (a := (eErr v22.2)) rfl rfl rfl (o_ext tk rfl rfl) ?_
  refine wpo_mv (a := ((eL 1 (@eU .u8 8)) v22.1)) rfl rfl rfl (o_as tk rfl (Wk.refl _)) ?_
  refine wpo_mv (a := (eErr v22.2)) rfl rfl rfl (o_as tk rfl (Wk.refl _)) ?_
  refine wpo_nil ?_
  refine awp_seq ?_
  refine awp_region rfl ?_
  refine wpo_mv (a := (eF 1 (@eU .u8 8) ([1#8, 2#8, 3#8, 4#8, 5#8] : List (BitVec 8)))) rfl rfl rfl (o_c tk false rfl (fun _ => rfl)) ?_
  refine wpo_bd H21 (fun r => .tup [e_api_Msg r.1, eErr r.2]) rfl rfl rfl (fun v24 hv => OpP.of_call rfl rfl (.cons wk_no .nil) (wire_Get_ok hv)) fun v24 hv24 H23 => ?_
  refine wpo_mv (a := (.tup [(e_api_Msg v24.1), (eErr v24.2)])) rfl rfl rfl (o_mv tk rfl (Wk.refl _)) ?_
  refine wpo_mv (a := (e_api_Msg v24.1)) rfl rfl rfl (o_ext tk rfl rfl) ?_
  refine wpo_mv (a := (eErr v24.2)) rfl rfl rfl (o_ext tk rfl rfl) ?_
  refine wpo_a (av := fun id => .ref id 0) rfl rfl rfl (h_allocw tk hH ty26 (c_api_Msg z_api_Msg) (.cons (.of_eq rfl) (.cons (.of_eq rfl) (.cons (.of_eq rfl) (.cons (.of_eq rfl) (.cons (.of_eq rfl) (.cons (.of_eq rfl) (.cons (.of_eq rfl) (.cons (.of_eq rfl) (.cons (.of_eq rfl) (.cons (wk_nils _) (.cons (.of_eq rfl) .nil)))))))))))) fun id25 τ ⟨hH, n26⟩ => ?_
  obtain ⟨c28, hc29, H27⟩ := lt_ex H23
  refine wpo_z rfl rfl (h_st tk hH 0 rfl ty26 (by simp) rfl rfl (.of_eq rfl) (b := (e_api_Msg v24.1)) (enc26.flat _) rfl (Nat.le_of_ble_eq_true rfl) (c_api_Msg c28) (by rw [← hc29]; rfl)) fun τ hH => ?_
  refine wpo_mv (a := (eErr v24.2)) rfl rfl rfl (o_as tk rfl (Wk.refl _)) ?_
  refine wpo_nil ?_
  refine awp_seq ?_
  refine awp_region rfl ?_
  refine wpo_mv (a := (eErr v11.2)) rfl rfl rfl (o_mv tk rfl (Wk.refl _)) ?_
  refine wpo_lt H27 eB rfl rfl rfl (o_err_eql tk rfl rfl rfl) fun v31 H30 => ?_
  refine wpo_mv (a := (eB v31)) rfl rfl rfl (o_mv tk rfl (Wk.refl _)) ?_
  refine if_split H30 (fun hb H32 => ?_) (fun hb H32 => ?_)
  · subst hb
    refine wpo_mv (a := (eErr v13.2)) rfl rfl rfl (o_mv tk rfl (Wk.refl _)) ?_
    refine wpo_lt H32 eB rfl rfl rfl (o_err_eql tk rfl rfl rfl) fun v34 H33 => ?_
    refine wpo_mv (a := (eB v34)) rfl rfl rfl (o_pick_t tk rfl rfl (Wk.refl _)) ?_
    refine wpo_mv (a := (eB v34)) rfl rfl rfl (o_mv tk rfl (Wk.refl _)) ?_
    refine if_split H33 (fun hb H35 => ?_) (fun hb H35 => ?_)
    · subst hb
      refine wpo_rd (a := (e_api_Msg c8)) rfl rfl rfl (h_ld tk hH 2 rfl rfl rfl) ?_
      refine wpo_rd (a := (e_api_Msg c17)) rfl rfl rfl (h_ld tk hH 1 rfl rfl rfl) ?_
      refine wpo_bd H35 eB rfl rfl rfl (fun v37 hv => OpP.of_call rfl rfl (.cons (.of_eq rfl) (.cons (.of_eq rfl) .nil)) (wire_Same_ok hv)) fun v37 hv37 H36 => ?_
      refine wpo_mv (a := (eB v37)) rfl rfl rfl (o_pick_t tk rfl rfl (Wk.refl _)) ?_
      refine wpo_mv (a := (eB v37)) rfl rfl rfl (o_mv tk rfl (Wk.refl _)) ?_
      refine if_split H36 (fun hb H38 => ?_) (fun hb H38 => ?_)
      · subst hb
        refine wpo_mv (a := (eErr v22.2)) rfl rfl rfl (o_mv tk rfl (Wk.refl _)) ?_
        refine wpo_bdr H38 eI rfl rfl rfl (fun v40 hv => h_callr rfl rfl (.cons (.of_eq rfl) .nil) (trouble_Of_ok hv _ (hH.gl.trans hg))) fun v40 hv40 H39 => ?_
        refine wpo_lt H39 eB rfl rfl rfl (o_ar tk rfl rfl rfl) fun v42 H41 => ?_
        refine wpo_mv (a := (eB v42)) rfl rfl rfl (o_pick_t tk rfl rfl (Wk.refl _)) ?_
        refine wpo_mv (a := (eB v42)) rfl rfl rfl (o_mv tk rfl (Wk.refl _)) ?_
        refine if_split H41 (fun hb H43 => ?_) (fun hb H43 => ?_)
        · subst hb
          refine wpo_mv (a := (eErr v24.2)) rfl rfl rfl (o_mv tk rfl (Wk.refl _)) ?_
          refine wpo_bdr H43 eI rfl rfl rfl (fun v45 hv => h_callr rfl rfl (.cons (.of_eq rfl) .nil) (trouble_Of_ok hv _ (hH.gl.trans hg))) fun v45 hv45 H44 => ?_
          refine wpo_lt H44 eB rfl rfl rfl (o_ar tk rfl rfl rfl) fun v47 H46 => ?_
          refine wpo_mv (a := (eB v47)) rfl rfl rfl (o_pick_t tk rfl rfl (Wk.refl _)) ?_
          refine wpo_mv (a := (eB v47)) rfl rfl rfl (o_mv tk rfl (Wk.refl _)) ?_
          refine if_split H46 (fun hb H48 => ?_) (fun hb H48 => ?_)
          · subst hb
            refine wpo_mv (a := ((eL 1 (@eU .u8 8)) v11.1)) rfl rfl rfl (o_mv tk rfl (Wk.refl _)) ?_
            refine wpo_lt H48 eI rfl rfl rfl (o_len tk td22 rfl) fun v50 H49 => ?_
            refine wpo_lt H49 eB rfl rfl rfl (o_ar tk rfl rfl rfl) fun v52 H51 => ?_
            refine wpo_mv (a := (eB v52)) rfl rfl rfl (o_pick_t tk rfl rfl (Wk.refl _)) ?_
            refine wpo_mv (a := (eB v52)) rfl rfl rfl (o_mv tk rfl (Wk.refl _)) ?_
            refine if_split H51 (fun hb H53 => ?_) (fun hb H53 => ?_)
            · subst hb
              refine wpo_rd (a := (e_api_Msg c8)) rfl rfl rfl (h_ld tk hH 2 rfl rfl rfl) ?_
              refine wpo_bd H53 eErr rfl rfl rfl (fun v55 hv => OpP.of_call rfl rfl (.cons (.of_eq rfl) .nil) (wire_Check_ok hv)) fun v55 hv55 H54 => ?_
              refine wpo_lt H54 eB rfl rfl rfl (o_err_eql tk rfl rfl rfl) fun v57 H56 => ?_
              refine wpo_mv (a := (eB v57)) rfl rfl rfl (o_pick_t tk rfl rfl (Wk.refl _)) ?_
              refine wpo_mv (a := (eB v57)) rfl rfl rfl (o_as tk rfl (Wk.refl _)) ?_
              refine wpo_nil ?_
              refine awp_ret ?_
              obtain rfl := Option.some.inj H56
              exact ⟨_, (eB v57), rfl, (.of_eq rfl), .of_eq ((enc_b td4 sz4).cut _ _ _), (((hH.noT.drop n26).drop n15).drop n6)⟩
            · subst hb
              refine wpo_skip rfl rfl rfl ?_
              refine wpo_skip rfl rfl rfl ?_
              refine wpo_skip rfl rfl rfl ?_
              refine wpo_mv (a := (eB false)) rfl rfl rfl (o_pick_f tk rfl rfl (Wk.refl _)) ?_
              refine wpo_mv (a := (eB false)) rfl rfl rfl (o_as tk rfl (Wk.refl _)) ?_
              refine wpo_nil ?_
              refine awp_ret ?_
              obtain rfl := Option.some.inj H53
              exact ⟨_, (eB false), rfl, (.of_eq rfl), .of_eq ((enc_b td4 sz4).cut _ _ _), (((hH.noT.drop n26).drop n15).drop n6)⟩
          · subst hb
            refine wpo_skip rfl rfl rfl ?_
            refine wpo_skip rfl rfl rfl ?_
            refine wpo_skip rfl rfl rfl ?_
            refine wpo_mv (a := (eB false)) rfl rfl rfl (o_pick_f tk rfl rfl (Wk.refl _)) ?_
            refine wpo_mv (a := (eB false)) rfl rfl rfl (o_mv tk rfl (Wk.refl _)) ?_
            refine wpo_skip rfl rfl rfl ?_
            refine wpo_skip rfl rfl rfl ?_
            refine wpo_skip rfl rfl rfl ?_
            refine wpo_mv (a := (eB false)) rfl rfl rfl (o_pick_f tk rfl rfl (Wk.refl _)) ?_
            refine wpo_mv (a := (eB false)) rfl rfl rfl (o_as tk rfl (Wk.refl _)) ?_
            refine wpo_nil ?_
            refine awp_ret ?_
            obtain rfl := Option.some.inj H48
            exact ⟨_, (eB false), rfl, (.of_eq rfl), .of_eq ((enc_b td4 sz4).cut _ _ _), (((hH.noT.drop n26).drop n15).drop n6)⟩
        · subst hb
          refine wpo_skip rfl rfl rfl ?_
          refine wpo_skip rfl rfl rfl ?_
          refine wpo_skip rfl rfl rfl ?_
          refine wpo_mv (a := (eB false)) rfl rfl rfl (o_pick_f tk rfl rfl (Wk.refl _)) ?_
          refine wpo_mv (a := (eB false)) rfl rfl rfl (o_mv tk rfl (Wk.refl _)) ?_
          refine wpo_skip rfl rfl rfl ?_
          refine wpo_skip rfl rfl rfl ?_
          refine wpo_skip rfl rfl rfl ?_
          refine wpo_mv (a := (eB false)) rfl rfl rfl (o_pick_f tk rfl rfl (Wk.refl _)) ?_
          refine wpo_mv (a := (eB false)) rfl rfl rfl (o_mv tk rfl (Wk.refl _)) ?_
          refine wpo_skip rfl rfl rfl ?_
          refine wpo_skip rfl rfl rfl ?_
          refine wpo_skip rfl rfl rfl ?_
          refine wpo_mv (a := (eB false)) rfl rfl rfl (o_pick_f tk rfl rfl (Wk.refl _)) ?_
          refine wpo_mv (a := (eB false)) rfl rfl rfl (o_as tk rfl (Wk.refl _)) ?_
          refine wpo_nil ?_
          refine awp_ret ?_
          obtain rfl := Option.some.inj H43
          exact ⟨_, (eB false), rfl, (.of_eq rfl), .of_eq ((enc_b td4 sz4).cut _ _ _), (((hH.noT.drop n26).drop n15).drop n6)⟩
      · subst hb
        refine wpo_skip rfl rfl rfl ?_
        refine wpo_skip rfl rfl rfl ?_
        refine wpo_skip rfl rfl rfl ?_
        refine wpo_mv (a := (eB false)) rfl rfl rfl (o_pick_f tk rfl rfl (Wk.refl _)) ?_
        refine wpo_mv (a := (eB false)) rfl rfl rfl (o_mv tk rfl (Wk.refl _)) ?_
        refine wpo_skip rfl rfl rfl ?_
        refine wpo_skip rfl rfl rfl ?_
        refine wpo_skip rfl rfl rfl ?_
        refine wpo_mv (a := (eB false)) rfl rfl rfl (o_pick_f tk rfl rfl (Wk.refl _)) ?_
        refine wpo_mv (a := (eB false)) rfl rfl rfl (o_mv tk rfl (Wk.refl _)) ?_
        refine wpo_skip rfl rfl rfl ?_
        refine wpo_skip rfl rfl rfl ?_
        refine wpo_skip rfl rfl rfl ?_
        refine wpo_mv (a := (eB false)) rfl rfl rfl (o_pick_f tk rfl rfl (Wk.refl _)) ?_
        refine wpo_mv (a := (eB false)) rfl rfl rfl (o_mv tk rfl (Wk.refl _)) ?_
        refine wpo_skip rfl rfl rfl ?_
        refine wpo_skip rfl rfl rfl ?_
        refine wpo_skip rfl rfl rfl ?_
        refine wpo_mv (a := (eB false)) rfl rfl rfl (o_pick_f tk rfl rfl (Wk.refl _)) ?_
        refine wpo_mv (a := (eB false)) rfl rfl rfl (o_as tk rfl (Wk.refl _)) ?_
        refine wpo_nil ?_
        refine awp_ret ?_
        obtain rfl := Option.some.inj H38
        exact ⟨_, (eB false), rfl, (.of_eq rfl), .of_eq ((enc_b td4 sz4).cut _ _ _), (((hH.noT.drop n26).drop n15).drop n6)⟩
    · subst hb
      refine wpo_skip rfl rfl rfl ?_
      refine wpo_skip rfl rfl rfl ?_
      refine wpo_skip rfl rfl rfl ?_
      refine wpo_mv (a := (eB false)) rfl rfl rfl (o_pick_f tk rfl rfl (Wk.refl _)) ?_
      refine wpo_mv (a := (eB false)) rfl rfl rfl (o_mv tk rfl (Wk.refl _)) ?_
      refine wpo_skip rfl rfl rfl ?_
      refine wpo_skip rfl rfl rfl ?_
      refine wpo_skip rfl rfl rfl ?_
      refine wpo_mv (a := (eB false)) rfl rfl rfl (o_pick_f tk rfl rfl (Wk.refl _)) ?_
      refine wpo_mv (a := (eB false)) rfl rfl rfl (o_mv tk rfl (Wk.refl _)) ?_
      refine wpo_skip rfl rfl rfl ?_
      refine wpo_skip rfl rfl rfl ?_
      refine wpo_skip rfl rfl rfl ?_
      refine wpo_mv (a := (eB false)) rfl rfl rfl (o_pick_f tk rfl rfl (Wk.refl _)) ?_
      refine wpo_mv (a := (eB false)) rfl rfl rfl (o_mv tk rfl (Wk.refl _)) ?_
      refine wpo_skip rfl rfl rfl ?_
      refine wpo_skip rfl rfl rfl ?_
      refine wpo_skip rfl rfl rfl ?_
      refine wpo_mv (a := (eB false)) rfl rfl rfl (o_pick_f tk rfl rfl (Wk.refl _)) ?_
      refine wpo_mv (a := (eB false)) rfl rfl rfl (o_mv tk rfl (Wk.refl _)) ?_
      refine wpo_skip rfl rfl rfl ?_
      refine wpo_skip rfl rfl rfl ?_
      refine wpo_skip rfl rfl rfl ?_
      refine wpo_mv (a := (eB false)) rfl rfl rfl (o_pick_f tk rfl rfl (Wk.refl _)) ?_
      refine wpo_mv (a := (eB false)) rfl rfl rfl (o_as tk rfl (Wk.refl _)) ?_
      refine wpo_nil ?_
      refine awp_ret ?_
      obtain rfl := Option.some.inj H35
      exact ⟨_, (eB false), rfl, (.of_eq rfl), .of_eq ((enc_b td4 sz4).cut _ _ _), (((hH.noT.drop n26).drop n15).drop n6)⟩
  · subst hb
    refine wpo_skip rfl rfl rfl ?_
    refine wpo_skip rfl rfl rfl ?_
    refine wpo_mv (a := (eB false)) rfl rfl rfl (o_pick_f tk rfl rfl (Wk.refl _)) ?_
    refine wpo_mv (a := (eB false)) rfl rfl rfl (o_mv tk rfl (Wk.refl _)) ?_
    refine wpo_skip rfl rfl rfl ?_
    refine wpo_skip rfl rfl rfl ?_
    refine wpo_skip rfl rfl rfl ?_
    refine wpo_mv (a := (eB false)) rfl rfl rfl (o_pick_f tk rfl rfl (Wk.refl _)) ?_
    refine wpo_mv (a := (eB false)) rfl rfl rfl (o_mv tk rfl (Wk.refl _)) ?_
    refine wpo_skip rfl rfl rfl ?_
    refine wpo_skip rfl rfl rfl ?_
    refine wpo_skip rfl rfl rfl ?_
    refine wpo_mv (a := (eB false)) rfl rfl rfl (o_pick_f tk rfl rfl (Wk.refl _)) ?_
    refine wpo_mv (a := (eB false)) rfl rfl rfl (o_mv tk rfl (Wk.refl _)) ?_
    refine wpo_skip rfl rfl rfl ?_
    refine wpo_skip rfl rfl rfl ?_
    refine wpo_skip rfl rfl rfl ?_
    refine wpo_mv (a := (eB false)) rfl rfl rfl (o_pick_f tk rfl rfl (Wk.refl _)) ?_
    refine wpo_mv (a := (eB false)) rfl rfl rfl (o_mv tk rfl (Wk.refl _)) ?_
    refine wpo_skip rfl rfl rfl ?_
    refine wpo_skip rfl rfl rfl ?_
    refine wpo_skip rfl rfl rfl ?_
    refine wpo_mv (a := (eB false)) rfl rfl rfl (o_pick_f tk rfl rfl (Wk.refl _)) ?_
    refine wpo_mv (a := (eB false)) rfl rfl rfl (o_mv tk rfl (Wk.refl _)) ?_
    refine wpo_skip rfl rfl rfl ?_
    refine wpo_skip rfl rfl rfl ?_
    refine wpo_skip rfl rfl rfl ?_
    refine wpo_mv (a := (eB false)) rfl rfl rfl (o_pick_f tk rfl rfl (Wk.refl _)) ?_
    refine wpo_mv (a := (eB false)) rfl rfl rfl (o_as tk rfl (Wk.refl _)) ?_
    refine wpo_nil ?_
    refine awp_ret ?_
    obtain rfl := Option.some.inj H32
    exact ⟨_, (eB false), rfl, (.of_eq rfl), .of_eq ((enc_b td4 sz4).cut _ _ _), (((hH.noT.drop n26).drop n15).drop n6)⟩
end Go.Proofs.YthkfilchighbhaaDoor
namespace Go.Proofs.YthkfilchighbhaaDoor
open Go Go.Va
set_option linter.unusedVariables false
set_option linter.unusedSimpArgs false
set_option maxRecDepth 20000
theorem butterylaw23_WireBack_ok {x0 : api_Msg} {x1 : List (BitVec 8)} {r : Bool} (H : butterylaw23_WireBack x0 x1 = some r) (σ : St)  (hg : σ.gl = gls) : ACall Tryd.prog 5 [(e_api_Msg x0), ((eL 1 (@eU .u8 8)) x1)] σ (fun a τ => a = eB r ∧ τ = σ) := by
  unfold butterylaw23_WireBack at H
  refine ACall.pure (acall_start tk Tryd.func5 (by decide) rfl (Nat.le_of_ble_eq_true rfl) ?_)
  have hH := Holds.init σ
  refine awp_seq ?_
  refine awp_region rfl ?_
  refine wpo_mv (a := (.fptr (c_api_Msg x0) 0)) rfl rfl rfl (o_boxf tk rfl (.of_eq rfl) (b := (e_api_Msg x0)) (enc26.flat _)) ?_
  refine wpo_mv (a := (eB false)) rfl rfl rfl (o_as tk rfl (Wk.refl _)) ?_
  refine wpo_nil ?_
  refine awp_seq ?_
  refine awp_seq ?_
  obtain ⟨s1, hs3, hj4⟩ := Option.bind_eq_some_iff.1 H
  refine awp_cutn (fun fr τ => WkF fr (fm [(1, ((eL 1 (@eU .u8 8)) x1)), (2, (.fptr (c_api_Msg x0) 0)), (20, (eB s1))]) ∧ Holds σ [] [] τ) ?_ ?_
  · rintro fr τ ⟨hfr, hH⟩
    have H14 := hj4
    refine AWP.fm [(1, ((eL 1 (@eU .u8 8)) x1)), (2, (.fptr (c_api_Msg x0) 0)), (20, (eB s1))] hfr ?_
    refine awp_if H14 rfl (fun H15 => ?_) (fun H15 => ?_)
    · refine awp_seq ?_
      refine awp_region rfl ?_
      refine wpo_bdr H15 eB rfl rfl rfl (fun v17 hv => h_callr rfl rfl .nil (butterylaw23_works_ok hv _ (hH.gl.trans hg))) fun v17 hv17 H16 => ?_
      refine wpo_mv (a := (eB v17)) rfl rfl rfl (o_as tk rfl (Wk.refl _)) ?_
      refine wpo_nil ?_
      refine awp_ret ?_
      obtain rfl := Option.some.inj H16
      exact ⟨_, (eB v17), rfl, (.of_eq rfl), .of_eq ((enc_b td4 sz4).cut _ _ _), hH.noT⟩
    · refine awp_skip ?_
      refine awp_seq ?_
      refine awp_seq ?_
      refine awp_region rfl ?_
      refine wpo_mv (a := (e_api_Msg x0)) rfl rfl rfl (o_ld tk rfl rfl) ?_
      refine wpo_bd H15 eI rfl rfl rfl (fun v19 hv => OpP.of_call rfl rfl (.cons (.of_eq rfl) .nil) (butteryref23_Check_ok hv)) fun v19 hv19 H18 => ?_
      refine wpo_lt H18 eB rfl rfl rfl (o_ar tk rfl rfl rfl) fun v21 H20 => ?_
      refine wpo_nil ?_
      obtain ⟨o23, hs24, hj25⟩ := Option.bind_eq_some_iff.1 H20
      refine awp_cutn (fun fr τ => ∃ s22 : Unit, o23 = .inl s22 ∧ WkF fr (fm [(1, ((eL 1 (@eU .u8 8)) x1))]) ∧ Holds σ [] [] τ) ?_ ?_
      · rintro fr τ ⟨s22, rfl, hfr, hH⟩
        have H53 := hj25
        simp only [Sum.elim_inl] at H53
        refine AWP.fm [(1, ((eL 1 (@eU .u8 8)) x1))] hfr ?_
        refine awp_seq ?_
        refine awp_region rfl ?_
        refine wpo_mv (a := ((eL 1 (@eU .u8 8)) x1)) rfl rfl rfl (o_mv tk rfl (Wk.refl _)) ?_
        refine wpo_bd H53 (eL 1 (@eU .u8 8)) rfl rfl rfl (fun v55 hv => OpP.of_call rfl rfl (.cons (.of_eq rfl) .nil) (butteryref03_Seal_ok hv)) fun v55 hv55 H54 => ?_
        refine wpo_bd H54 (fun r => .tup [e_api_Msg r.1, eErr r.2]) rfl rfl rfl (fun v57 hv => OpP.of_call rfl rfl (.cons (.of_eq rfl) .nil) (wire_Get_ok hv)) fun v57 hv57 H56 => ?_
        refine wpo_mv (a := (.tup [(e_api_Msg v57.1), (eErr v57.2)])) rfl rfl rfl (o_mv tk rfl (Wk.refl _)) ?_
        refine wpo_mv (a := (e_api_Msg v57.1)) rfl rfl rfl (o_ext tk rfl rfl) ?_
        refine wpo_mv (a := (eErr v57.2)) rfl rfl rfl (o_ext tk rfl rfl) ?_
        refine wpo_a (av := fun id => .ref id 0) rfl rfl rfl (h_allocw tk hH ty26 (c_api_Msg z_api_Msg) (.cons (.of_eq rfl) (.cons (.of_eq rfl) (.cons (.of_eq rfl) (.cons (.of_eq rfl) (.cons (.of_eq rfl) (.cons (.of_eq rfl) (.cons (.of_eq rfl) (.cons (.of_eq rfl) (.cons (.of_eq rfl) (.cons (wk_nils _) (.cons (.of_eq rfl) .nil)))))))))))) fun id58 τ ⟨hH, n59⟩ => ?_
        obtain ⟨c61, hc62, H60⟩ := lt_ex H56
        refine wpo_z rfl rfl (h_st tk hH 0 rfl ty26 (by simp) rfl rfl (.of_eq rfl) (b := (e_api_Msg v57.1)) (enc26.flat _) rfl (Nat.le_of_ble_eq_true rfl) (c_api_Msg c61) (by rw [← hc62]; rfl)) fun τ hH => ?_
        refine wpo_mv (a := (eErr v57.2)) rfl rfl rfl (o_as tk rfl (Wk.refl _)) ?_
        refine wpo_nil ?_
        refine awp_seq ?_
        refine awp_seq ?_
        refine awp_region rfl ?_
        refine wpo_mv (a := (eErr v57.2)) rfl rfl rfl (o_mv tk rfl (Wk.refl _)) ?_
        refine wpo_lt H60 eB rfl rfl rfl (o_err_neq tk rfl rfl rfl) fun v64 H63 => ?_
        refine wpo_nil ?_
        refine awp_if H63 rfl (fun H65 => ?_) (fun H65 => ?_)
        · refine awp_seq ?_
          refine awp_region rfl ?_
          refine wpo_bdr H65 eB rfl rfl rfl (fun v67 hv => h_callr rfl rfl .nil (butterylaw23_works_ok hv _ (hH.gl.trans hg))) fun v67 hv67 H66 => ?_
          refine wpo_mv (a := (eB v67)) rfl rfl rfl (o_as tk rfl (Wk.refl _)) ?_
          refine wpo_nil ?_
          refine awp_ret ?_
          obtain rfl := Option.some.inj H66
          exact ⟨_, (eB v67), rfl, (.of_eq rfl), .of_eq ((enc_b td4 sz4).cut _ _ _), (hH.noT.drop n59)⟩
        · refine awp_skip ?_
          refine awp_seq ?_
          refine awp_region rfl ?_
          refine wpo_rd (a := (e_api_Msg c61)) rfl rfl rfl (h_ld tk hH 0 rfl rfl rfl) ?_
          refine wpo_bd H65 (fun r => .tup [(eL 1 (@eU .u8 8)) r.1, eErr r.2]) rfl rfl rfl (fun v69 hv => OpP.of_call rfl rfl (.cons (.of_eq rfl) .nil) (wire_Put_ok hv)) fun v69 hv69 H68 => ?_
          refine wpo_mv (a := (.tup [((eL 1 (@eU .u8 8)) v69.1), (eErr v69.2)])) rfl rfl rfl (o_mv tk rfl (Wk.refl _)) ?_
          refine wpo_mv (a := ((eL 1 (@eU .u8 8)) v69.1)) rfl rfl rfl (o_ext tk rfl rfl) ?_
          refine wpo_mv (a := (eErr v69.2)) rfl rfl rfl (o_ext tk rfl rfl) ?_
          refine wpo_mv (a := ((eL 1 (@eU .u8 8)) v69.1)) rfl rfl rfl (o_as tk rfl (Wk.refl _)) ?_
          refine wpo_mv (a := (eErr v69.2)) rfl rfl rfl (o_as tk rfl (Wk.refl _)) ?_
          refine wpo_nil ?_
          refine awp_seq ?_
          refine awp_region rfl ?_
          refine wpo_mv (a := (eErr v69.2)) rfl rfl rfl (o_mv tk rfl (Wk.refl _)) ?_
          refine wpo_lt H68 eB rfl rfl rfl (o_err_eql tk rfl rfl rfl) fun v71 H70 => ?_
          refine wpo_mv (a := (eB v71)) rfl rfl rfl (o_mv tk rfl (Wk.refl _)) ?_
          refine if_split H70 (fun hb H72 => ?_) (fun hb H72 => ?_)
          · subst hb
            refine wpo_mv (a := ((eL 1 (@eU .u8 8)) v69.1)) rfl rfl rfl (o_mv tk rfl (Wk.refl _)) ?_
            refine wpo_mv (a := ((eL 1 (@eU .u8 8)) x1)) rfl rfl rfl (o_mv tk rfl (Wk.refl _)) ?_
            refine wpo_bd H72 (eL 1 (@eU .u8 8)) rfl rfl rfl (fun v74 hv => OpP.of_call rfl rfl (.cons (.of_eq rfl) .nil) (butteryref03_Seal_ok hv)) fun v74 hv74 H73 => ?_
            refine wpo_bd H73 eB rfl rfl rfl (fun v76 hv => OpP.of_call rfl rfl (.cons (.of_eq rfl) (.cons (.of_eq rfl) .nil)) (butteryref02_Same_ok hv)) fun v76 hv76 H75 => ?_
            refine wpo_mv (a := (eB v76)) rfl rfl rfl (o_pick_t tk rfl rfl (Wk.refl _)) ?_
            refine wpo_mv (a := (eB v76)) rfl rfl rfl (o_mv tk rfl (Wk.refl _)) ?_
            refine if_split H75 (fun hb H77 => ?_) (fun hb H77 => ?_)
            · subst hb
              refine wpo_bdr H77 eB rfl rfl rfl (fun v79 hv => h_callr rfl rfl .nil (butterylaw23_works_ok hv _ (hH.gl.trans hg))) fun v79 hv79 H78 => ?_
              refine wpo_mv (a := (eB v79)) rfl rfl rfl (o_pick_t tk rfl rfl (Wk.refl _)) ?_
              refine wpo_mv (a := (eB v79)) rfl rfl rfl (o_as tk rfl (Wk.refl _)) ?_
              refine wpo_nil ?_
              refine awp_ret ?_
              obtain rfl := Option.some.inj H78
              exact ⟨_, (eB v79), rfl, (.of_eq rfl), .of_eq ((enc_b td4 sz4).cut _ _ _), (hH.noT.drop n59)⟩
            · subst hb
              refine wpo_skip rfl rfl rfl ?_
              refine wpo_mv (a := (eB false)) rfl rfl rfl (o_pick_f tk rfl rfl (Wk.refl _)) ?_
              refine wpo_mv (a := (eB false)) rfl rfl rfl (o_as tk rfl (Wk.refl _)) ?_
              refine wpo_nil ?_
              refine awp_ret ?_
              obtain rfl := Option.some.inj H77
              exact ⟨_, (eB false), rfl, (.of_eq rfl), .of_eq ((enc_b td4 sz4).cut _ _ _), (hH.noT.drop n59)⟩
          · subst hb
            refine wpo_skip rfl rfl rfl ?_
            refine wpo_skip rfl rfl rfl ?_
            refine wpo_skip rfl rfl rfl ?_
            refine wpo_skip rfl rfl rfl ?_
            refine wpo_mv (a := (eB false)) rfl rfl rfl (o_pick_f tk rfl rfl (Wk.refl _)) ?_
            refine wpo_mv (a := (eB false)) rfl rfl rfl (o_mv tk rfl (Wk.refl _)) ?_
            refine wpo_skip rfl rfl rfl ?_
            refine wpo_mv (a := (eB false)) rfl rfl rfl (o_pick_f tk rfl rfl (Wk.refl _)) ?_
            refine wpo_mv (a := (eB false)) rfl rfl rfl (o_as tk rfl (Wk.refl _)) ?_
            refine wpo_nil ?_
            refine awp_ret ?_
            obtain rfl := Option.some.inj H72
            exact ⟨_, (eB false), rfl, (.of_eq rfl), .of_eq ((enc_b td4 sz4).cut _ _ _), (hH.noT.drop n59)⟩
      · refine awp_if hs24 rfl (fun H26 => ?_) (fun H26 => ?_)
        · refine awp_seq ?_
          refine awp_region rfl ?_
          refine wpo_mv (a := (e_api_Msg x0)) rfl rfl rfl (o_ld tk rfl rfl) ?_
          refine wpo_bd H26 (fun r => .tup [(eL 1 (@eU .u8 8)) r.1, eErr r.2]) rfl rfl rfl (fun v28 hv => OpP.of_call rfl rfl (.cons (.of_eq rfl) .nil) (wire_Put_ok hv)) fun v28 hv28 H27 => ?_
          refine wpo_mv (a := (.tup [((eL 1 (@eU .u8 8)) v28.1), (eErr v28.2)])) rfl rfl rfl (o_mv tk rfl (Wk.refl _)) ?_
          refine wpo_mv (a := ((eL 1 (@eU .u8 8)) v28.1)) rfl rfl rfl (o_ext tk rfl rfl) ?_
          refine wpo_mv (a := (eErr v28.2)) rfl rfl rfl (o_ext tk rfl rfl) ?_
          refine wpo_mv (a := ((eL 1 (@eU .u8 8)) v28.1)) rfl rfl rfl (o_as tk rfl (Wk.refl _)) ?_
          refine wpo_mv (a := (eErr v28.2)) rfl rfl rfl (o_as tk rfl (Wk.refl _)) ?_
          refine wpo_nil ?_
          refine awp_seq ?_
          refine awp_region rfl ?_
          refine wpo_mv (a := ((eL 1 (@eU .u8 8)) v28.1)) rfl rfl rfl (o_mv tk rfl (Wk.refl _)) ?_
          refine wpo_bd H27 (fun r => .tup [e_api_Msg r.1, eErr r.2]) rfl rfl rfl (fun v30 hv => OpP.of_call rfl rfl (.cons (.of_eq rfl) .nil) (wire_Get_ok hv)) fun v30 hv30 H29 => ?_
          refine wpo_mv (a := (.tup [(e_api_Msg v30.1), (eErr v30.2)])) rfl rfl rfl (o_mv tk rfl (Wk.refl _)) ?_
          refine wpo_mv (a := (e_api_Msg v30.1)) rfl rfl rfl (o_ext tk rfl rfl) ?_
          refine wpo_mv (a := (eErr v30.2)) rfl rfl rfl (o_ext tk rfl rfl) ?_
          refine wpo_a (av := fun id => .ref id 0) rfl rfl rfl (h_allocw tk hH ty26 (c_api_Msg z_api_Msg) (.cons (.of_eq rfl) (.cons (.of_eq rfl) (.cons (.of_eq rfl) (.cons (.of_eq rfl) (.cons (.of_eq rfl) (.cons (.of_eq rfl) (.cons (.of_eq rfl) (.cons (.of_eq rfl) (.cons (.of_eq rfl) (.cons (wk_nils _) (.cons (.of_eq rfl) .nil)))))))))))) fun id31 τ ⟨hH, n32⟩ => ?_
          obtain ⟨c34, hc35, H33⟩ := lt_ex H29
          refine wpo_z rfl rfl (h_st tk hH 0 rfl ty26 (by simp) rfl rfl (.of_eq rfl) (b := (e_api_Msg v30.1)) (enc26.flat _) rfl (Nat.le_of_ble_eq_true rfl) (c_api_Msg c34) (by rw [← hc35]; rfl)) fun τ hH => ?_
          refine wpo_mv (a := (eErr v30.2)) rfl rfl rfl (o_as tk rfl (Wk.refl _)) ?_
          refine wpo_nil ?_
          refine awp_seq ?_
          obtain ⟨s36, hs38, hj39⟩ := Option.bind_eq_some_iff.1 H33
          refine awp_cutn (fun fr τ => WkF fr (fm [(1, ((eL 1 (@eU .u8 8)) x1)), (46, (eB s36))]) ∧ Holds σ [(id31, (c_api_Msg c34))] [] τ) ?_ ?_
          · rintro fr τ ⟨hfr, hH⟩
            have H50 := hj39
            refine AWP.fm [(1, ((eL 1 (@eU .u8 8)) x1)), (46, (eB s36))] hfr ?_
            refine awp_if H50 rfl (fun H51 => ?_) (fun H51 => ?_)
            · refine awp_seq ?_
              refine awp_region rfl ?_
              refine wpo_mv (a := (eB false)) rfl rfl rfl (o_as tk rfl (Wk.refl _)) ?_
              refine wpo_nil ?_
              refine awp_ret ?_
              have e := Option.some.inj H51
              rw [← e] at hj25
              have H52 := (show some _ = some _ from hj25)
              obtain rfl := Option.some.inj H52
              exact ⟨_, (eB false), rfl, (.of_eq rfl), .of_eq ((enc_b td4 sz4).cut _ _ _), (hH.noT.drop n32)⟩
            · refine awp_skip ?_
              have e := Option.some.inj H51
              exact ⟨(), e.symm, (wkf_cons (.of_eq rfl) (wkf_nil _)), (hH.drop n32)⟩
          · refine awp_region rfl ?_
            refine wpo_mv (a := (eErr v28.2)) rfl rfl rfl (o_mv tk rfl (Wk.refl _)) ?_
            refine wpo_lt hs38 eB rfl rfl rfl (o_err_neq tk rfl rfl rfl) fun v41 H40 => ?_
            refine wpo_mv (a := (eB v41)) rfl rfl rfl (o_mv tk rfl (Wk.refl _)) ?_
            refine if_split H40 (fun hb H42 => ?_) (fun hb H42 => ?_)
            · subst hb
              refine wpo_skip rfl rfl rfl ?_
              refine wpo_skip rfl rfl rfl ?_
              refine wpo_mv (a := (eB true)) rfl rfl rfl (o_pick_t tk rfl rfl (Wk.refl _)) ?_
              refine wpo_mv (a := (eB true)) rfl rfl rfl (o_mv tk rfl (Wk.refl _)) ?_
              refine wpo_skip rfl rfl rfl ?_
              refine wpo_skip rfl rfl rfl ?_
              refine wpo_skip rfl rfl rfl ?_
              refine wpo_skip rfl rfl rfl ?_
              refine wpo_mv (a := (eB true)) rfl rfl rfl (o_pick_t tk rfl rfl (Wk.refl _)) ?_
              refine wpo_nil ?_
              have e := Option.some.inj H42
              subst e
              exact ⟨(wkf_cons (.of_eq rfl) (wkf_cons (.of_eq rfl) (wkf_nil _))), hH⟩
            · subst hb
              refine wpo_mv (a := (eErr v30.2)) rfl rfl rfl (o_mv tk rfl (Wk.refl _)) ?_
              refine wpo_lt H42 eB rfl rfl rfl (o_err_neq tk rfl rfl rfl) fun v44 H43 => ?_
              refine wpo_mv (a := (eB v44)) rfl rfl rfl (o_pick_f tk rfl rfl (Wk.refl _)) ?_
              refine wpo_mv (a := (eB v44)) rfl rfl rfl (o_mv tk rfl (Wk.refl _)) ?_
              refine if_split H43 (fun hb H45 => ?_) (fun hb H45 => ?_)
              · subst hb
                refine wpo_skip rfl rfl rfl ?_
                refine wpo_skip rfl rfl rfl ?_
                refine wpo_skip rfl rfl rfl ?_
                refine wpo_skip rfl rfl rfl ?_
                refine wpo_mv (a := (eB true)) rfl rfl rfl (o_pick_t tk rfl rfl (Wk.refl _)) ?_
                refine wpo_nil ?_
                have e := Option.some.inj H45
                subst e
                exact ⟨(wkf_cons (.of_eq rfl) (wkf_cons (.of_eq rfl) (wkf_nil _))), hH⟩
              · subst hb
                refine wpo_mv (a := (e_api_Msg x0)) rfl rfl rfl (o_ld tk rfl rfl) ?_
                refine wpo_rd (a := (e_api_Msg c34)) rfl rfl rfl (h_ld tk hH 0 rfl rfl rfl) ?_
                refine wpo_bd H45 eB rfl rfl rfl (fun v47 hv => OpP.of_call rfl rfl (.cons (.of_eq rfl) (.cons (.of_eq rfl) .nil)) (butteryref23_Same_ok hv)) fun v47 hv47 H46 => ?_
                refine wpo_lt H46 eB rfl rfl rfl (o_un tk rfl rfl) fun v49 H48 => ?_
                refine wpo_mv (a := (eB v49)) rfl rfl rfl (o_pick_f tk rfl rfl (Wk.refl _)) ?_
                refine wpo_nil ?_
                have e := Option.some.inj H48
                subst e
                exact ⟨(wkf_cons (.of_eq rfl) (wkf_cons (.of_eq rfl) (wkf_nil _))), hH⟩
        · refine awp_skip ?_
          have e := Option.some.inj H26
          exact ⟨(), e.symm, (wkf_cons (.of_eq rfl) (wkf_nil _)), hH⟩
  · refine awp_region rfl ?_
    refine wpo_mv (a := (e_api_Msg x0)) rfl rfl rfl (o_ld tk rfl rfl) ?_
    refine wpo_bd hs3 eB rfl rfl rfl (fun v6 hv => OpP.of_call rfl rfl (.cons (.of_eq rfl) .nil) (butterylaw23_light_ok hv)) fun v6 hv6 H5 => ?_
    refine wpo_lt H5 eB rfl rfl rfl (o_un tk rfl rfl) fun v8 H7 => ?_
    refine wpo_mv (a := (eB v8)) rfl rfl rfl (o_mv tk rfl (Wk.refl _)) ?_
    refine if_split H7 (fun hb H9 => ?_) (fun hb H9 => ?_)
    · subst hb
      refine wpo_skip rfl rfl rfl ?_
      refine wpo_skip rfl rfl rfl ?_
      refine wpo_skip rfl rfl rfl ?_
      refine wpo_mv (a := (eB true)) rfl rfl rfl (o_pick_t tk rfl rfl (Wk.refl _)) ?_
      refine wpo_nil ?_
      have e := Option.some.inj H9
      subst e
      exact ⟨(wkf_cons (.of_eq rfl) (wkf_cons (.of_eq rfl) (wkf_cons (.of_eq rfl) (wkf_nil _)))), hH⟩
    · subst hb
      refine wpo_mv (a := ((eL 1 (@eU .u8 8)) x1)) rfl rfl rfl (o_mv tk rfl (Wk.refl _)) ?_
      refine wpo_lt H9 eI rfl rfl rfl (o_len tk td22 rfl) fun v11 H10 => ?_
      refine wpo_lt H10 eB rfl rfl rfl (o_ar tk rfl rfl rfl) fun v13 H12 => ?_
      refine wpo_mv (a := (eB v13)) rfl rfl rfl (o_pick_f tk rfl rfl (Wk.refl _)) ?_
      refine wpo_nil ?_
      have e := Option.some.inj H12
      subst e
      exact ⟨(wkf_cons (.of_eq rfl) (wkf_cons (.of_eq rfl) (wkf_cons (.of_eq rfl) (wkf_nil _)))), hH⟩
end Go.Proofs.YthkfilchighbhaaDoor
namespace Go.Va
open Go
set_option linter.unusedVariables false
set_option linter.unusedSimpArgs false
theorem shr64_nat {n m : Nat} (h : m ≤ 64) : shr64 (n : Int) m = ((n / 2 ^ m : Nat) : Int) := by
  unfold shr64
  rw [Nat.min_eq_left h]
  have : (2 : Int) ^ m = ((2 ^ m : Nat) : Int) := by simp
  rw [this, Int.fdiv_eq_ediv_of_nonneg _ (Int.natCast_nonneg _), ← Int.natCast_ediv]
theorem quo64_nat {n m : Nat} (h : n < 9223372036854775808) : quo64 (n : Int) (m : Int) = ((n / m : Nat) : Int) := by
  unfold quo64
  have := Nat.div_le_self n m
  rw [Int.tdiv_eq_ediv_of_nonneg (Int.natCast_nonneg _), ← Int.natCast_ediv]
  generalize n / m = q at *
  exact w64_eq (by omega) (by omega)
theorem tmod_nat (n m : Nat) : Int.tmod (n : Int) (m : Int) = ((n % m : Nat) : Int) := by
  rw [Int.tmod_eq_emod_of_nonneg (Int.natCast_nonneg _)]; rfl
theorem or_low (a b : Nat) (h : b < 128) : a * 128 ||| b = a * 128 + b := by
  have := Nat.two_pow_add_eq_or_of_lt (i := 7) (b := b) (by omega) a
  rw [show 2 ^ 7 * a + b = a * 128 + b by omega, show 2 ^ 7 * a = a * 128 by omega] at this
  exact this.symm
theorem or64_nat {a b : Nat} (ha : a < 9223372036854775808) (hb : b < 9223372036854775808) : or64 (a : Int) (b : Int) = ((a ||| b : Nat) : Int) := by
  have h : a ||| b < 2 ^ 63 := Nat.or_lt_two_pow (by omega) (by omega)
  show w64 ((BitVec.ofInt 64 (a : Int) ||| BitVec.ofInt 64 (b : Int) : BitVec 64).toNat : Int) = _
  rw [BitVec.toNat_or, BitVec.toNat_ofInt, BitVec.toNat_ofInt]
  have e1 : ((a : Int) % ((2 ^ 64 : Nat) : Int)).toNat = a := by omega
  have e2 : ((b : Int) % ((2 ^ 64 : Nat) : Int)).toNat = b := by omega
  rw [e1, e2, w64_eq (by omega) (by omega)]
theorem shl64_7 {a : Nat} (ha : a < 72057594037927936) : shl64 (a : Int) 7 = ((a * 128 : Nat) : Int) := by
  unfold shl64
  rw [w64_eq] <;> simp <;> omega
theorem or64_7 {a b : Nat} (ha : a < 72057594037927936) (hb : b < 128) : or64 (shl64 (a : Int) 7) (b : Int) = ((a * 128 + b : Nat) : Int) := by
  rw [shl64_7 ha, or64_nat (by omega) (by omega), or_low a b hb]
theorem byte_and (x : BitVec 8) : (x &&& 127#8).toNat = x.toNat % 128 := by
  rw [BitVec.toNat_and, show (127#8).toNat = 2 ^ 7 - 1 from rfl, Nat.and_two_pow_sub_one_eq_mod]
theorem byte_or (x : BitVec 8) : x ||| 128#8 = BitVec.ofNat 8 (x.toNat % 128 + 128) := by
  have : ∀ y : Fin 256, (BitVec.ofFin y : BitVec 8) ||| 128#8 = BitVec.ofNat 8 ((BitVec.ofFin y : BitVec 8).toNat % 128 + 128) := by decide +kernel
  exact this x.toFin
theorem byte_and' (x : BitVec 8) : x &&& 127#8 = BitVec.ofNat 8 (x.toNat % 128) := by
  apply BitVec.eq_of_toNat_eq
  rw [byte_and]; simp
  have := x.isLt
  omega
theorem byte_int (n : Nat) : BitVec.ofInt 8 (n : Int) = BitVec.ofNat 8 n := by
  apply BitVec.eq_of_toNat_eq
  simp [BitVec.toNat_ofInt]
theorem byte_hi (n : Nat) : BitVec.ofInt 8 (n : Int) ||| 128#8 = BitVec.ofNat 8 (n % 128 + 128) := by
  rw [byte_int, byte_or]; congr 1; simp
theorem byte_lo (n : Nat) : BitVec.ofInt 8 (n : Int) &&& 127#8 = BitVec.ofNat 8 (n % 128) := by
  rw [byte_int, byte_and']; congr 1; simp
/-! ### seven bits a byte -/
/-- The bytes that go on. -/
def pre (m : Nat) : List (BitVec 8) := if m = 0 then [] else pre (m / 128) ++ [BitVec.ofNat 8 (m % 128 + 128)]
termination_by m
decreasing_by omega
def num7 (n : Nat) : List (BitVec 8) := pre (n / 128) ++ [BitVec.ofNat 8 (n % 128)]
theorem pre_zero : pre 0 = [] := by rw [pre]; rfl
theorem pre_pos {m : Nat} (h : 0 < m) : pre m = pre (m / 128) ++ [BitVec.ofNat 8 (m % 128 + 128)] := by
  rw [pre, if_neg (by omega)]
theorem pre_len : ∀ (k m : Nat), m < 128 ^ k → (pre m).length ≤ k
  | 0, m, h => by
    have : m = 0 := by simpa using h
    subst this; rw [pre_zero]; simp
  | k + 1, m, h => by
    by_cases h0 : m = 0
    · subst h0; rw [pre_zero]; simp
    · rw [pre_pos (by omega)]
      have := pre_len k (m / 128) (by rw [Nat.div_lt_iff_lt_mul (by decide)]; rw [Nat.pow_succ] at h; exact h)
      simp; exact this
theorem num7_len {n : Nat} (h : n < 9223372036854775808) : (num7 n).length ≤ 9 := by
  have := pre_len 8 (n / 128) (by omega)
  simp [num7]; omega
theorem num7_small {n : Nat} (h : n < 128) : num7 n = [BitVec.ofNat 8 n] := by
  rw [num7, show n / 128 = 0 by omega, pre_zero, Nat.mod_eq_of_lt h]; rfl
/-- The same from the highest one on. -/
def seq7 (n : Nat) : Nat → List (BitVec 8)
  | 0 => []
  | c + 1 => BitVec.ofNat 8 (n / 128 ^ (c + 1) % 128 + 128) :: seq7 n c
theorem seq7_snoc (n : Nat) : ∀ c, seq7 n (c + 1) = seq7 (n / 128) c ++ [BitVec.ofNat 8 (n / 128 % 128 + 128)]
  | 0 => by simp [seq7]
  | c + 1 => by
    rw [seq7, seq7_snoc n c, seq7]
    simp only [List.cons_append]
    rw [Nat.div_div_eq_div_mul, ← Nat.pow_succ']
theorem seq7_pre : ∀ (h n : Nat), n / 128 ^ h < 128 → (∀ j, j < h → 128 ≤ n / 128 ^ j) → seq7 n h = pre (n / 128)
  | 0, n, h1, h2 => by
    rw [show n / 128 = 0 by simp at h1; omega, pre_zero]; rfl
  | h + 1, n, h1, h2 => by
    have h0 := h2 0 (by omega)
    simp at h0
    rw [seq7_snoc, pre_pos (by omega), seq7_pre h (n / 128) (by rw [Nat.div_div_eq_div_mul, ← Nat.pow_succ']; exact h1) (fun j hj => by
      rw [Nat.div_div_eq_div_mul, ← Nat.pow_succ']; exact h2 (j + 1) (by omega))]
/-- How many bytes. -/
def nlen (n : Nat) : Nat := if n < 128 then 1 else nlen (n / 128) + 1
termination_by n
decreasing_by omega
theorem nlen_lt {n : Nat} (h : n < 128) : nlen n = 1 := by rw [nlen, if_pos h]
theorem nlen_ge {n : Nat} (h : 128 ≤ n) : nlen n = nlen (n / 128) + 1 := by rw [nlen, if_neg (by omega)]
/-! ### reading -/
def up7 : Int ⊕ (Nat × Nat) → Int ⊕ (Nat × Nat)
  | .inl e => .inl e
  | .inr (m, k) => .inr (m, k + 1)
/-- What a number is that begins here, and how many bytes it has; or what is wrong first. -/
def rd7 (most : Nat) : List (BitVec 8) → Bool → Nat → Int ⊕ (Nat × Nat)
  | [], _, _ => .inl 6
  | c :: l, f, n =>
    if c = 128#8 ∧ f = true then .inl 5 else if most / 128 < n then .inl 2 else
    if 128 ≤ c.toNat then up7 (rd7 most l false (n * 128 + c.toNat % 128))
    else if most < n * 128 + c.toNat then .inl 2 else .inr (n * 128 + c.toNat, 1)
theorem rd7_le {most : Nat} : ∀ {l : List (BitVec 8)} {f : Bool} {n m k : Nat}, rd7 most l f n = .inr (m, k) → m ≤ most ∧ 1 ≤ k ∧ k ≤ l.length
  | [], f, n, m, k, h => by simp [rd7] at h
  | c :: l, f, n, m, k, h => by
    simp only [rd7] at h
    split at h
    · cases h
    · split at h
      · cases h
      · split at h
        · cases hr : rd7 most l false (n * 128 + c.toNat % 128) with
          | inl e => rw [hr] at h; cases h
          | inr p =>
            obtain ⟨m', k'⟩ := p
            rw [hr] at h
            simp only [up7, Sum.inr.injEq, Prod.mk.injEq] at h
            obtain ⟨rfl, rfl⟩ := h
            have := rd7_le hr
            simp; omega
        · split at h
          · cases h
          · simp only [Sum.inr.injEq, Prod.mk.injEq] at h
            obtain ⟨rfl, rfl⟩ := h
            simp; omega
end Go.Va
namespace Go.Proofs.YthkfilchighbhaaDoor
open Go Go.Va
set_option linter.unusedVariables false
set_option linter.unusedSimpArgs false
set_option maxRecDepth 20000
noncomputable def butteryref02_num_b0  (c9 : List (BitVec 8)) (c10 : Int) : Option (((List (BitVec 8)) × Int) ⊕ ((List (BitVec 8)))) :=
  lt (decide (c10 > (0 : Int))) fun v22 =>
  if v22 = true then
    lt (Int.tmod c10 (128 : Int)) fun v25 =>
    lt (w64 (v25 + (128 : Int))) fun v27 =>
    lt (BitVec.ofInt 8 v27) fun v29 =>
    lt (([v29] : List (BitVec 8))) fun v31 =>
    (app 1 v31 c9).bind fun v33 =>
    lt (quo64 c10 (128 : Int)) fun v37 =>
    some (.inl (v33, v37))
  else
    some (.inr c9)
noncomputable def butteryref02_num_l0  (s : (List (BitVec 8)) × Int) : Option ((List (BitVec 8))) := loopO (fun s => butteryref02_num_b0 s.1 s.2) s
noncomputable def butteryref02_num (x0 : Int) : Option ((List (BitVec 8))) :=
  lt (Int.tmod x0 (128 : Int)) fun v2 =>
  lt (BitVec.ofInt 8 v2) fun v4 =>
  lt (([v4] : List (BitVec 8))) fun v6 =>
  lt (quo64 x0 (128 : Int)) fun v8 =>
  (butteryref02_num_l0 (v6, v8)).bind fun s19 =>
    some s19
end Go.Proofs.YthkfilchighbhaaDoor
namespace Go.Proofs.YthkfilchighbhaaDoor
open Go Go.Va
set_option linter.unusedVariables false
set_option linter.unusedSimpArgs false
set_option maxRecDepth 20000
noncomputable def butteryref02_Put_b0 (x1 : List Int) (c5 : List (BitVec 8)) (c6 : Int) : Option (((List (BitVec 8)) × Int) ⊕ ((List (BitVec 8)))) :=
  lt (((x1).length : Int)) fun v17 =>
  lt (decide (c6 < v17)) fun v19 =>
  if v19 = true then
    (ix x1 c6).bind fun v22 =>
    (butteryref02_num v22).bind fun v24 =>
    (app 1 c5 v24).bind fun v26 =>
    lt (w64 (c6 + (1 : Int))) fun v30 =>
    some (.inl (v26, v30))
  else
    some (.inr c5)
noncomputable def butteryref02_Put_l0 (x1 : List Int) (s : (List (BitVec 8)) × Int) : Option ((List (BitVec 8))) := loopO (fun s => butteryref02_Put_b0 x1 s.1 s.2) s
noncomputable def butteryref02_Put (x0 : List (BitVec 8)) (x1 : List Int) : Option ((List (BitVec 8))) :=
  (app 1 ([] : List (BitVec 8)) x0).bind fun v2 =>
  (butteryref02_Put_l0 x1 (v2, (0 : Int))).bind fun s14 =>
    some s14
end Go.Proofs.YthkfilchighbhaaDoor
namespace Go.Proofs.YthkfilchighbhaaDoor
open Go Go.Va
set_option linter.unusedVariables false
set_option linter.unusedSimpArgs false
set_option maxRecDepth 20000
noncomputable def butteryref02_Bytes (x0 : List (BitVec 8)) (x1 : List (BitVec 8)) : Option ((List (BitVec 8))) :=
  lt (((x1).length : Int)) fun v2 =>
  lt (([v2] : List Int)) fun v4 =>
  (butteryref02_Put x0 v4).bind fun v6 =>
  (app 1 v6 x1).bind fun v9 =>
  some v9
end Go.Proofs.YthkfilchighbhaaDoor
namespace Go.Proofs.YthkfilchighbhaaDoor
open Go Go.Va
set_option linter.unusedVariables false
set_option linter.unusedSimpArgs false
theorem same_eq (x y : List (BitVec 8)) (hx : x.length < 9223372036854775807) : butteryref02_Same x y = some (decide (x = y)) := by
  unfold butteryref02_Same
  simp only [lt_eq]
  by_cases hl : x.length = y.length
  · rw [if_neg (by simp [hl])]
    have h := loopO_find (body := fun s => butteryref02_Same_b0 x y s) (fun i : Nat => (i : Int)) x.length (fun i => if x[i]? ≠ y[i]? then some (Sum.inr false) else none) (x := .inl ()) (fun i hi => by
      simp only [butteryref02_Same_b0, lt_eq, ix_nat hi, ix_nat (show i < y.length by omega), Option.bind_some]
      rw [if_pos (by simpa using hi)]
      by_cases he : x[i] = y[i]
      · rw [if_neg (by simp [he]), if_neg (by simp [hi, show i < y.length by omega, he]), w64_nat (by omega)]; rfl
      · rw [if_pos (by simpa using he), if_pos (by simp [hi, show i < y.length by omega, he])]; rfl) (by simp [butteryref02_Same_b0, lt_eq])
    rw [show ((0 : Nat) : Int) = 0 from rfl] at h
    simp only [butteryref02_Same_l0, h, Option.bind_some]
    by_cases he : x = y
    · rw [List.findSome?_eq_none_iff.2 (fun i _ => by rw [if_neg (by simp [he])])]
      simp [he]
    · cases hf : (List.range x.length).findSome? (fun i => if x[i]? ≠ y[i]? then some (Sum.inr (α := Unit) false) else none) with
      | none =>
        refine absurd (List.ext_getElem? fun i => ?_) he
        have h1 := List.findSome?_eq_none_iff.1 hf
        rcases Nat.lt_or_ge i x.length with hi | hi
        · have := h1 i (by simpa using hi)
          by_cases hne : x[i]? = y[i]?
          · exact hne
          · rw [if_pos hne] at this; cases this
        · rw [List.getElem?_eq_none hi, List.getElem?_eq_none (by omega)]
      | some w =>
        obtain ⟨i, _, h2⟩ := List.exists_of_findSome?_eq_some hf
        split at h2
        · cases h2; simp [he]
        · cases h2
  · rw [if_pos (by simpa using fun e => hl (by exact_mod_cast e))]
    rw [decide_eq_false (fun e => hl (by rw [e]))]
theorem refnum_l : ∀ (k m : Nat) (out : List (BitVec 8)), m < 128 ^ k → m < 9223372036854775808 → out.length + k ≤ 1000 → butteryref02_num_l0 (out, (m : Int)) = some (pre m ++ out)
  | 0, m, out, h, h2, hl => by
    have : m = 0 := by simpa using h
    subst this
    rw [pre_zero]
    exact loopO_out (by simp [butteryref02_num_b0, lt_eq])
  | k + 1, m, out, h, h2, hl => by
    by_cases h0 : m = 0
    · subst h0
      rw [pre_zero]
      exact loopO_out (by simp [butteryref02_num_b0, lt_eq])
    · have hb : butteryref02_num_b0 out (m : Int) = some (.inl (BitVec.ofNat 8 (m % 128 + 128) :: out, ((m / 128 : Nat) : Int))) := by
        simp only [butteryref02_num_b0, lt_eq]
        rw [if_pos (by simp; omega)]
        have e1 : Int.tmod (m : Int) 128 = ((m % 128 : Nat) : Int) := tmod_nat m 128
        have e2 : quo64 (m : Int) 128 = ((m / 128 : Nat) : Int) := quo64_nat h2
        rw [e1, e2, w64_eq (by omega) (by omega), app_eq (by simp; omega)]
        rw [show (((m % 128 : Nat) : Int) + 128) = ((m % 128 + 128 : Nat) : Int) by omega, byte_int]
        rfl
      have := loopO_in (body := fun s => butteryref02_num_b0 s.1 s.2) (s := (out, (m : Int))) hb
      rw [butteryref02_num_l0, this]
      have ih := refnum_l k (m / 128) (BitVec.ofNat 8 (m % 128 + 128) :: out) (by rw [Nat.div_lt_iff_lt_mul (by decide)]; rw [Nat.pow_succ] at h; exact h) (by omega) (by simp; omega)
      rw [butteryref02_num_l0] at ih
      rw [ih, pre_pos (m := m) (by omega)]
      simp
theorem refnum_eq {n : Nat} (h : n < 9223372036854775808) : butteryref02_num (n : Int) = some (num7 n) := by
  simp only [butteryref02_num, lt_eq]
  have e1 : Int.tmod (n : Int) 128 = ((n % 128 : Nat) : Int) := tmod_nat n 128
  have e2 : quo64 (n : Int) 128 = ((n / 128 : Nat) : Int) := quo64_nat h
  rw [e1, e2, byte_int, refnum_l 9 (n / 128) _ (by omega) (by omega) (by simp)]
  rfl
/-- Numbers one behind the other. -/
def nums (l : List Int) : List (BitVec 8) := l.flatMap fun n => num7 n.toNat
def okN (l : List Int) : Prop := l.length ≤ 1000 ∧ ∀ n ∈ l, 0 ≤ n ∧ n ≤ 9223372036854775807
theorem nums_len : ∀ {l : List Int}, (∀ n ∈ l, 0 ≤ n ∧ n ≤ 9223372036854775807) → (nums l).length ≤ 9 * l.length
  | [], _ => Nat.le_refl _
  | n :: l, h => by
    have h1 := nums_len (l := l) (fun m hm => h m (List.mem_cons_of_mem _ hm))
    have h2 := h n List.mem_cons_self
    have h3 := num7_len (n := n.toNat) (by omega)
    simp only [nums, List.flatMap_cons, List.length_append, List.length_cons] at h1 ⊢
    omega
theorem nums_snoc (l : List Int) (n : Int) : nums (l ++ [n]) = nums l ++ num7 n.toNat := by simp [nums]
theorem refPut_eq (b : List (BitVec 8)) {l : List Int} (hb : b.length ≤ 1000000) (hl : okN l) : butteryref02_Put b l = some (b ++ nums l) := by
  simp only [butteryref02_Put]
  rw [app_eq (by simp; omega)]
  simp only [List.nil_append, Option.bind_some]
  have h := loopO_up (body := fun s => butteryref02_Put_b0 l s.1 s.2) (fun i => (b ++ nums (l.take i), (i : Int))) l.length (x := b ++ nums l) (fun i hi => by
    obtain ⟨hn0, hn1⟩ := hl.2 _ (List.getElem_mem hi)
    have hn : butteryref02_num l[i] = some (num7 l[i].toNat) := by
      have := refnum_eq (n := l[i].toNat) (by omega)
      rwa [Int.toNat_of_nonneg hn0] at this
    have h1 := nums_len (l := l.take i) (fun m hm => hl.2 m (List.mem_of_mem_take hm))
    have h2 := num7_len (n := l[i].toNat) (by omega)
    have h3 := hl.1
    simp only [List.length_take] at h1
    simp only [butteryref02_Put_b0, lt_eq, ix_nat hi, Option.bind_some, hn]
    rw [if_pos (by simpa using hi), app_eq (by simp only [List.length_append]; omega), w64_nat (by omega)]
    simp only [Option.bind_some]
    rw [List.take_succ_eq_append_getElem hi, nums_snoc, List.append_assoc]) (by simp [butteryref02_Put_b0, lt_eq])
  simp only [butteryref02_Put_l0]
  have h0 : b ++ nums (l.take 0) = b := by simp [nums]
  rw [h0] at h
  rw [show ((0 : Nat) : Int) = 0 from rfl] at h
  rw [h]; rfl
theorem oct_l1 (l : List Int) (v6 : Int) (c7 : List (BitVec 8)) (c8 : Int) {n : Nat} (hn : n < 9223372036854775808) : ∃ h : Nat, octets_Put_l1 l v6 c7 c8 (n : Int) 0 = some (h : Int) ∧ h ≤ 9 ∧ n / 128 ^ h < 128 ∧ ∀ j, j < h → 128 ≤ n / 128 ^ j := by
  have key := loopO_inv (body := fun s => octets_Put_b1 l v6 c7 c8 (n : Int) s) (fun s => ∃ h : Nat, s = (h : Int) ∧ h ≤ 9 ∧ ∀ j, j < h → 128 ≤ n / 128 ^ j) (fun s => 10 - s.toNat) (fun x => ∃ h : Nat, x = (h : Int) ∧ h ≤ 9 ∧ n / 128 ^ h < 128 ∧ ∀ j, j < h → 128 ≤ n / 128 ^ j) (fun s => by
    rintro ⟨h, rfl, h9, hj⟩
    have ew : w64 (7 * (h : Int)) = ((7 * h : Nat) : Int) := by rw [w64_eq (by omega) (by omega)]; omega
    have es : shr64 (n : Int) (7 * h) = ((n / 128 ^ h : Nat) : Int) := by
      rw [shr64_nat (by omega), Nat.pow_mul]
    simp only [octets_Put_b1, lt_eq, ew, sc_eq (Int.natCast_nonneg _), Int.toNat_natCast, Option.map_some, Option.bind_some, es]
    by_cases hc : 128 ≤ n / 128 ^ h
    · left
      have h8 : h ≤ 8 := by
        rcases Nat.lt_or_ge 8 h with h8 | h8
        · have : h = 9 := by omega
          subst this
          omega
        · exact h8
      refine ⟨((h + 1 : Nat) : Int), ?_, ⟨h + 1, rfl, by omega, fun j hj' => ?_⟩, by omega⟩
      · rw [if_pos (decide_eq_true (show ((n / 128 ^ h : Nat) : Int) ≥ 128 by omega)), w64_nat (by omega)]
      · by_cases e : j = h
        · subst e; exact hc
        · exact hj j (by omega)
    · right
      exact ⟨_, by rw [if_neg (by rw [decide_eq_false (show ¬ ((n / 128 ^ h : Nat) : Int) ≥ 128 by omega)]; simp)], h, rfl, h9, by omega, hj⟩) (s := 0) ⟨0, rfl, by omega, fun j hj => by omega⟩
  obtain ⟨x, h1, h, rfl, h2⟩ := key
  exact ⟨h, h1, h2⟩
theorem oct_l2 (l : List Int) (v6 : Int) (c8 : Int) {n : Nat} : ∀ (h : Nat) (out : List (BitVec 8)), h ≤ 9 → out.length + h ≤ 100000000 → octets_Put_l2 l v6 c8 (n : Int) (out, (h : Int)) = some (out ++ seq7 n h)
  | 0, out, h9, hl => by
    simp only [seq7, List.append_nil]
    exact loopO_out (by simp [octets_Put_b2, lt_eq])
  | h + 1, out, h9, hl => by
    have ew : w64 (7 * ((h + 1 : Nat) : Int)) = ((7 * (h + 1) : Nat) : Int) := by rw [w64_eq (by omega) (by omega)]; omega
    have es : shr64 (n : Int) (7 * (h + 1)) = ((n / 128 ^ (h + 1) : Nat) : Int) := by
      rw [shr64_nat (by omega), Nat.pow_mul]
    have hb : octets_Put_b2 l v6 c8 (n : Int) out ((h + 1 : Nat) : Int) = some (.inl (out ++ [BitVec.ofNat 8 (n / 128 ^ (h + 1) % 128 + 128)], (h : Int))) := by
      simp only [octets_Put_b2, lt_eq, ew, sc_eq (Int.natCast_nonneg _), Int.toNat_natCast, Option.map_some, Option.bind_some, es]
      rw [if_pos (decide_eq_true (by omega)), app_eq (by simp; omega), byte_hi, w64_eq (by omega) (by omega)]
      simp only [Option.bind_some]
      rw [show (((h + 1 : Nat) : Int) - 1) = (h : Int) by omega]
    have := loopO_in (body := fun s => octets_Put_b2 l v6 c8 (n : Int) s.1 s.2) (s := (out, ((h + 1 : Nat) : Int))) hb
    rw [octets_Put_l2, this]
    have ih := oct_l2 l v6 c8 (n := n) h (out ++ [BitVec.ofNat 8 (n / 128 ^ (h + 1) % 128 + 128)]) (by omega) (by simp; omega)
    rw [octets_Put_l2] at ih
    rw [ih, seq7, List.append_assoc]; rfl
theorem octPut_eq (b : List (BitVec 8)) {l : List Int} (hb : b.length ≤ 1000000) (hl : okN l) : octets_Put b l = some (b ++ nums l) := by
  simp only [octets_Put]
  rw [app_eq (by simp; omega)]
  simp only [List.nil_append, Option.bind_some, lt_eq]
  have h := loopO_up (body := fun s => octets_Put_b0 l (l.length : Int) s.1 s.2) (fun i => (b ++ nums (l.take i), (i : Int))) l.length (x := b ++ nums l) (fun i hi => by
    obtain ⟨hn0, hn1⟩ := hl.2 _ (List.getElem_mem hi)
    obtain ⟨n, hn⟩ : ∃ n : Nat, l[i] = (n : Int) := ⟨l[i].toNat, by omega⟩
    have hlt : n < 9223372036854775808 := by omega
    have h1 := nums_len (l := l.take i) (fun m hm => hl.2 m (List.mem_of_mem_take hm))
    have h3 := hl.1
    simp only [List.length_take] at h1
    obtain ⟨h, k1, k2, k3, k4⟩ := oct_l1 l (l.length : Int) (b ++ nums (l.take i)) (i : Int) hlt
    have h2 := num7_len hlt
    have hs := seq7_pre h n k3 k4
    simp only [octets_Put_b0, lt_eq, ix_nat hi, Option.bind_some, hn, k1]
    rw [oct_l2 l _ _ h _ k2 (by simp only [List.length_append]; omega), hs]
    have h2' : (pre (n / 128)).length ≤ 9 := by simp [num7] at h2; omega
    simp only [Option.bind_some, byte_lo]
    rw [if_pos (by simpa using hi), app_eq (by simp only [List.length_append, List.length_cons, List.length_nil]; omega), w64_nat (by omega)]
    simp only [Option.bind_some]
    rw [List.take_succ_eq_append_getElem hi, nums_snoc, hn, Int.toNat_natCast, num7]
    simp only [List.append_assoc]) (by simp [octets_Put_b0, lt_eq])
  simp only [octets_Put_l0]
  have h0 : b ++ nums (l.take 0) = b := by simp [nums]
  rw [h0] at h
  rw [show ((0 : Nat) : Int) = 0 from rfl] at h
  rw [h]; rfl
theorem okN_one {n : Nat} (h : n < 9223372036854775808) : okN [(n : Int)] := ⟨by simp, fun m hm => by simp at hm; omega⟩
theorem octBytes_eq (b t : List (BitVec 8)) (hb : b.length ≤ 1000000) (ht : t.length ≤ 1000000) : octets_Bytes b t = some (b ++ num7 t.length ++ t) := by
  have h2 := num7_len (n := t.length) (by omega)
  simp only [octets_Bytes, lt_eq, octPut_eq b hb (okN_one (n := t.length) (by omega)), Option.bind_some, nums, List.flatMap_cons, List.flatMap_nil, List.append_nil, Int.toNat_natCast]
  rw [app_eq (by simp only [List.length_append]; omega)]; rfl
theorem refBytes_eq (b t : List (BitVec 8)) (hb : b.length ≤ 1000000) (ht : t.length ≤ 1000000) : butteryref02_Bytes b t = some (b ++ num7 t.length ++ t) := by
  have h2 := num7_len (n := t.length) (by omega)
  simp only [butteryref02_Bytes, lt_eq, refPut_eq b hb (okN_one (n := t.length) (by omega)), Option.bind_some, nums, List.flatMap_cons, List.flatMap_nil, List.append_nil, Int.toNat_natCast]
  rw [app_eq (by simp only [List.length_append]; omega)]; rfl
end Go.Proofs.YthkfilchighbhaaDoor
namespace Go.Proofs.YthkfilchighbhaaDoor
open Go Go.Va
set_option linter.unusedVariables false
set_option linter.unusedSimpArgs false
/-- The first i bytes of a word. -/
def wd (n : BitVec 64) (i : Nat) : List (BitVec 8) := (List.range i).map fun j => (n >>> (56 - 8 * j)).setWidth 8
theorem wd_succ (n : BitVec 64) (i : Nat) : wd n (i + 1) = wd n i ++ [(n >>> (56 - 8 * i)).setWidth 8] := by
  simp [wd, List.range_succ]
theorem wd_len (n : BitVec 64) (i : Nat) : (wd n i).length = i := by simp [wd]
theorem shr35 {n : Nat} : shr64 (n : Int) 35 = ((n / 34359738368 : Nat) : Int) := by rw [shr64_nat (by omega)]
theorem key_eq (x : List (BitVec 8)) : octets_Key x = butteryref02_Key x := by
  simp only [octets_Key, butteryref02_Key, lt_eq]
  cases x with
  | nil => rfl
  | cons a x => rw [if_neg (show ¬ ((((a :: x).length : Int) == 0) = true) by simp; omega), if_neg (show ¬ ((a :: x == []) = true) by simp)]
theorem key_some (x : List (BitVec 8)) : ∃ v, octets_Key x = some v := by
  simp only [octets_Key, lt_eq]
  split
  · exact ⟨_, rfl⟩
  · split <;> exact ⟨_, rfl⟩
end Go.Proofs.YthkfilchighbhaaDoor
namespace Go.Proofs.YthkfilchighbhaaDoor
open Go Go.Va
set_option linter.unusedVariables false
set_option linter.unusedSimpArgs false
set_option maxRecDepth 20000
noncomputable def butteryref02_fail (x0 : butteryref02_Reader) (x1 : Int) : Option (butteryref02_Reader) :=
  lt (x0.Code == (0 : Int)) fun v7 =>
  if v7 = true then
    lt (({ (x0 : butteryref02_Reader) with Code := x1 } : butteryref02_Reader)) fun c10 =>
    some (c10 : butteryref02_Reader)
  else
    some ((x0 : butteryref02_Reader) : butteryref02_Reader)
end Go.Proofs.YthkfilchighbhaaDoor
namespace Go.Proofs.YthkfilchighbhaaDoor
open Go Go.Va
set_option linter.unusedVariables false
set_option linter.unusedSimpArgs false
set_option maxRecDepth 20000
noncomputable def butteryref02_Number_b0 (x0 : butteryref02_Reader) (x1 : Int) (c7 : Int) (c8 : Int) : Option ((Int × Int) ⊕ (Unit ⊕ (butteryref02_Reader × Int))) :=
  lt (((x0.B).length : Int)) fun v19 =>
  lt (decide (c8 < v19)) fun v21 =>
  if v21 = true then
    (ix x0.B c8).bind fun v24 =>
    lt ((BitVec.toNat v24 : Int)) fun v26 =>
    (
      lt (v26 == (128 : Int)) fun v32 =>
      if v32 = true then
        lt (c8 == x0.At) fun v35 =>
        some v35
      else
        some false
     : Option (Bool)).bind fun s27 =>
      if s27 = true then
        (butteryref02_fail x0 (5 : Int)).bind fun v39 =>
        some (.inr (.inr ((v39 : butteryref02_Reader), (0 : Int))))
      else
        lt (quo64 x1 (128 : Int)) fun v43 =>
        lt (decide (c7 > v43)) fun v45 =>
        if v45 = true then
          (butteryref02_fail x0 (2 : Int)).bind fun v48 =>
          some (.inr (.inr ((v48 : butteryref02_Reader), (0 : Int))))
        else
          lt (w64 (c7 * (128 : Int))) fun v52 =>
          lt (Int.tmod v26 (128 : Int)) fun v54 =>
          lt (w64 (v52 + v54)) fun v56 =>
          lt (decide (v26 ≥ (128 : Int))) fun v58 =>
          if v58 = true then
            lt (w64 (c8 + (1 : Int))) fun v61 =>
            some (.inl (v56, v61))
          else
            lt (decide (v56 > x1)) fun v63 =>
            if v63 = true then
              (butteryref02_fail x0 (2 : Int)).bind fun v66 =>
              some (.inr (.inr ((v66 : butteryref02_Reader), (0 : Int))))
            else
              lt (w64 (c8 + (1 : Int))) fun v73 =>
              lt (({ (x0 : butteryref02_Reader) with At := v73 } : butteryref02_Reader)) fun c75 =>
              some (.inr (.inr ((c75 : butteryref02_Reader), v56)))
  else
    some (.inr (.inl ()))
noncomputable def butteryref02_Number_l0 (x0 : butteryref02_Reader) (x1 : Int) (s : Int × Int) : Option (Unit ⊕ (butteryref02_Reader × Int)) := loopO (fun s => butteryref02_Number_b0 x0 x1 s.1 s.2) s
noncomputable def butteryref02_Number (x0 : butteryref02_Reader) (x1 : Int) : Option (butteryref02_Reader × Int) :=
  lt (x0.Code != (0 : Int)) fun v4 =>
  if v4 = true then
    some ((x0 : butteryref02_Reader), (0 : Int))
  else
    (butteryref02_Number_l0 x0 x1 ((0 : Int), x0.At)).bind fun o9 =>
      Sum.elim (fun s16 : Unit =>
        (butteryref02_fail x0 (6 : Int)).bind fun v81 =>
        some ((v81 : butteryref02_Reader), (0 : Int))
        ) (fun y => some y) o9
end Go.Proofs.YthkfilchighbhaaDoor
namespace Go.Proofs.YthkfilchighbhaaDoor
open Go Go.Va
set_option linter.unusedVariables false
set_option linter.unusedSimpArgs false
set_option maxRecDepth 20000
noncomputable def butteryref02_Text (x0 : butteryref02_Reader) (x1 : Int) : Option (butteryref02_Reader × (List (BitVec 8))) :=
  (butteryref02_Number x0 x1).bind fun v4 =>
  lt (((v4.1 : butteryref02_Reader).Code) != (0 : Int)) fun v9 =>
  if v9 = true then
    some (((v4.1 : butteryref02_Reader) : butteryref02_Reader), [])
  else
    lt ((((v4.1 : butteryref02_Reader).B).length : Int)) fun v13 =>
    lt (w64 (v13 - ((v4.1 : butteryref02_Reader).At))) fun v15 =>
    lt (decide (v4.2 > v15)) fun v17 =>
    if v17 = true then
      (butteryref02_fail x0 (6 : Int)).bind fun v20 =>
      some ((v20 : butteryref02_Reader), [])
    else
      lt (w64 (((v4.1 : butteryref02_Reader).At) + v4.2)) fun v23 =>
      (cutO ((v4.1 : butteryref02_Reader).B) ((v4.1 : butteryref02_Reader).At) v23).bind fun v25 =>
      (app 1 ([] : List (BitVec 8)) v25).bind fun v27 =>
      lt (w64 (((v4.1 : butteryref02_Reader).At) + v4.2)) fun v31 =>
      lt (({ (v4.1 : butteryref02_Reader) with At := v31 } : butteryref02_Reader)) fun c33 =>
      some ((c33 : butteryref02_Reader), v27)
end Go.Proofs.YthkfilchighbhaaDoor
namespace Go.Proofs.YthkfilchighbhaaDoor
open Go Go.Va
set_option linter.unusedVariables false
set_option linter.unusedSimpArgs false
set_option maxRecDepth 20000
noncomputable def butteryref02_End (x0 : butteryref02_Reader) : Option (Int) :=
  (
    lt (x0.Code == (0 : Int)) fun v6 =>
    if v6 = true then
      lt (((x0.B).length : Int)) fun v9 =>
      lt (decide (x0.At < v9)) fun v11 =>
      some v11
    else
      some false
   : Option (Bool)).bind fun s1 =>
    if s1 = true then
      some (5 : Int)
    else
      some x0.Code
end Go.Proofs.YthkfilchighbhaaDoor
namespace Go.Proofs.YthkfilchighbhaaDoor
open Go Go.Va
set_option linter.unusedVariables false
set_option linter.unusedSimpArgs false
theorem drop_cons {b l : List (BitVec 8)} {c : BitVec 8} {pos : Nat} (h : b.drop pos = c :: l) : ∃ hp : pos < b.length, b[pos] = c ∧ b.drop (pos + 1) = l := by
  have hp : pos < b.length := by
    rcases Nat.lt_or_ge pos b.length with h1 | h1
    · exact h1
    · rw [List.drop_of_length_le h1] at h; cases h
  rw [List.drop_eq_getElem_cons hp] at h
  simp only [List.cons.injEq] at h
  exact ⟨hp, h.1, h.2⟩
theorem fail_eq (b : List (BitVec 8)) (a e : Int) : octets_Reader_Fail ⟨b, a, 0⟩ e = some ⟨b, a, e⟩ := rfl
theorem rfail_eq (b : List (BitVec 8)) (a e : Int) : butteryref02_fail ⟨b, a, 0⟩ e = some ⟨b, a, e⟩ := rfl
def oOut (b : List (BitVec 8)) (a pos : Nat) : Int ⊕ (Nat × Nat) → octets_Reader ⊕ (Int × octets_Reader)
  | .inl e => .inl ⟨b, a, e⟩
  | .inr (m, k) => .inr ((m : Int), ⟨b, ((pos + k : Nat) : Int), 0⟩)
theorem oOut_go (b : List (BitVec 8)) (a pos : Nat) (r : Int ⊕ (Nat × Nat)) : oOut b a pos (up7 r) = oOut b a (pos + 1) r := by
  cases r with
  | inl e => rfl
  | inr p => simp only [up7, oOut]; rw [show pos + (p.2 + 1) = pos + 1 + p.2 by omega]
theorem rd7_err {most : Nat} : ∀ {l : List (BitVec 8)} {f : Bool} {n : Nat} {e : Int}, rd7 most l f n = .inl e → e = 2 ∨ e = 5 ∨ e = 6
  | [], f, n, e, h => by simp [rd7] at h; omega
  | c :: l, f, n, e, h => by
    simp only [rd7] at h
    split at h
    · cases h; simp
    · split at h
      · cases h; simp
      · split at h
        · cases hr : rd7 most l false (n * 128 + c.toNat % 128) with
          | inl e' => rw [hr] at h; cases h; exact rd7_err hr
          | inr p => rw [hr] at h; cases h
        · split at h
          · cases h; simp
          · cases h
theorem octNum_stop (most : Int) (b : List (BitVec 8)) (n pos a e : Int) (he : e ≠ 0) : octets_Reader_Number_l0 most (n, pos, ⟨b, a, e⟩) = some (.inl ⟨b, a, e⟩) :=
  loopO_out (by simp [octets_Reader_Number_b0, lt_eq, he])
theorem le_byte (c : BitVec 8) : (128#8 ≤ c) ↔ 128 ≤ c.toNat := by rw [BitVec.le_def]; rfl
theorem octNum_l {b : List (BitVec 8)} {most a : Nat} (hb : b.length ≤ 1000000) (hm : most < 9223372036854775808) : ∀ (l : List (BitVec 8)) (pos n : Nat) (f : Bool), b.drop pos = l → pos ≤ b.length → (f = true → n = 0 ∧ pos = a) → (f = false → a < pos) → n < 9223372036854775808 →
    octets_Reader_Number_l0 (most : Int) ((n : Int), (pos : Int), ⟨b, (a : Int), 0⟩) = some (oOut b a pos (rd7 most l f n))
  | [], pos, n, f, hl, hp, _, _, _ => by
    have hlen : pos = b.length := by
      have := congrArg List.length hl
      simp at this; omega
    refine loopO_out ?_
    simp only [octets_Reader_Number_b0, lt_eq]
    rw [if_pos (by rfl), if_pos (decide_eq_true (by omega)), fail_eq]
    rfl
  | c :: l, pos, n, f, hl, hp, hf, hg, hn => by
    obtain ⟨hlt, hc, hd⟩ := drop_cons hl
    have e0 : w64 ((pos : Int) + 1) = ((pos + 1 : Nat) : Int) := w64_nat (by omega)
    have e1 : w64 ((a : Int) + 1) = ((a + 1 : Nat) : Int) := by
      have : a ≤ pos := by cases f with | true => have := (hf rfl).2; omega | false => have := hg rfl; omega
      exact w64_nat (by omega)
    have e2 : shr64 (most : Int) 7 = ((most / 128 : Nat) : Int) := by rw [shr64_nat (by omega)]
    have hcl := c.isLt
    have hcond : (if (c == 128#8) = true then (if ((n : Int) == 0) = true then some (((pos + 1 : Nat) : Int) == ((a + 1 : Nat) : Int)) else some false) else some false) = some (decide (c = 128#8 ∧ f = true)) := by
      by_cases h1 : c = 128#8
      · rw [if_pos (by simp [h1])]
        cases f with
        | true =>
          obtain ⟨rfl, rfl⟩ := hf rfl
          simp [h1]
        | false =>
          have := hg rfl
          split
          · have : (((pos + 1 : Nat) : Int) == ((a + 1 : Nat) : Int)) = false := by simp; omega
            rw [this]; simp
          · simp
      · rw [if_neg (by simpa using h1)]; simp [h1]
    have hb0 : octets_Reader_Number_b0 (most : Int) (n : Int) (pos : Int) ⟨b, (a : Int), 0⟩ =
        if c = 128#8 ∧ f = true then some (.inl ((n : Int), ((pos + 1 : Nat) : Int), ⟨b, (a : Int), 5⟩)) else if most / 128 < n then some (.inl ((n : Int), ((pos + 1 : Nat) : Int), ⟨b, (a : Int), 2⟩)) else
        if 128 ≤ c.toNat then some (.inl (((n * 128 + c.toNat % 128 : Nat) : Int), ((pos + 1 : Nat) : Int), ⟨b, (a : Int), 0⟩)) else
        if most < n * 128 + c.toNat then some (.inl (((n * 128 + c.toNat : Nat) : Int), ((pos + 1 : Nat) : Int), ⟨b, (a : Int), 2⟩)) else some (.inr (.inr (((n * 128 + c.toNat : Nat) : Int), ⟨b, ((pos + 1 : Nat) : Int), 0⟩))) := by
      simp only [octets_Reader_Number_b0, lt_eq]
      rw [if_pos (by rfl), if_neg (by rw [decide_eq_false (by omega)]; simp), ix_nat hlt, hc]
      simp only [Option.bind_some, e0, e1, e2]
      rw [hcond]
      simp only [Option.bind_some, decide_eq_true_eq]
      by_cases h1 : c = 128#8 ∧ f = true
      · rw [if_pos h1, if_pos h1, fail_eq]; rfl
      · rw [if_neg h1, if_neg h1]
        by_cases h2 : most / 128 < n
        · rw [if_pos (by omega), if_pos h2, fail_eq]; rfl
        · rw [if_neg (by omega), if_neg h2]
          by_cases h3 : 128 ≤ c.toNat
          · rw [if_pos ((le_byte c).2 h3), if_pos h3, byte_and, or64_7 (by omega) (by omega)]
          · rw [if_neg (fun h => h3 ((le_byte c).1 h)), if_neg h3, or64_7 (by omega) (by omega)]
            by_cases h4 : most < n * 128 + c.toNat
            · rw [if_pos (by omega), if_pos h4, fail_eq]; rfl
            · rw [if_neg (by omega), if_neg h4]
    have step : ∀ (s' : Int × Int × octets_Reader), octets_Reader_Number_b0 (most : Int) (n : Int) (pos : Int) ⟨b, (a : Int), 0⟩ = some (.inl s') → octets_Reader_Number_l0 (most : Int) ((n : Int), (pos : Int), ⟨b, (a : Int), 0⟩) = octets_Reader_Number_l0 (most : Int) s' := fun s' h => loopO_in (body := fun s => octets_Reader_Number_b0 (most : Int) s.1 s.2.1 s.2.2) h
    simp only [rd7]
    by_cases h1 : c = 128#8 ∧ f = true
    · rw [if_pos h1] at hb0 ⊢
      rw [step _ hb0, octNum_stop _ _ _ _ _ _ (by decide)]; rfl
    · rw [if_neg h1] at hb0 ⊢
      by_cases h2 : most / 128 < n
      · rw [if_pos h2] at hb0 ⊢
        rw [step _ hb0, octNum_stop _ _ _ _ _ _ (by decide)]; rfl
      · rw [if_neg h2] at hb0 ⊢
        by_cases h3 : 128 ≤ c.toNat
        · rw [if_pos h3] at hb0 ⊢
          rw [step _ hb0, octNum_l hb hm l (pos + 1) (n * 128 + c.toNat % 128) false hd (by omega) (by simp) (fun _ => by cases f with | true => have := (hf rfl).2; omega | false => have := hg rfl; omega) (by omega), oOut_go]
        · rw [if_neg h3] at hb0 ⊢
          by_cases h4 : most < n * 128 + c.toNat
          · rw [if_pos h4] at hb0 ⊢
            rw [step _ hb0, octNum_stop _ _ _ _ _ _ (by decide)]; rfl
          · rw [if_neg h4] at hb0 ⊢
            exact loopO_out (body := fun s => octets_Reader_Number_b0 (most : Int) s.1 s.2.1 s.2.2) hb0
def rOut (b : List (BitVec 8)) (a pos : Nat) : Int ⊕ (Nat × Nat) → Unit ⊕ (butteryref02_Reader × Int)
  | .inl e => if e = 6 then .inl () else .inr (⟨b, a, e⟩, 0)
  | .inr (m, k) => .inr (⟨b, ((pos + k : Nat) : Int), 0⟩, (m : Int))
theorem rOut_go (b : List (BitVec 8)) (a pos : Nat) (r : Int ⊕ (Nat × Nat)) : rOut b a pos (up7 r) = rOut b a (pos + 1) r := by
  cases r with
  | inl e => rfl
  | inr p => simp only [up7, rOut]; rw [show pos + (p.2 + 1) = pos + 1 + p.2 by omega]
theorem refNum_l {b : List (BitVec 8)} {most a : Nat} (hb : b.length ≤ 1000000) (hm : most < 9223372036854775808) : ∀ (l : List (BitVec 8)) (pos n : Nat) (f : Bool), b.drop pos = l → pos ≤ b.length → (f = true → n = 0 ∧ pos = a) → (f = false → a < pos) → n < 9223372036854775808 →
    butteryref02_Number_l0 ⟨b, (a : Int), 0⟩ (most : Int) ((n : Int), (pos : Int)) = some (rOut b a pos (rd7 most l f n))
  | [], pos, n, f, hl, hp, _, _, _ => by
    have hlen : pos = b.length := by
      have := congrArg List.length hl
      simp at this; omega
    refine loopO_out ?_
    simp only [butteryref02_Number_b0, lt_eq]
    rw [if_neg (by rw [decide_eq_false (by omega)]; simp)]
    rfl
  | c :: l, pos, n, f, hl, hp, hf, hg, hn => by
    obtain ⟨hlt, hc, hd⟩ := drop_cons hl
    have e0 : w64 ((pos : Int) + 1) = ((pos + 1 : Nat) : Int) := w64_nat (by omega)
    have e2 : quo64 (most : Int) 128 = ((most / 128 : Nat) : Int) := quo64_nat hm
    have e3 : Int.tmod (c.toNat : Int) 128 = ((c.toNat % 128 : Nat) : Int) := tmod_nat _ 128
    have hcl := c.isLt
    have e4 : ((c.toNat : Int) == 128) = decide (c = 128#8) := by
      rw [Bool.eq_iff_iff]; simp only [beq_iff_eq, decide_eq_true_eq]
      constructor
      · intro h; apply BitVec.eq_of_toNat_eq; show _ = 128; omega
      · rintro rfl; rfl
    have hcond : (if decide (c = 128#8) = true then some ((pos : Int) == (a : Int)) else some false) = some (decide (c = 128#8 ∧ f = true)) := by
      by_cases h1 : c = 128#8
      · rw [if_pos (by simp [h1])]
        cases f with
        | true =>
          obtain ⟨rfl, rfl⟩ := hf rfl
          simp [h1]
        | false =>
          have := hg rfl
          have : ((pos : Int) == (a : Int)) = false := by simp; omega
          rw [this]; simp
      · rw [if_neg (by simpa using h1)]; simp [h1]
    have hb0 : butteryref02_Number_b0 ⟨b, (a : Int), 0⟩ (most : Int) (n : Int) (pos : Int) =
        if c = 128#8 ∧ f = true then some (.inr (.inr (⟨b, (a : Int), 5⟩, 0))) else if most / 128 < n then some (.inr (.inr (⟨b, (a : Int), 2⟩, 0))) else
        if 128 ≤ c.toNat then some (.inl (((n * 128 + c.toNat % 128 : Nat) : Int), ((pos + 1 : Nat) : Int))) else
        if most < n * 128 + c.toNat then some (.inr (.inr (⟨b, (a : Int), 2⟩, 0))) else some (.inr (.inr (⟨b, ((pos + 1 : Nat) : Int), 0⟩, ((n * 128 + c.toNat : Nat) : Int)))) := by
      simp only [butteryref02_Number_b0, lt_eq]
      rw [if_pos (decide_eq_true (by omega)), ix_nat hlt, hc]
      simp only [Option.bind_some, e0, e2, e3, e4]
      rw [hcond]
      simp only [Option.bind_some, decide_eq_true_eq]
      by_cases h1 : c = 128#8 ∧ f = true
      · rw [if_pos h1, if_pos h1, rfail_eq]; rfl
      · rw [if_neg h1, if_neg h1]
        by_cases h2 : most / 128 < n
        · rw [if_pos (by omega), if_pos h2, rfail_eq]; rfl
        · rw [if_neg (by omega), if_neg h2, w64_eq (n := (n : Int) * 128) (by omega) (by omega), w64_eq (by omega) (by omega)]
          by_cases h3 : 128 ≤ c.toNat
          · rw [if_pos (by omega), if_pos h3]
            rw [show ((n : Int) * 128 + ((c.toNat % 128 : Nat) : Int)) = ((n * 128 + c.toNat % 128 : Nat) : Int) by omega]
          · rw [if_neg (by omega), if_neg h3]
            rw [show ((n : Int) * 128 + ((c.toNat % 128 : Nat) : Int)) = ((n * 128 + c.toNat : Nat) : Int) by omega]
            by_cases h4 : most < n * 128 + c.toNat
            · rw [if_pos (by omega), if_pos h4, rfail_eq]; rfl
            · rw [if_neg (by omega), if_neg h4]
    have hout : ∀ x, butteryref02_Number_b0 ⟨b, (a : Int), 0⟩ (most : Int) (n : Int) (pos : Int) = some (.inr x) → butteryref02_Number_l0 ⟨b, (a : Int), 0⟩ (most : Int) ((n : Int), (pos : Int)) = some x := fun x h => loopO_out (body := fun s => butteryref02_Number_b0 ⟨b, (a : Int), 0⟩ (most : Int) s.1 s.2) h
    have step : ∀ (s' : Int × Int), butteryref02_Number_b0 ⟨b, (a : Int), 0⟩ (most : Int) (n : Int) (pos : Int) = some (.inl s') → butteryref02_Number_l0 ⟨b, (a : Int), 0⟩ (most : Int) ((n : Int), (pos : Int)) = butteryref02_Number_l0 ⟨b, (a : Int), 0⟩ (most : Int) s' := fun s' h => loopO_in (body := fun s => butteryref02_Number_b0 ⟨b, (a : Int), 0⟩ (most : Int) s.1 s.2) h
    simp only [rd7]
    by_cases h1 : c = 128#8 ∧ f = true
    · rw [if_pos h1] at hb0 ⊢
      exact hout _ hb0
    · rw [if_neg h1] at hb0 ⊢
      by_cases h2 : most / 128 < n
      · rw [if_pos h2] at hb0 ⊢
        exact hout _ hb0
      · rw [if_neg h2] at hb0 ⊢
        by_cases h3 : 128 ≤ c.toNat
        · rw [if_pos h3] at hb0 ⊢
          rw [step _ hb0, refNum_l hb hm l (pos + 1) (n * 128 + c.toNat % 128) false hd (by omega) (by simp) (fun _ => by cases f with | true => have := (hf rfl).2; omega | false => have := hg rfl; omega) (by omega), rOut_go]
        · rw [if_neg h3] at hb0 ⊢
          by_cases h4 : most < n * 128 + c.toNat
          · rw [if_pos h4] at hb0 ⊢
            exact hout _ hb0
          · rw [if_neg h4] at hb0 ⊢
            exact hout _ hb0
/-- What is read, and where the reader stands then. -/
def rdN (b : List (BitVec 8)) (a most : Nat) : Nat × Nat × Int := match rd7 most (b.drop a) true 0 with
  | .inl e => (0, a, e)
  | .inr (m, k) => (m, a + k, 0)
theorem octNum_eq {b : List (BitVec 8)} {a most : Nat} (hb : b.length ≤ 1000000) (ha : a ≤ b.length) (hm : most < 9223372036854775808) : octets_Reader_Number ⟨b, a, 0⟩ most = some (((rdN b a most).1 : Int), ⟨b, ((rdN b a most).2.1 : Int), (rdN b a most).2.2⟩) := by
  simp only [octets_Reader_Number]
  have := octNum_l hb hm (b.drop a) a 0 true rfl ha (fun _ => ⟨rfl, rfl⟩) (fun h => by cases h) (by omega)
  rw [show ((0 : Nat) : Int) = 0 from rfl] at this
  rw [this]
  unfold rdN
  cases rd7 most (b.drop a) true 0 with
  | inl e => rfl
  | inr p => rfl
theorem refNum_eq {b : List (BitVec 8)} {a most : Nat} (hb : b.length ≤ 1000000) (ha : a ≤ b.length) (hm : most < 9223372036854775808) : butteryref02_Number ⟨b, a, 0⟩ most = some (⟨b, ((rdN b a most).2.1 : Int), (rdN b a most).2.2⟩, ((rdN b a most).1 : Int)) := by
  simp only [butteryref02_Number, lt_eq]
  rw [if_neg (by simp)]
  have := refNum_l hb hm (b.drop a) a 0 true rfl ha (fun _ => ⟨rfl, rfl⟩) (fun h => by cases h) (by omega)
  rw [show ((0 : Nat) : Int) = 0 from rfl] at this
  rw [this]
  unfold rdN
  cases h : rd7 most (b.drop a) true 0 with
  | inl e =>
    rcases rd7_err h with rfl | rfl | rfl <;> rfl
  | inr p => rfl
theorem rdN_le {b : List (BitVec 8)} {a most : Nat} (ha : a ≤ b.length) : (rdN b a most).2.1 ≤ b.length ∧ a ≤ (rdN b a most).2.1 ∧ (rdN b a most).1 ≤ most ∧ ((rdN b a most).2.2 ≠ 0 → (rdN b a most).1 = 0 ∧ (rdN b a most).2.1 = a) := by
  unfold rdN
  cases h : rd7 most (b.drop a) true 0 with
  | inl e => exact ⟨ha, Nat.le_refl _, Nat.zero_le _, fun _ => ⟨rfl, rfl⟩⟩
  | inr p =>
    have := rd7_le h
    simp only [List.length_drop] at this
    exact ⟨by simp only; omega, by simp only; omega, this.1, fun h => absurd rfl h⟩
theorem rdN_off {b : List (BitVec 8)} {a : Int} {most e : Int} (he : e ≠ 0) : octets_Reader_Number ⟨b, a, e⟩ most = some (0, ⟨b, a, e⟩) := by
  simp only [octets_Reader_Number, octNum_stop _ _ _ _ _ _ he]; rfl
theorem refN_off {b : List (BitVec 8)} {a : Int} {most e : Int} (he : e ≠ 0) : butteryref02_Number ⟨b, a, e⟩ most = some (⟨b, a, e⟩, 0) := by
  simp [butteryref02_Number, lt_eq, he]
theorem left_eq {b : List (BitVec 8)} {a : Nat} {e : Int} (hb : b.length ≤ 1000000) (ha : a ≤ b.length) : octets_Reader_Left ⟨b, a, e⟩ = some ((b.length - a : Nat) : Int) := by
  simp only [octets_Reader_Left, lt_eq]
  rw [w64_eq (by omega) (by omega)]
  congr 1; omega
end Go.Proofs.YthkfilchighbhaaDoor
namespace Go.Proofs.YthkfilchighbhaaDoor
open Go Go.Va
set_option linter.unusedVariables false
set_option linter.unusedSimpArgs false
def stp (a : BitVec 64) (c : BitVec 8) : BitVec 64 := a <<< 8 ||| c.setWidth 64
def word (l : List (BitVec 8)) : BitVec 64 := l.foldl stp 0#64
theorem stp_add (a : BitVec 64) (c : BitVec 8) : a * 256#64 + c.setWidth 64 = stp a c := by
  have h1 : a * 256#64 = a <<< 8 := by
    apply BitVec.eq_of_toNat_eq
    simp [Nat.shiftLeft_eq]
  have h2 : a <<< 8 &&& c.setWidth 64 = 0#64 := by
    apply BitVec.eq_of_getLsbD_eq
    intro i hi
    simp only [BitVec.getLsbD_and, BitVec.getLsbD_shiftLeft, BitVec.getLsbD_setWidth, BitVec.getLsbD_zero]
    by_cases h : i < 8
    · simp [h]
    · rw [BitVec.getLsbD_of_ge c i (by omega)]; simp
  rw [h1, BitVec.add_eq_or_of_and_eq_zero _ _ h2]; rfl
theorem word_wd (n : BitVec 64) : ∀ i, i ≤ 8 → word (wd n i) = n >>> (64 - 8 * i)
  | 0, _ => by
    apply BitVec.eq_of_getLsbD_eq
    intro j hj
    rw [BitVec.getLsbD_ushiftRight, BitVec.getLsbD_of_ge n _ (by omega)]; simp [word, wd]
  | i + 1, h => by
    rw [wd_succ, word, List.foldl_append]
    have ih := word_wd n i (by omega)
    rw [word] at ih
    rw [ih]
    simp only [List.foldl_cons, List.foldl_nil, stp]
    apply BitVec.eq_of_getLsbD_eq
    intro j hj
    simp only [BitVec.getLsbD_or, BitVec.getLsbD_shiftLeft, BitVec.getLsbD_ushiftRight, BitVec.getLsbD_setWidth]
    by_cases h8 : j < 8
    · simp [h8, hj, show 64 - 8 * (i + 1) = 56 - 8 * i by omega]
    · simp only [h8, hj, decide_true, decide_false, Bool.not_false, Bool.and_true, Bool.true_and, Bool.false_and, Bool.and_false, Bool.or_false]
      congr 1; omega
theorem word_full (n : BitVec 64) : word (wd n 8) = n := by
  rw [word_wd n 8 (by omega)]; simp
/-- Eight bytes. -/
def cut8 (b : List (BitVec 8)) (a : Nat) : List (BitVec 8) := (b.take (a + 8)).drop a
theorem cut8_len {b : List (BitVec 8)} {a : Nat} (h : a + 8 ≤ b.length) : (cut8 b a).length = 8 := by simp [cut8]; omega
/-- What bytes are read: they, where the reader stands then, what is wrong. -/
def rdB (b : List (BitVec 8)) (a most : Nat) : List (BitVec 8) × Nat × Int :=
  if (rdN b a most).2.2 ≠ 0 then ([], (rdN b a most).2.1, (rdN b a most).2.2) else
  if b.length < (rdN b a most).2.1 + (rdN b a most).1 then ([], a, 6) else ((b.take ((rdN b a most).2.1 + (rdN b a most).1)).drop (rdN b a most).2.1, (rdN b a most).2.1 + (rdN b a most).1, 0)
theorem octBytesR_eq {b : List (BitVec 8)} {a most : Nat} (hb : b.length ≤ 1000000) (ha : a ≤ b.length) (hm : most < 9223372036854775808) : octets_Reader_Bytes ⟨b, a, 0⟩ most = some ((rdB b a most).1, ⟨b, ((rdB b a most).2.1 : Int), (rdB b a most).2.2⟩) := by
  simp only [octets_Reader_Bytes, octNum_eq hb ha hm, Option.bind_some, lt_eq]
  obtain ⟨h1, h2, h3, h4⟩ := rdN_le (most := most) ha
  unfold rdB
  generalize rdN b a most = z at *
  obtain ⟨n, p, e⟩ := z
  simp only at *
  by_cases he : e = 0
  · subst he
    rw [if_neg (by simp), if_neg (by simp), left_eq hb h1]
    simp only [Option.bind_some]
    by_cases hc : b.length < p + n
    · rw [if_pos hc, if_pos (decide_eq_true (by omega)), fail_eq]; rfl
    · rw [if_neg hc, if_neg (by rw [decide_eq_false (by omega)]; simp), w64_eq (by omega) (by omega), show (p : Int) + (n : Int) = ((p + n : Nat) : Int) by omega, cutO_eq (by omega) (by omega)]
      simp only [Option.bind_some]
      rw [app_eq (by simp; omega)]; rfl
  · rw [if_pos (by simpa using he), if_pos he]
theorem octBytesR_off {b : List (BitVec 8)} {a e most : Int} (he : e ≠ 0) : octets_Reader_Bytes ⟨b, a, e⟩ most = some ([], ⟨b, a, e⟩) := by
  simp [octets_Reader_Bytes, rdN_off he, lt_eq, he]
theorem text_eq {b : List (BitVec 8)} {a most : Nat} (hb : b.length ≤ 1000000) (ha : a ≤ b.length) (hm : most < 9223372036854775808) : butteryref02_Text ⟨b, a, 0⟩ most = some (⟨b, ((rdB b a most).2.1 : Int), (rdB b a most).2.2⟩, (rdB b a most).1) := by
  simp only [butteryref02_Text, refNum_eq hb ha hm, Option.bind_some, lt_eq]
  obtain ⟨h1, h2, h3, h4⟩ := rdN_le (most := most) ha
  unfold rdB
  generalize rdN b a most = z at *
  obtain ⟨n, p, e⟩ := z
  simp only at *
  by_cases he : e = 0
  · subst he
    rw [if_neg (show ¬ (((0 : Int) != 0) = true) by simp), if_neg (show ¬ ((0 : Int) ≠ 0) by simp), w64_eq (n := (b.length : Int) - (p : Int)) (by omega) (by omega)]
    by_cases hc : b.length < p + n
    · rw [if_pos hc, if_pos (decide_eq_true (by omega)), rfail_eq]; rfl
    · rw [if_neg hc, if_neg (by rw [decide_eq_false (by omega)]; simp), w64_eq (by omega) (by omega), show (p : Int) + (n : Int) = ((p + n : Nat) : Int) by omega, cutO_eq (by omega) (by omega)]
      simp only [Option.bind_some]
      rw [app_eq (by simp; omega)]; rfl
  · rw [if_pos (by simpa using he), if_pos he]
theorem text_off {b : List (BitVec 8)} {a e most : Int} (he : e ≠ 0) : butteryref02_Text ⟨b, a, e⟩ most = some (⟨b, a, e⟩, []) := by
  simp [butteryref02_Text, refN_off he, lt_eq, he]
theorem rdB_le {b : List (BitVec 8)} {a most : Nat} (ha : a ≤ b.length) : (rdB b a most).2.1 ≤ b.length ∧ a ≤ (rdB b a most).2.1 ∧ (rdB b a most).1.length ≤ b.length := by
  obtain ⟨h1, h2, h3, h4⟩ := rdN_le (most := most) ha
  unfold rdB
  generalize rdN b a most = z at *
  obtain ⟨n, p, e⟩ := z
  simp only at *
  split
  · exact ⟨h1, h2, by simp⟩
  · split
    · exact ⟨ha, Nat.le_refl _, by simp⟩
    · exact ⟨by simp only; omega, by simp only; omega, by simp; omega⟩
theorem end_eq {b : List (BitVec 8)} {a : Nat} {e : Int} (hb : b.length ≤ 1000000) (ha : a ≤ b.length) : octets_Reader_End ⟨b, a, e⟩ = some (if e = 0 ∧ a < b.length then 5 else e, ⟨b, a, if e = 0 ∧ a < b.length then 5 else e⟩) := by
  simp only [octets_Reader_End, left_eq hb ha, Option.bind_some, lt_eq]
  by_cases h : a < b.length
  · rw [if_pos (decide_eq_true (by omega))]
    by_cases he : e = 0
    · subst he; rw [fail_eq]; simp [h]
    · simp [octets_Reader_Fail, lt_eq, he]
  · rw [if_neg (by rw [decide_eq_false (by omega)]; simp)]; simp [h]
theorem rend_eq {b : List (BitVec 8)} {a : Nat} {e : Int} : butteryref02_End ⟨b, a, e⟩ = some (if e = 0 ∧ a < b.length then 5 else e) := by
  simp only [butteryref02_End, lt_eq]
  by_cases he : e = 0
  · subst he
    rw [if_pos (by rfl)]
    by_cases h : a < b.length
    · simp [h]
    · simp [h]
  · simp [he]
theorem read_eq {b : List (BitVec 8)} (hb : b.length ≤ 1000000) : octets_Read b = some ⟨b, 0, 0⟩ := by
  simp only [octets_Read, lt_eq]
  rw [app_eq (by simp; omega)]; rfl
end Go.Proofs.YthkfilchighbhaaDoor
namespace Go.Proofs.YthkfilchighbhaaDoor
open Go Go.Va
set_option linter.unusedVariables false
set_option linter.unusedSimpArgs false
def upN (k : Nat) : Int ⊕ (Nat × Nat) → Int ⊕ (Nat × Nat)
  | .inl e => .inl e
  | .inr (m, j) => .inr (m, k + j)
theorem upN_up (k : Nat) (r : Int ⊕ (Nat × Nat)) : upN k (up7 r) = upN (k + 1) r := by
  cases r with
  | inl e => rfl
  | inr p => simp only [up7, upN]; rw [show k + (p.2 + 1) = k + 1 + p.2 by omega]
theorem rd7_pre {most : Nat} : ∀ (k q : Nat), q < 128 ^ k → q ≤ most / 128 → ∀ l, rd7 most (pre q ++ l) true 0 = upN (pre q).length (rd7 most l (decide (q = 0)) q)
  | 0, q, h, hq, l => by
    have : q = 0 := by simpa using h
    subst this
    rw [pre_zero]
    simp only [List.nil_append, List.length_nil, decide_true]
    cases rd7 most l true 0 with
    | inl e => rfl
    | inr p => simp [upN]
  | k + 1, q, h, hq, l => by
    by_cases h0 : q = 0
    · subst h0
      rw [pre_zero]
      simp only [List.nil_append, List.length_nil, decide_true]
      cases rd7 most l true 0 with
      | inl e => rfl
      | inr p => simp [upN]
    · rw [pre_pos (by omega), List.append_assoc, rd7_pre k (q / 128) (by rw [Nat.div_lt_iff_lt_mul (by decide)]; rw [Nat.pow_succ] at h; exact h) (by omega)]
      have hc : (BitVec.ofNat 8 (q % 128 + 128)).toNat = q % 128 + 128 := by simp; omega
      simp only [List.singleton_append, rd7]
      rw [if_neg (by
        rintro ⟨h1, h2⟩
        have h1 := congrArg BitVec.toNat h1
        rw [hc] at h1
        have h1 : q % 128 + 128 = 128 := h1
        have h2 : q / 128 = 0 := by simpa using h2
        omega), if_neg (by omega), if_pos (by omega), hc, upN_up]
      rw [show q / 128 * 128 + (q % 128 + 128) % 128 = q by omega, decide_eq_false h0]
      simp
theorem rd7_num {most m : Nat} (hm : m ≤ most) (hm2 : m < 9223372036854775808) (l : List (BitVec 8)) : rd7 most (num7 m ++ l) true 0 = .inr (m, (num7 m).length) := by
  rw [num7, List.append_assoc, rd7_pre 9 (m / 128) (by omega) (by omega)]
  have hc : (BitVec.ofNat 8 (m % 128)).toNat = m % 128 := by simp; omega
  simp only [List.singleton_append, rd7]
  rw [if_neg (by
    rintro ⟨h1, h2⟩
    have h1 := congrArg BitVec.toNat h1
    rw [hc] at h1
    have h1 : m % 128 = 128 := h1
    omega), if_neg (by omega), if_neg (by omega), if_neg (by omega), hc, show m / 128 * 128 + m % 128 = m by omega]
  simp [upN]
theorem rdN_num {b l : List (BitVec 8)} {a most m : Nat} (h : b.drop a = num7 m ++ l) (hm : m ≤ most) (hm2 : m < 9223372036854775808) : rdN b a most = (m, a + (num7 m).length, 0) := by
  rw [rdN, h, rd7_num hm hm2]
/-- Bytes that are read as a number, all but the first ones: they are its last bytes. -/
theorem rd7_one {most : Nat} (hm : most < 9223372036854775808) : ∀ {l : List (BitVec 8)} {f : Bool} {n m k : Nat}, (f = true → n = 0) → (f = false → 0 < n) → rd7 most l f n = .inr (m, k) → num7 m = pre n ++ l.take k
  | [], f, n, m, k, _, _, h => by simp [rd7] at h
  | c :: l, f, n, m, k, hf, hg, h => by
    have hc := c.isLt
    simp only [rd7] at h
    split at h
    · cases h
    · rename_i h1
      split at h
      · cases h
      · split at h
        · rename_i h3
          cases hr : rd7 most l false (n * 128 + c.toNat % 128) with
          | inl e => rw [hr] at h; cases h
          | inr p =>
            obtain ⟨m', k'⟩ := p
            rw [hr] at h
            simp only [up7, Sum.inr.injEq, Prod.mk.injEq] at h
            obtain ⟨rfl, rfl⟩ := h
            have hpos : 0 < n * 128 + c.toNat % 128 := by
              cases f with
              | true =>
                have : c ≠ 128#8 := fun e => h1 ⟨e, rfl⟩
                have : c.toNat ≠ 128 := fun e => this (BitVec.eq_of_toNat_eq e)
                omega
              | false => have := hg rfl; omega
            have ih := rd7_one hm (f := false) (fun e => by cases e) (fun _ => hpos) hr
            rw [ih, pre_pos hpos]
            rw [show (n * 128 + c.toNat % 128) / 128 = n by omega, show (n * 128 + c.toNat % 128) % 128 + 128 = c.toNat by omega]
            simp
        · rename_i h3
          split at h
          · cases h
          · simp only [Sum.inr.injEq, Prod.mk.injEq] at h
            obtain ⟨rfl, rfl⟩ := h
            rw [num7, show (n * 128 + c.toNat) / 128 = n by omega, show (n * 128 + c.toNat) % 128 = c.toNat by omega]
            simp
/-- What a reader is, and the program's reader beside it. -/
structure rdr where
  a : Nat
  e : Int
def rdr.x (r : rdr) (b : List (BitVec 8)) : butteryref02_Reader := ⟨b, r.a, r.e⟩
def rdr.o (r : rdr) (b : List (BitVec 8)) : octets_Reader := ⟨b, r.a, r.e⟩
theorem num_both {b : List (BitVec 8)} (hb : b.length ≤ 1000000) (r : rdr) (hr : r.a ≤ b.length) {m : Int} (h0 : 0 ≤ m) (h1 : m ≤ 9223372036854775807) : ∃ (s : rdr) (n : Int), s.a ≤ b.length ∧ butteryref02_Number (r.x b) m = some (s.x b, n) ∧ octets_Reader_Number (r.o b) m = some (n, s.o b) := by
  obtain ⟨m, rfl⟩ : ∃ n : Nat, m = (n : Int) := ⟨m.toNat, by omega⟩
  obtain ⟨a, e⟩ := r
  by_cases he : e = 0
  · subst he
    exact ⟨⟨(rdN b a m).2.1, (rdN b a m).2.2⟩, _, (rdN_le hr).1, refNum_eq hb hr (by omega), octNum_eq hb hr (by omega)⟩
  · exact ⟨⟨a, e⟩, 0, hr, refN_off he, rdN_off he⟩
theorem text_both {b : List (BitVec 8)} (hb : b.length ≤ 1000000) (r : rdr) (hr : r.a ≤ b.length) {m : Int} (h0 : 0 ≤ m) (h1 : m ≤ 9223372036854775807) : ∃ (s : rdr) (n : List (BitVec 8)), s.a ≤ b.length ∧ n.length ≤ b.length ∧ butteryref02_Text (r.x b) m = some (s.x b, n) ∧ octets_Reader_Bytes (r.o b) m = some (n, s.o b) := by
  obtain ⟨m, rfl⟩ : ∃ n : Nat, m = (n : Int) := ⟨m.toNat, by omega⟩
  obtain ⟨a, e⟩ := r
  by_cases he : e = 0
  · subst he
    exact ⟨⟨(rdB b a m).2.1, (rdB b a m).2.2⟩, _, (rdB_le hr).1, (rdB_le hr).2.2, text_eq hb hr (by omega), octBytesR_eq hb hr (by omega)⟩
  · exact ⟨⟨a, e⟩, [], hr, by simp, text_off he, octBytesR_off he⟩
/-- What is read as a number. -/
def rN (b : List (BitVec 8)) (r : rdr) (m : Nat) : Nat × rdr := if r.e = 0 then ((rdN b r.a m).1, ⟨(rdN b r.a m).2.1, (rdN b r.a m).2.2⟩) else (0, r)
def rB (b : List (BitVec 8)) (r : rdr) (m : Nat) : List (BitVec 8) × rdr := if r.e = 0 then ((rdB b r.a m).1, ⟨(rdB b r.a m).2.1, (rdB b r.a m).2.2⟩) else ([], r)
theorem octN_r {b : List (BitVec 8)} (hb : b.length ≤ 1000000) {r : rdr} (hr : r.a ≤ b.length) {m : Nat} (hm : m < 9223372036854775808) : octets_Reader_Number (r.o b) (m : Int) = some (((rN b r m).1 : Int), (rN b r m).2.o b) := by
  obtain ⟨a, e⟩ := r
  unfold rN
  by_cases he : e = 0
  · subst he; rw [if_pos rfl]; exact octNum_eq hb hr hm
  · rw [if_neg he]; exact rdN_off he
theorem refN_r {b : List (BitVec 8)} (hb : b.length ≤ 1000000) {r : rdr} (hr : r.a ≤ b.length) {m : Nat} (hm : m < 9223372036854775808) : butteryref02_Number (r.x b) (m : Int) = some ((rN b r m).2.x b, ((rN b r m).1 : Int)) := by
  obtain ⟨a, e⟩ := r
  unfold rN
  by_cases he : e = 0
  · subst he; rw [if_pos rfl]; exact refNum_eq hb hr hm
  · rw [if_neg he]; exact refN_off he
theorem octB_r {b : List (BitVec 8)} (hb : b.length ≤ 1000000) {r : rdr} (hr : r.a ≤ b.length) {m : Nat} (hm : m < 9223372036854775808) : octets_Reader_Bytes (r.o b) (m : Int) = some ((rB b r m).1, (rB b r m).2.o b) := by
  obtain ⟨a, e⟩ := r
  unfold rB
  by_cases he : e = 0
  · subst he; rw [if_pos rfl]; exact octBytesR_eq hb hr hm
  · rw [if_neg he]; exact octBytesR_off he
theorem refB_r {b : List (BitVec 8)} (hb : b.length ≤ 1000000) {r : rdr} (hr : r.a ≤ b.length) {m : Nat} (hm : m < 9223372036854775808) : butteryref02_Text (r.x b) (m : Int) = some ((rB b r m).2.x b, (rB b r m).1) := by
  obtain ⟨a, e⟩ := r
  unfold rB
  by_cases he : e = 0
  · subst he; rw [if_pos rfl]; exact text_eq hb hr hm
  · rw [if_neg he]; exact text_off he
theorem rN_le {b : List (BitVec 8)} {r : rdr} (hr : r.a ≤ b.length) (m : Nat) : (rN b r m).2.a ≤ b.length ∧ r.a ≤ (rN b r m).2.a ∧ (rN b r m).1 ≤ m := by
  unfold rN
  split
  · have := rdN_le (most := m) hr; exact ⟨this.1, this.2.1, this.2.2.1⟩
  · exact ⟨hr, Nat.le_refl _, Nat.zero_le _⟩
theorem rB_le {b : List (BitVec 8)} {r : rdr} (hr : r.a ≤ b.length) (m : Nat) : (rB b r m).2.a ≤ b.length ∧ r.a ≤ (rB b r m).2.a ∧ (rB b r m).1.length ≤ b.length := by
  unfold rB
  split
  · exact rdB_le hr
  · exact ⟨hr, Nat.le_refl _, by simp⟩
theorem rN_off {b : List (BitVec 8)} {r : rdr} {m : Nat} (h : (rN b r m).2.e = 0) : r.e = 0 := by
  unfold rN at h
  split at h
  · assumption
  · exact h
theorem rB_off {b : List (BitVec 8)} {r : rdr} {m : Nat} (h : (rB b r m).2.e = 0) : r.e = 0 := by
  unfold rB at h
  split at h
  · assumption
  · exact h
/-- A number that is there is read. -/
theorem rN_is {b l : List (BitVec 8)} {r : rdr} {m n : Nat} (he : r.e = 0) (h : b.drop r.a = num7 n ++ l) (hm : n ≤ m) (hn : n < 9223372036854775808) : rN b r m = (n, ⟨r.a + (num7 n).length, 0⟩) := by
  unfold rN
  rw [if_pos he, rdN_num h hm hn]
theorem drop_app {b x l : List (BitVec 8)} {a : Nat} (h : b.drop a = x ++ l) : b.drop (a + x.length) = l := by
  rw [← List.drop_drop, h, List.drop_left' rfl]
/-- Bytes that are there are read. -/
theorem rB_is {b t l : List (BitVec 8)} {r : rdr} {m : Nat} (he : r.e = 0) (hr : r.a ≤ b.length) (h : b.drop r.a = num7 t.length ++ (t ++ l)) (hm : t.length ≤ m) (hn : t.length < 9223372036854775808) : rB b r m = (t, ⟨r.a + (num7 t.length).length + t.length, 0⟩) := by
  have h2 := drop_app h
  have h3 := congrArg List.length h2
  have h4 := congrArg List.length h
  simp only [List.length_drop, List.length_append] at h3 h4
  unfold rB rdB
  rw [if_pos he, rdN_num h hm hn]
  simp only
  rw [if_neg (by simp), if_neg (by omega)]
  refine Prod.ext ?_ rfl
  simp only
  rw [List.drop_take, h2, show r.a + (num7 t.length).length + t.length - (r.a + (num7 t.length).length) = t.length by omega, List.take_left' rfl]
/-- What was read as a number is its bytes. -/
theorem rN_one {b : List (BitVec 8)} {r : rdr} {m : Nat} (hm : m < 9223372036854775808) (h : (rN b r m).2.e = 0) : b.drop r.a = num7 (rN b r m).1 ++ b.drop (rN b r m).2.a ∧ r.a < (rN b r m).2.a := by
  have he := rN_off h
  unfold rN at h ⊢
  rw [if_pos he] at h ⊢
  unfold rdN at h ⊢
  cases hr : rd7 m (b.drop r.a) true 0 with
  | inl e =>
    rw [hr] at h
    simp only at h
    rcases rd7_err hr with rfl | rfl | rfl <;> cases h
  | inr p =>
    obtain ⟨n, k⟩ := p
    have h1 := rd7_one hm (fun _ => rfl) (fun h => by cases h) hr
    rw [pre_zero, List.nil_append] at h1
    have h2 := rd7_le hr
    simp only
    rw [h1, ← List.drop_drop, List.take_append_drop]
    exact ⟨rfl, by omega⟩
/-- What was read as bytes is their number and they. -/
theorem rB_one {b : List (BitVec 8)} {r : rdr} {m : Nat} (hr : r.a ≤ b.length) (hm : m < 9223372036854775808) (h : (rB b r m).2.e = 0) : b.drop r.a = num7 (rB b r m).1.length ++ ((rB b r m).1 ++ b.drop (rB b r m).2.a) ∧ r.a < (rB b r m).2.a ∧ (rB b r m).1.length ≤ m := by
  have he := rB_off h
  have hN := rN_one (b := b) (r := r) hm
  have hle := rN_le hr m
  unfold rN at hN hle
  rw [if_pos he] at hN hle
  simp only at hN hle
  unfold rB at h ⊢
  rw [if_pos he] at h ⊢
  unfold rdB at h ⊢
  generalize rdN b r.a m = z at *
  obtain ⟨n, p, e⟩ := z
  simp only at *
  by_cases h1 : e = 0
  · subst h1
    rw [if_neg (by simp)] at h ⊢
    by_cases h2 : b.length < p + n
    · rw [if_pos h2] at h; cases h
    · rw [if_neg h2]
      obtain ⟨k1, k2⟩ := hN rfl
      have hl : ((b.take (p + n)).drop p).length = n := by simp; omega
      simp only
      rw [hl]
      refine ⟨?_, by omega, hle.2.2⟩
      rw [k1, List.drop_take, show p + n - p = n by omega, ← List.drop_drop, List.take_append_drop]
  · rw [if_pos h1] at h; exact absurd h h1
end Go.Proofs.YthkfilchighbhaaDoor
namespace Go.Proofs.YthkfilchighbhaaDoor
open Go Go.Va
set_option linter.unusedVariables false
set_option linter.unusedSimpArgs false
/-- What is wrong with an entry. -/
def ckK (k : List (BitVec 8)) : Int := if k.length = 0 then 1 else if 40 < k.length then 3 else 0
def ckE (x : api_Entry) : Int :=
  if ckK x.Key ≠ 0 then ckK x.Key else
  if (x.Version < 1 ∨ x.Version > 1099511627776) ∨ (x.AsOf < x.Version ∨ x.AsOf > 1099511627776) ∨ (x.Ends < 0 ∨ x.Ends > 1099511627776) then 2 else
  if 4096 < x.Value.length then 3 else 0
theorem octKey_eq (k : List (BitVec 8)) : octets_Key k = some (ckK k) := by
  unfold octets_Key ckK
  simp only [lt_eq]
  by_cases h0 : k.length = 0
  · rw [if_pos h0, if_pos (by simp [h0])]
  · rw [if_neg h0, if_neg (by simp; intro h; subst h; simp at h0)]
    by_cases h1 : 40 < k.length
    · rw [if_pos h1, if_pos (decide_eq_true (by omega))]
    · rw [if_neg h1, if_neg (by rw [decide_eq_false (by omega)]; simp)]
theorem refKey_eq (k : List (BitVec 8)) : butteryref02_Key k = some (ckK k) := by rw [← key_eq, octKey_eq]
theorem new_eq (op : List (BitVec 8)) (n c : Int) (hc : c ≠ 0) : trouble_New op n c = some (.fault op n c .nil) := by
  simp [trouble_New, lt_eq, hc]
theorem wrap_eq (op : List (BitVec 8)) (n : Int) (e : Err) (he : e.isNil = false) : trouble_Wrap op n e = some (.fault op n 0 e) := by
  simp [trouble_Wrap, lt_eq, he]
theorem num_ck (op : List (BitVec 8)) (n low : Int) (e : Err) : ∃ e', item_Check_1_c op n low e = some e' ∧ (e.isNil = false → e' = e) ∧ (e = .nil → (n < low ∨ n > 1099511627776) → ∃ o a, e' = .fault o a 2 .nil) ∧ (e = .nil → ¬ (n < low ∨ n > 1099511627776) → e' = .nil) := by
  unfold item_Check_1_c
  simp only [lt_eq]
  cases e with
  | fault o a c u => exact ⟨_, rfl, fun _ => rfl, (fun h => by cases h), (fun h => by cases h)⟩
  | nil =>
    simp only [Err.isNil, if_true]
    by_cases h1 : n < low
    · rw [if_pos (decide_eq_true h1)]
      exact ⟨_, rfl, (fun h => by cases h), fun _ _ => ⟨_, _, rfl⟩, fun _ h => absurd (.inl h1) h⟩
    · rw [if_neg (by rw [decide_eq_false h1]; simp)]
      by_cases h2 : n > 1099511627776
      · rw [decide_eq_true h2]
        exact ⟨_, rfl, (fun h => by cases h), fun _ _ => ⟨_, _, rfl⟩, fun _ h => absurd (.inr h2) h⟩
      · rw [decide_eq_false h2]
        exact ⟨_, rfl, (fun h => by cases h), fun _ h => absurd h (by omega), fun _ _ => rfl⟩
theorem check_eq (x : api_Entry) : ∃ e, item_Check x = some e ∧ codeOf e = ckE x ∧ e.isNil = decide (ckE x = 0) := by
  unfold item_Check ckE
  rw [octKey_eq]
  simp only [Option.bind_some, lt_eq]
  by_cases hk : ckK x.Key = 0
  · rw [if_neg (show ¬ ((ckK x.Key != 0) = true) by simpa using hk), if_neg (show ¬ (ckK x.Key ≠ 0) by simpa using hk)]
    obtain ⟨e1, a1, a2, a3, a4⟩ := num_ck [118#8, 101#8, 114#8, 115#8, 105#8, 111#8, 110#8] x.Version 1 .nil
    obtain ⟨e2, b1, b2, b3, b4⟩ := num_ck [97#8, 115#8, 111#8, 102#8] x.AsOf x.Version e1
    obtain ⟨e3, c1, c2, c3, c4⟩ := num_ck [101#8, 110#8, 100#8, 115#8] x.Ends 0 e2
    simp only [a1, b1, c1, Option.bind_some]
    by_cases h : (x.Version < 1 ∨ x.Version > 1099511627776) ∨ (x.AsOf < x.Version ∨ x.AsOf > 1099511627776) ∨ (x.Ends < 0 ∨ x.Ends > 1099511627776)
    · rw [if_pos h]
      have key : ∃ o a, e3 = .fault o a 2 .nil := by
        by_cases h1 : x.Version < 1 ∨ x.Version > 1099511627776
        · obtain ⟨o, a, rfl⟩ := a3 rfl h1
          have := b2 rfl; subst this
          have := c2 rfl; subst this
          exact ⟨o, a, rfl⟩
        · have := a4 rfl h1; subst this
          by_cases h2 : x.AsOf < x.Version ∨ x.AsOf > 1099511627776
          · obtain ⟨o, a, rfl⟩ := b3 rfl h2
            have := c2 rfl; subst this
            exact ⟨o, a, rfl⟩
          · have := b4 rfl h2; subst this
            have h3 : x.Ends < 0 ∨ x.Ends > 1099511627776 := by
              rcases h with h | h | h
              · exact absurd h h1
              · exact absurd h h2
              · exact h
            exact c3 rfl h3
      obtain ⟨o, a, rfl⟩ := key
      exact ⟨_, rfl, rfl, rfl⟩
    · rw [if_neg h]
      simp only [not_or] at h
      have := a4 rfl (by omega); subst this
      have := b4 rfl (by omega); subst this
      have := c4 rfl (by omega); subst this
      simp only [Err.isNil, if_true, Option.bind_some]
      by_cases hv : 4096 < x.Value.length
      · rw [if_pos (decide_eq_true (by omega)), if_pos hv, new_eq _ _ _ (by decide)]
        exact ⟨_, rfl, rfl, rfl⟩
      · rw [if_neg (by rw [decide_eq_false (by omega)]; simp), if_neg hv]
        exact ⟨_, rfl, rfl, rfl⟩
  · rw [if_pos (by simpa using hk), if_pos hk, new_eq _ _ _ hk]
    exact ⟨_, rfl, by simp [codeOf, hk], by simp [Err.isNil, hk]⟩
theorem refCheck_eq (x : api_Entry) : butteryref06_Check x = some (ckE x) := by
  unfold butteryref06_Check ckE
  rw [refKey_eq]
  simp only [Option.bind_some, lt_eq]
  by_cases hk : ckK x.Key = 0
  · rw [if_neg (show ¬ ((ckK x.Key != 0) = true) by simpa using hk), if_neg (show ¬ (ckK x.Key ≠ 0) by simpa using hk)]
    have hb : (if decide (x.Version < 1) = true then some true else if decide (x.Version > 1099511627776) = true then some true else if decide (x.AsOf < x.Version) = true then some true else if decide (x.AsOf > 1099511627776) = true then some true else if decide (x.Ends < 0) = true then some true else some (decide (x.Ends > 1099511627776))) = some (decide ((x.Version < 1 ∨ x.Version > 1099511627776) ∨ (x.AsOf < x.Version ∨ x.AsOf > 1099511627776) ∨ (x.Ends < 0 ∨ x.Ends > 1099511627776))) := by
      by_cases h1 : x.Version < 1
      · simp [h1]
      by_cases h2 : x.Version > 1099511627776
      · simp [h1, h2]
      by_cases h3 : x.AsOf < x.Version
      · simp [h1, h2, h3]
      by_cases h4 : x.AsOf > 1099511627776
      · simp [h1, h2, h3, h4]
      by_cases h5 : x.Ends < 0
      · simp [h1, h2, h3, h4, h5]
      · simp [h1, h2, h3, h4, h5]
    rw [hb]
    simp only [Option.bind_some, decide_eq_true_eq]
    split
    · rfl
    · by_cases hv : 4096 < x.Value.length
      · rw [if_pos (by omega), if_pos hv]
      · rw [if_neg (by omega), if_neg hv]
  · rw [if_pos (show (ckK x.Key != 0) = true by simpa using hk), if_pos (show ckK x.Key ≠ 0 from hk)]
/-- An entry that may be. -/
theorem ck_ok {x : api_Entry} (h : ckE x = 0) : 1 ≤ x.Key.length ∧ x.Key.length ≤ 40 ∧ 1 ≤ x.Version ∧ x.Version ≤ 1099511627776 ∧ x.Version ≤ x.AsOf ∧ x.AsOf ≤ 1099511627776 ∧ 0 ≤ x.Ends ∧ x.Ends ≤ 1099511627776 ∧ x.Value.length ≤ 4096 := by
  unfold ckE ckK at h
  by_cases h1 : x.Key.length = 0
  · simp [h1] at h
  by_cases h2 : 40 < x.Key.length
  · simp [h1, h2] at h
  simp only [if_neg h1, if_neg h2] at h
  rw [if_neg (by simp)] at h
  by_cases h3 : (x.Version < 1 ∨ x.Version > 1099511627776) ∨ (x.AsOf < x.Version ∨ x.AsOf > 1099511627776) ∨ (x.Ends < 0 ∨ x.Ends > 1099511627776)
  · rw [if_pos h3] at h; cases h
  rw [if_neg h3] at h
  by_cases h4 : 4096 < x.Value.length
  · rw [if_pos h4] at h; cases h
  omega
/-- The bytes of an entry. -/
def encE (x : api_Entry) : List (BitVec 8) := num7 x.Key.length ++ (x.Key ++ (num7 x.Version.toNat ++ (num7 x.AsOf.toNat ++ (num7 x.Ends.toNat ++ (num7 x.Value.length ++ x.Value)))))
theorem okN_ck {x : api_Entry} (h : ckE x = 0) : okN [x.Version, x.AsOf, x.Ends] := by
  obtain ⟨h1, h2, h3, h4, h5, h6, h7, h8, h9⟩ := ck_ok h
  refine ⟨by simp, fun n hn => ?_⟩
  simp only [List.mem_cons, List.not_mem_nil, or_false] at hn
  rcases hn with rfl | rfl | rfl <;> omega
theorem num7_le {n : Nat} (h : n < 9223372036854775808) : (num7 n).length ≤ 9 := num7_len h
theorem encE_len {x : api_Entry} (h : ckE x = 0) : (encE x).length ≤ 4181 ∧ 1 ≤ (encE x).length := by
  obtain ⟨h1, h2, h3, h4, h5, h6, h7, h8, h9⟩ := ck_ok h
  have a1 := num7_len (n := x.Key.length) (by omega)
  have a2 := num7_len (n := x.Version.toNat) (by omega)
  have a3 := num7_len (n := x.AsOf.toNat) (by omega)
  have a4 := num7_len (n := x.Ends.toNat) (by omega)
  have a5 := num7_len (n := x.Value.length) (by omega)
  simp only [encE, List.length_append]
  omega
theorem nlen_num7 : ∀ (k n : Nat), n < 128 ^ k → (num7 n).length = nlen n
  | 0, n, h => by
    have : n = 0 := by simpa using h
    subst this
    rw [num7_small (by omega), nlen_lt (by omega)]; rfl
  | k + 1, n, h => by
    by_cases h1 : n < 128
    · rw [num7_small h1, nlen_lt h1]; rfl
    · rw [nlen_ge (by omega), ← nlen_num7 k (n / 128) (by rw [Nat.div_lt_iff_lt_mul (by decide)]; rw [Nat.pow_succ] at h; exact h)]
      simp only [num7, List.length_append, List.length_cons, List.length_nil]
      rw [pre_pos (m := n / 128) (by omega)]
      simp
theorem nlen_eq {n : Nat} (h : n < 9223372036854775808) : (num7 n).length = nlen n := nlen_num7 9 n (by omega)
def zeroE : api_Entry := ⟨[], 0, 0, 0, []⟩
/-- What is read as an entry. -/
def frE (b : List (BitVec 8)) (r : rdr) : api_Entry × rdr :=
  let k := rB b r 40
  let v := rN b k.2 1099511627776
  let a := rN b v.2 1099511627776
  let n := rN b a.2 1099511627776
  let w := rB b n.2 4096
  let x : api_Entry := ⟨k.1, v.1, a.1, n.1, w.1⟩
  if w.2.e = 0 then (if ckE x = 0 then (x, w.2) else (zeroE, ⟨w.2.a, ckE x⟩)) else (zeroE, w.2)
theorem frE_le {b : List (BitVec 8)} {r : rdr} (hr : r.a ≤ b.length) : (frE b r).2.a ≤ b.length := by
  unfold frE
  have h1 := rB_le hr 40
  have h2 := rN_le h1.1 1099511627776
  have h3 := rN_le h2.1 1099511627776
  have h4 := rN_le h3.1 1099511627776
  have h5 := rB_le h4.1 4096
  simp only
  split
  · split
    · exact h5.1
    · exact h5.1
  · exact h5.1
/-- An entry that is there is read. -/
theorem frE_is {b l : List (BitVec 8)} {r : rdr} {x : api_Entry} (he : r.e = 0) (hr : r.a ≤ b.length) (h : b.drop r.a = encE x ++ l) (hc : ckE x = 0) : frE b r = (x, ⟨r.a + (encE x).length, 0⟩) := by
  obtain ⟨h1, h2, h3, h4, h5, h6, h7, h8, h9⟩ := ck_ok hc
  simp only [encE, List.append_assoc] at h
  have k1 := rB_is he hr h (m := 40) (by omega) (by omega)
  have d1 : b.drop (r.a + (num7 x.Key.length).length + x.Key.length) = _ := drop_app (drop_app h)
  have l1 : r.a + (num7 x.Key.length).length + x.Key.length ≤ b.length := by have := (rB_le hr 40).1; rw [k1] at this; exact this
  have k2 := rN_is (r := ⟨r.a + (num7 x.Key.length).length + x.Key.length, 0⟩) rfl d1 (m := 1099511627776) (by omega) (by omega)
  have d2 := drop_app d1
  have l2 := (rN_le (b := b) (r := ⟨r.a + (num7 x.Key.length).length + x.Key.length, 0⟩) l1 1099511627776).1
  rw [k2] at l2
  have k3 := rN_is (r := ⟨r.a + (num7 x.Key.length).length + x.Key.length + (num7 x.Version.toNat).length, 0⟩) rfl d2 (m := 1099511627776) (by omega) (by omega)
  have d3 := drop_app d2
  have l3 := (rN_le (b := b) (r := ⟨r.a + (num7 x.Key.length).length + x.Key.length + (num7 x.Version.toNat).length, 0⟩) l2 1099511627776).1
  rw [k3] at l3
  have k4 := rN_is (r := ⟨r.a + (num7 x.Key.length).length + x.Key.length + (num7 x.Version.toNat).length + (num7 x.AsOf.toNat).length, 0⟩) rfl d3 (m := 1099511627776) (by omega) (by omega)
  have d4 := drop_app d3
  have l4 := (rN_le (b := b) (r := ⟨r.a + (num7 x.Key.length).length + x.Key.length + (num7 x.Version.toNat).length + (num7 x.AsOf.toNat).length, 0⟩) l3 1099511627776).1
  rw [k4] at l4
  have k5 := rB_is (r := ⟨r.a + (num7 x.Key.length).length + x.Key.length + (num7 x.Version.toNat).length + (num7 x.AsOf.toNat).length + (num7 x.Ends.toNat).length, 0⟩) rfl l4 d4 (m := 4096) (by omega) (by omega)
  have e2 : (x.Version.toNat : Int) = x.Version := by omega
  have e3 : (x.AsOf.toNat : Int) = x.AsOf := by omega
  have e4 : (x.Ends.toNat : Int) = x.Ends := by omega
  unfold frE
  simp only [k1, k2, k3, k4, k5, if_true, e2, e3, e4]
  rw [if_pos hc]
  refine Prod.ext rfl ?_
  simp only [encE, List.length_append, rdr.mk.injEq, and_true]
  omega
/-- What was read as an entry is its bytes. -/
theorem frE_one {b : List (BitVec 8)} {r : rdr} (hr : r.a ≤ b.length) (h : (frE b r).2.e = 0) : ckE (frE b r).1 = 0 ∧ b.drop r.a = encE (frE b r).1 ++ b.drop (frE b r).2.a ∧ r.a < (frE b r).2.a := by
  unfold frE at h ⊢
  have h1 := rB_le hr 40
  have h2 := rN_le h1.1 1099511627776
  have h3 := rN_le h2.1 1099511627776
  have h4 := rN_le h3.1 1099511627776
  have h5 := rB_le h4.1 4096
  have o5 := rB_one (b := b) h4.1 (m := 4096) (by omega)
  have f5 := rB_off (b := b) (r := (rN b (rN b (rN b (rB b r 40).2 1099511627776).2 1099511627776).2 1099511627776).2) (m := 4096)
  have o4 := rN_one (b := b) (r := (rN b (rN b (rB b r 40).2 1099511627776).2 1099511627776).2) (m := 1099511627776) (by omega)
  have f4 := rN_off (b := b) (r := (rN b (rN b (rB b r 40).2 1099511627776).2 1099511627776).2) (m := 1099511627776)
  have o3 := rN_one (b := b) (r := (rN b (rB b r 40).2 1099511627776).2) (m := 1099511627776) (by omega)
  have f3 := rN_off (b := b) (r := (rN b (rB b r 40).2 1099511627776).2) (m := 1099511627776)
  have o2 := rN_one (b := b) (r := (rB b r 40).2) (m := 1099511627776) (by omega)
  have f2 := rN_off (b := b) (r := (rB b r 40).2) (m := 1099511627776)
  have o1 := rB_one (b := b) hr (m := 40) (by omega)
  simp only at h ⊢
  generalize rB b (rN b (rN b (rN b (rB b r 40).2 1099511627776).2 1099511627776).2 1099511627776).2 4096 = w at *
  generalize rN b (rN b (rN b (rB b r 40).2 1099511627776).2 1099511627776).2 1099511627776 = n at *
  generalize rN b (rN b (rB b r 40).2 1099511627776).2 1099511627776 = a at *
  generalize rN b (rB b r 40).2 1099511627776 = v at *
  generalize rB b r 40 = k at *
  by_cases he : w.2.e = 0
  · rw [if_pos he] at h ⊢
    by_cases hc : ckE ⟨k.1, v.1, a.1, n.1, w.1⟩ = 0
    · rw [if_pos hc]
      have g4 := f5 he
      have g3 := f4 g4
      have g2 := f3 g3
      have g1 := f2 g2
      refine ⟨hc, ?_, ?_⟩
      · simp only [encE, Int.toNat_natCast, List.append_assoc]
        rw [(o1 g1).1, (o2 g2).1, (o3 g3).1, (o4 g4).1, (o5 he).1]
      · have := (o1 g1).2.1
        simp only
        omega
    · rw [if_neg hc] at h
      exact absurd h hc
  · rw [if_neg he] at h
    exact absurd h he
end Go.Proofs.YthkfilchighbhaaDoor
namespace Go.Proofs.YthkfilchighbhaaDoor
open Go Go.Va
set_option linter.unusedVariables false
set_option linter.unusedSimpArgs false
/-- What bytes are as entries, from a place on; or what is wrong first. -/
def rdE (b : List (BitVec 8)) : Nat → Nat → List api_Entry ⊕ Int
  | 0, _ => .inl []
  | k + 1, a => if a < b.length then (if (frE b ⟨a, 0⟩).2.e = 0 then (match rdE b k (frE b ⟨a, 0⟩).2.a with
      | .inl l => .inl ((frE b ⟨a, 0⟩).1 :: l)
      | .inr c => .inr c) else .inr (frE b ⟨a, 0⟩).2.e) else .inl []
theorem rdE_ne {b : List (BitVec 8)} : ∀ {k a : Nat} {c : Int}, rdE b k a = .inr c → c ≠ 0
  | 0, a, c, h => by simp [rdE] at h
  | k + 1, a, c, h => by
    simp only [rdE] at h
    split at h
    · split at h
      · split at h
        · cases h
        · rename_i hc; cases h; exact rdE_ne hc
      · rename_i he; cases h; exact he
    · cases h
theorem rdE_len {b : List (BitVec 8)} : ∀ {k a : Nat} {l : List api_Entry}, rdE b k a = .inl l → l.length ≤ k
  | 0, a, l, h => by simp [rdE] at h; subst h; simp
  | k + 1, a, l, h => by
    simp only [rdE] at h
    split at h
    · split at h
      · split at h
        · rename_i l' hl; cases h; have := rdE_len hl; simp; omega
        · cases h
      · cases h
    · cases h; simp
theorem frE_val {b : List (BitVec 8)} {r : rdr} (hr : r.a ≤ b.length) : (frE b r).1.Value.length ≤ b.length := by
  unfold frE
  have h1 := rB_le hr 40
  have h2 := rN_le h1.1 1099511627776
  have h3 := rN_le h2.1 1099511627776
  have h4 := rN_le h3.1 1099511627776
  have h5 := rB_le h4.1 4096
  simp only
  split
  · split
    · exact h5.2.2
    · simp [zeroE]
  · simp [zeroE]
theorem rdE_val {b : List (BitVec 8)} : ∀ {k a : Nat} {l : List api_Entry}, a ≤ b.length → rdE b k a = .inl l → ∀ x ∈ l, x.Value.length ≤ b.length
  | 0, a, l, ha, h, x, hx => by simp [rdE] at h; subst h; simp at hx
  | k + 1, a, l, ha, h, x, hx => by
    simp only [rdE] at h
    split at h
    · split at h
      · split at h
        · rename_i l' hl
          cases h
          rcases List.mem_cons.1 hx with rfl | hx
          · exact frE_val (r := ⟨a, 0⟩) ha
          · exact rdE_val (frE_le (r := ⟨a, 0⟩) ha) hl x hx
        · cases h
      · cases h
    · cases h; simp at hx
theorem o_code (r : rdr) (b : List (BitVec 8)) : (r.o b).code = r.e := rfl
theorem o_at (r : rdr) (b : List (BitVec 8)) : (r.o b).at_ = r.a := rfl
theorem x_code (r : rdr) (b : List (BitVec 8)) : (r.x b).Code = r.e := rfl
theorem x_at (r : rdr) (b : List (BitVec 8)) : (r.x b).At = r.a := rfl
/-- Entries that were read are their bytes. -/
theorem rdE_one {b : List (BitVec 8)} : ∀ {k a : Nat} {l : List api_Entry}, b.length < k + a → a ≤ b.length → rdE b k a = .inl l → b.drop a = l.flatMap encE ∧ ∀ x ∈ l, ckE x = 0
  | 0, a, l, h1, h2, h => absurd h1 (by omega)
  | k + 1, a, l, h1, h2, h => by
    simp only [rdE] at h
    split at h
    · rename_i ha
      split at h
      · rename_i he
        obtain ⟨c1, c2, c3⟩ := frE_one (b := b) (r := ⟨a, 0⟩) h2 he
        simp only at c2 c3
        split at h
        · rename_i l' hl
          cases h
          obtain ⟨i1, i2⟩ := rdE_one (by omega) (frE_le (b := b) (r := ⟨a, 0⟩) h2) hl
          refine ⟨by rw [c2, i1]; simp, fun x hx => ?_⟩
          rcases List.mem_cons.1 hx with rfl | hx
          · exact c1
          · exact i2 x hx
        · cases h
      · cases h
    · cases h
      exact ⟨by rw [List.drop_of_length_le (by omega)]; rfl, fun x hx => by cases hx⟩
/-- Entries that may be are read from their bytes. -/
theorem rdE_is {b : List (BitVec 8)} : ∀ {k a : Nat} {l : List api_Entry}, b.length < k + a → a ≤ b.length → b.drop a = l.flatMap encE → (∀ x ∈ l, ckE x = 0) → rdE b k a = .inl l
  | 0, a, l, h1, h2, _, _ => absurd h1 (by omega)
  | k + 1, a, [], h1, h2, h3, h4 => by
    have h5 := congrArg List.length h3
    simp at h5
    rw [rdE, if_neg (by omega)]
  | k + 1, a, x :: l, h1, h2, h3, h4 => by
    have hx := h4 x List.mem_cons_self
    rw [List.flatMap_cons] at h3
    have hr := frE_is (r := ⟨a, 0⟩) rfl h2 h3 hx
    have h5 := congrArg List.length h3
    have hp := (encE_len hx).2
    simp only [List.length_drop, List.length_append] at h5
    have ih := rdE_is (k := k) (a := a + (encE x).length) (l := l) (by omega) (by omega) (drop_app h3) (fun y hy => h4 y (List.mem_cons_of_mem _ hy))
    rw [rdE, if_pos (by omega), hr]
    simp only [if_true, ih]
theorem all_len {l : List api_Entry} (h : ∀ x ∈ l, ckE x = 0) : (l.flatMap encE).length ≤ 4181 * l.length := by
  induction l with
  | nil => simp
  | cons x l ih =>
    have := ih (fun y hy => h y (List.mem_cons_of_mem _ hy))
    have := (encE_len (h x List.mem_cons_self)).1
    simp only [List.flatMap_cons, List.length_append, List.length_cons]
    omega
theorem same_eq6 (x y : api_Entry) (hx : x.Value.length < 9223372036854775807) : butteryref06_Same x y = some (decide (x = y)) := by
  obtain ⟨k, v, a, n, w⟩ := x
  obtain ⟨k', v', a', n', w'⟩ := y
  simp only at hx
  simp only [butteryref06_Same, lt_eq, same_eq _ _ hx, Option.bind_some, beq_iff_eq, api_Entry.mk.injEq]
  by_cases h1 : k = k'
  · by_cases h2 : v = v'
    · by_cases h3 : a = a'
      · by_cases h4 : n = n'
        · simp [h1, h2, h3, h4]
        · simp [h1, h2, h3, h4]
      · simp [h1, h2, h3]
    · simp [h1, h2]
  · simp [h1]
theorem isame_eq6 (x y : api_Entry) : item_Same x y = some (decide (x = y)) := by
  obtain ⟨k, v, a, n, w⟩ := x
  obtain ⟨k', v', a', n', w'⟩ := y
  simp only [item_Same, lt_eq, beq_iff_eq, api_Entry.mk.injEq]
  by_cases h1 : k = k'
  · by_cases h2 : v = v'
    · by_cases h3 : a = a'
      · by_cases h4 : n = n'
        · by_cases h5 : w = w'
          · simp [h1, h2, h3, h4, h5]
          · simp [h1, h2, h3, h4, h5]
        · simp [h1, h2, h3, h4]
      · simp [h1, h2, h3]
    · simp [h1, h2]
  · simp [h1]
/-- What is light. -/
theorem light_l {l : List api_Entry} (hl : l.length ≤ 40) : ∀ (k i : Nat) (n : Nat), k + i = l.length → n ≤ 12000 → ∃ y, butterylaw06_Light_l0 l ((n : Int), (i : Int)) = some y ∧ (y = .inr 1 ∨ (y = .inl () ∧ ∀ j, i ≤ j → (h : j < l.length) → l[j].Key.length ≤ 200 ∧ l[j].Value.length ≤ 5000))
  | 0, i, n, hk, hn => by
    refine ⟨.inl (), loopO_out ?_, .inr ⟨rfl, fun j h1 h2 => by omega⟩⟩
    simp only [butterylaw06_Light_b0, lt_eq]
    rw [if_neg (by rw [decide_eq_false (by omega)]; simp)]
  | k + 1, i, n, hk, hn => by
    have hi : i < l.length := by omega
    by_cases h1 : l[i].Key.length > 200
    · refine ⟨.inr 1, loopO_out ?_, .inl rfl⟩
      simp only [butterylaw06_Light_b0, lt_eq, ix_nat hi, Option.bind_some]
      rw [if_pos (decide_eq_true (by omega)), if_pos (decide_eq_true (by omega))]
      rfl
    · by_cases h2 : l[i].Value.length > 5000
      · refine ⟨.inr 1, loopO_out ?_, .inl rfl⟩
        simp only [butterylaw06_Light_b0, lt_eq, ix_nat hi, Option.bind_some]
        rw [if_pos (decide_eq_true (by omega)), if_neg (by rw [decide_eq_false (by omega)]; simp), decide_eq_true (by omega)]
        rfl
      · have hw : w64 ((n : Int) + (l[i].Value.length : Int)) = ((n + l[i].Value.length : Nat) : Int) := by rw [w64_eq (by omega) (by omega)]; omega
        by_cases h3 : n + l[i].Value.length > 12000
        · refine ⟨.inr 1, loopO_out ?_, .inl rfl⟩
          simp only [butterylaw06_Light_b0, lt_eq, ix_nat hi, Option.bind_some]
          rw [if_pos (decide_eq_true (by omega)), if_neg (by rw [decide_eq_false (by omega)]; simp), decide_eq_false (by omega)]
          simp only [Option.bind_some, Bool.false_eq_true, if_false, hw]
          rw [if_pos (decide_eq_true (by omega))]
        · obtain ⟨y, i1, i2⟩ := light_l hl k (i + 1) (n + l[i].Value.length) (by omega) (by omega)
          have e : butterylaw06_Light_l0 l ((n : Int), (i : Int)) = butterylaw06_Light_l0 l (((n + l[i].Value.length : Nat) : Int), ((i + 1 : Nat) : Int)) := by
            refine loopO_in (body := fun s => butterylaw06_Light_b0 l s.1 s.2) ?_
            simp only [butterylaw06_Light_b0, lt_eq, ix_nat hi, Option.bind_some]
            rw [if_pos (decide_eq_true (by omega)), if_neg (by rw [decide_eq_false (by omega)]; simp), decide_eq_false (by omega)]
            simp only [Option.bind_some, Bool.false_eq_true, if_false, hw]
            rw [if_neg (by rw [decide_eq_false (by omega)]; simp), w64_nat (by omega)]
          refine ⟨y, by rw [e]; exact i1, ?_⟩
          rcases i2 with rfl | ⟨rfl, i3⟩
          · exact .inl rfl
          · refine .inr ⟨rfl, fun j h4 h5 => ?_⟩
            by_cases hj : j = i
            · subst hj; omega
            · exact i3 j (by omega) h5
theorem light_eq (l : List api_Entry) : butterylaw06_Light l = some 1 ∨ (butterylaw06_Light l = some 0 ∧ l.length ≤ 40 ∧ ∀ x ∈ l, x.Key.length ≤ 200 ∧ x.Value.length ≤ 5000) := by
  unfold butterylaw06_Light
  simp only [lt_eq]
  by_cases h : l.length > 40
  · left; rw [if_pos (decide_eq_true (by omega))]
  · rw [if_neg (by rw [decide_eq_false (by omega)]; simp)]
    obtain ⟨y, h1, h2⟩ := light_l (l := l) (by omega) l.length 0 0 (by omega) (by omega)
    have h1' : butterylaw06_Light_l0 l (0, 0) = some y := h1
    rw [h1']
    rcases h2 with rfl | ⟨rfl, h3⟩
    · exact .inl rfl
    · refine .inr ⟨rfl, by omega, fun x hx => ?_⟩
      obtain ⟨j, hj, rfl⟩ := List.mem_iff_getElem.1 hx
      exact h3 j (by omega) hj
end Go.Proofs.YthkfilchighbhaaDoor
namespace Go.Va
open Go
set_option linter.unusedVariables false
set_option linter.unusedSimpArgs false
/-- One bit of a csum. -/
def cstep (n : BitVec 32) : BitVec 32 := if n &&& 1#32 = 1#32 then n >>> 1 ^^^ 3988292384#32 else n >>> 1
def csteps : Nat → BitVec 32 → BitVec 32
  | 0, n => n
  | k + 1, n => cstep (csteps k n)
def ccol (c : BitVec 8) : BitVec 32 := csteps 8 (c.setWidth 32)
def cmore1 (n : BitVec 32) (c : BitVec 8) : BitVec 32 := n >>> 8 ^^^ ccol (n.setWidth 8 ^^^ c)
def cmore (s : BitVec 32) (b : List (BitVec 8)) : BitVec 32 := ~~~ (b.foldl cmore1 (~~~ s))
def csum (b : List (BitVec 8)) : BitVec 32 := cmore 0#32 b
def cfour (n : BitVec 32) : List (BitVec 8) := [n.setWidth 8, (n >>> 8).setWidth 8, (n >>> 16).setWidth 8, (n >>> 24).setWidth 8]
def cseal (b : List (BitVec 8)) : List (BitVec 8) := b ++ cfour (csum b)
def cfits (b : List (BitVec 8)) : Bool := decide (4 ≤ b.length) && decide (cfour (csum (b.take (b.length - 4))) = b.drop (b.length - 4))
/-- One bit, as the document has it. -/
def rbit (c : BitVec 8) (k : Nat) (n : BitVec 32) : BitVec 32 := if (c >>> k).setWidth 32 % 2#32 = n % 2#32 then n / 2#32 else n / 2#32 ^^^ 3988292384#32
def rbits (c : BitVec 8) (n : BitVec 32) : Nat → BitVec 32
  | 0 => n
  | k + 1 => rbit c k (rbits c n k)
def rbyte (n : BitVec 32) (c : BitVec 8) : BitVec 32 := rbits c n 8
def rsum (b : List (BitVec 8)) : BitVec 32 := 4294967295#32 - b.foldl rbyte 4294967295#32
def rdiv (n : BitVec 32) : Nat → BitVec 32
  | 0 => n
  | k + 1 => rdiv n k / 256#32
def rfour (n : BitVec 32) : Nat → List (BitVec 8)
  | 0 => []
  | k + 1 => rfour n k ++ [(rdiv n k % 256#32).setWidth 8]
theorem rfour_len (n : BitVec 32) : ∀ k, (rfour n k).length = k
  | 0 => rfl
  | k + 1 => by simp [rfour, rfour_len n k]
def rseal (b : List (BitVec 8)) : List (BitVec 8) := b ++ rfour (rsum b) 4
def rfits (b : List (BitVec 8)) : Bool := decide (4 ≤ b.length) && decide (rseal (b.take (b.length - 4)) = b)

theorem shr_shr (n : BitVec 32) (k : Nat) : n >>> k >>> 1 = n >>> (k + 1) := by rw [BitVec.shiftRight_add]
theorem crc_and_one (n : BitVec 32) : (n &&& 1#32 = 1#32) ↔ n.getLsbD 0 = true := by
  constructor
  · intro h
    have := congrArg (fun x => x.getLsbD 0) h
    simpa using this
  · intro h
    apply BitVec.eq_of_getLsbD_eq
    intro i hi
    by_cases h0 : i = 0
    · subst h0; simpa using h
    · rw [BitVec.getLsbD_and, BitVec.getLsbD_one]
      simp [h0]
theorem crc_step_eq (n : BitVec 32) : cstep n = n >>> 1 ^^^ (if n.getLsbD 0 = true then 3988292384#32 else 0#32) := by
  unfold cstep
  by_cases h : n.getLsbD 0 = true
  · rw [if_pos ((crc_and_one n).2 h), if_pos h]
  · rw [if_neg (fun hh => h ((crc_and_one n).1 hh)), if_neg h, BitVec.xor_zero]
theorem crc_step_xor (a b : BitVec 32) : cstep (a ^^^ b) = cstep a ^^^ cstep b := by
  rw [crc_step_eq, crc_step_eq, crc_step_eq, BitVec.getLsbD_xor, BitVec.ushiftRight_xor_distrib]
  generalize a >>> 1 = x
  generalize b >>> 1 = y
  cases a.getLsbD 0 <;> cases b.getLsbD 0
  · simp
  · simp [BitVec.xor_assoc]
  · simp only [Bool.xor_false, if_true, Bool.false_eq_true, if_false, BitVec.xor_zero]
    rw [BitVec.xor_assoc, BitVec.xor_comm y, BitVec.xor_assoc]
  · simp only [Bool.xor_self, if_true, Bool.false_eq_true, if_false, BitVec.xor_zero]
    rw [BitVec.xor_assoc, ← BitVec.xor_assoc (3988292384#32), BitVec.xor_comm (3988292384#32) y, BitVec.xor_assoc y, BitVec.xor_self, BitVec.xor_zero]
theorem crc_steps_xor (a b : BitVec 32) : ∀ k, csteps k (a ^^^ b) = csteps k a ^^^ csteps k b
  | 0 => rfl
  | k + 1 => by rw [csteps, crc_steps_xor a b k, crc_step_xor]; rfl
theorem crc_step_even (n : BitVec 32) (h : n.getLsbD 0 = false) : cstep n = n >>> 1 := by
  rw [crc_step_eq, h]; simp
theorem crc_steps_even (z : BitVec 32) : ∀ k, (∀ i, i < k → z.getLsbD i = false) → csteps k z = z >>> k
  | 0, _ => by simp [csteps]
  | k + 1, h => by
    rw [csteps, crc_steps_even z k (fun i hi => h i (by omega)), crc_step_even _ (by rw [BitVec.getLsbD_ushiftRight]; exact h _ (by omega)), shr_shr]
theorem crc_steps_byte (n : BitVec 32) (c : BitVec 8) : csteps 8 (n ^^^ c.setWidth 32) = cmore1 n c := by
  have h : n ^^^ c.setWidth 32 = (n >>> 8) <<< 8 ^^^ (n.setWidth 8 ^^^ c).setWidth 32 := by
    apply BitVec.eq_of_getLsbD_eq
    intro i hi
    simp only [BitVec.getLsbD_xor, BitVec.getLsbD_shiftLeft, BitVec.getLsbD_ushiftRight, BitVec.getLsbD_setWidth]
    by_cases h8 : i < 8
    · simp [h8, hi]
    · have e : 8 + (i - 8) = i := by omega
      simp [h8, hi, e, BitVec.getLsbD_of_ge c i (by omega)]
  rw [h, crc_steps_xor, crc_steps_even]
  · unfold cmore1 ccol
    congr 1
    apply BitVec.eq_of_getLsbD_eq
    intro i hi
    simp only [BitVec.getLsbD_shiftLeft, BitVec.getLsbD_ushiftRight]
    by_cases h32 : 8 + i < 32
    · simp [h32]
    · simp [h32, BitVec.getLsbD_of_ge n (8 + i) (by omega)]
  · intro i hi
    simp [BitVec.getLsbD_shiftLeft, hi]
theorem chalf (n : BitVec 32) : n / 2#32 = n >>> 1 := by
  apply BitVec.eq_of_toNat_eq
  rw [BitVec.toNat_udiv, BitVec.toNat_ushiftRight, Nat.shiftRight_eq_div_pow]
  rfl
theorem clow (n m : BitVec 32) : n % 2#32 = m % 2#32 ↔ n.getLsbD 0 = m.getLsbD 0 := by
  have e (x : BitVec 32) : x.getLsbD 0 = decide (x.toNat % 2 = 1) := by
    rw [BitVec.getLsbD, Nat.testBit_zero]
  rw [e, e]
  constructor
  · intro h
    have := congrArg BitVec.toNat h
    simp only [BitVec.toNat_umod, BitVec.toNat_ofNat] at this
    have h2 : n.toNat % 2 = m.toNat % 2 := this
    rw [h2]
  · intro h
    apply BitVec.eq_of_toNat_eq
    simp only [BitVec.toNat_umod, BitVec.toNat_ofNat]
    show n.toNat % 2 = m.toNat % 2
    rw [decide_eq_decide] at h
    omega
/-- One bit, as a cstep. -/
theorem rbit_eq (c : BitVec 8) (k : Nat) (n : BitVec 32) : rbit c k n = n >>> 1 ^^^ (if (c.getLsbD k != n.getLsbD 0) = true then 3988292384#32 else 0#32) := by
  unfold rbit
  have hb : ((c >>> k).setWidth 32).getLsbD 0 = c.getLsbD k := by
    simp
    intro h
    rcases Nat.lt_or_ge k 32 with h1 | h1
    · exact h1
    · rw [BitVec.getLsbD_of_ge c k (by omega)] at h; cases h
  by_cases h : c.getLsbD k = n.getLsbD 0
  · rw [if_pos ((clow _ _).2 (by rw [hb]; exact h)), chalf, h]
    simp
  · rw [if_neg (fun hh => h (by rw [← hb]; exact (clow _ _).1 hh)), chalf]
    have : (c.getLsbD k != n.getLsbD 0) = true := by simpa using h
    rw [this]; simp
theorem rbits_eq (c : BitVec 8) (n : BitVec 32) : ∀ k, csteps k (n ^^^ c.setWidth 32) = rbits c n k ^^^ (c.setWidth 32) >>> k
  | 0 => by simp [csteps, rbits]
  | k + 1 => by
    have hc : (c.setWidth 32 >>> k).getLsbD 0 = c.getLsbD k := by
      simp only [BitVec.getLsbD_ushiftRight, BitVec.getLsbD_setWidth, Nat.add_zero]
      by_cases h : k < 32
      · simp [h]
      · simp [h, BitVec.getLsbD_of_ge c k (by omega)]
    rw [csteps, rbits_eq c n k, rbits, crc_step_eq, rbit_eq, BitVec.getLsbD_xor, hc, BitVec.ushiftRight_xor_distrib, shr_shr]
    generalize rbits c n k >>> 1 = x
    generalize c.setWidth 32 >>> (k + 1) = y
    generalize rbits c n k = r
    have : (r.getLsbD 0 ^^ c.getLsbD k) = (c.getLsbD k != r.getLsbD 0) := by cases r.getLsbD 0 <;> cases c.getLsbD k <;> rfl
    rw [this, BitVec.xor_assoc, BitVec.xor_assoc]
    congr 1
    exact BitVec.xor_comm _ _
theorem rbyte_eq (n : BitVec 32) (c : BitVec 8) : rbyte n c = cmore1 n c := by
  rw [← crc_steps_byte, rbits_eq]
  have : (c.setWidth 32) >>> 8 = 0#32 := by
    apply BitVec.eq_of_getLsbD_eq
    intro i hi
    simp [BitVec.getLsbD_of_ge c (8 + i) (by omega)]
  rw [this, BitVec.xor_zero]
  rfl
theorem ones_sub (x : BitVec 32) : 4294967295#32 - x = ~~~ x := by
  apply BitVec.eq_of_toNat_eq
  have := x.isLt
  rw [BitVec.toNat_sub, BitVec.toNat_not]
  simp only [BitVec.toNat_ofNat]
  omega
theorem rsum_eq (b : List (BitVec 8)) : rsum b = csum b := by
  unfold rsum csum cmore
  rw [ones_sub]
  congr 1
  rw [show (~~~ (0#32)) = 4294967295#32 by decide]
  congr 1
  funext n c
  exact rbyte_eq n c
theorem crc_more_sum (a b : List (BitVec 8)) : cmore (csum a) b = csum (a ++ b) := by
  unfold csum cmore
  rw [BitVec.not_not, List.foldl_append]
theorem low8 (n : BitVec 32) : (n % 256#32).setWidth 8 = n.setWidth 8 := by
  apply BitVec.eq_of_toNat_eq
  simp only [BitVec.toNat_setWidth, BitVec.toNat_umod, BitVec.toNat_ofNat]
  show n.toNat % 256 % 256 = n.toNat % 256
  omega
theorem by8 (n : BitVec 32) : n / 256#32 = n >>> 8 := by
  apply BitVec.eq_of_toNat_eq
  rw [BitVec.toNat_udiv, BitVec.toNat_ushiftRight, Nat.shiftRight_eq_div_pow]
  rfl
theorem rfour_eq (n : BitVec 32) : rfour n 4 = cfour n := by
  simp only [rfour, rdiv, cfour, low8, by8, List.nil_append, List.cons_append, ← BitVec.shiftRight_add]
theorem crc_seal_eq (b : List (BitVec 8)) : cseal b = rseal b := by
  rw [cseal, rseal, rfour_eq, rsum_eq]
theorem crc_fits_eq (b : List (BitVec 8)) : cfits b = rfits b := by
  unfold cfits rfits
  by_cases h : 4 ≤ b.length
  · rw [decide_eq_true h, Bool.true_and, Bool.true_and, decide_eq_decide, ← crc_seal_eq, cseal]
    constructor
    · intro e
      rw [e, List.take_append_drop]
    · intro e
      have := congrArg (List.drop (b.length - 4)) e
      rw [List.drop_append_of_le_length (by simp), List.drop_of_length_le (by simp), List.nil_append] at this
      exact this
  · rw [decide_eq_false h]; rfl
theorem cdigit (n : BitVec 32) : n = (n.setWidth 8).setWidth 32 + (n >>> 8) * 256#32 := by
  apply BitVec.eq_of_toNat_eq
  have := n.isLt
  rw [BitVec.toNat_add, BitVec.toNat_mul, BitVec.toNat_setWidth, BitVec.toNat_setWidth, BitVec.toNat_ushiftRight, Nat.shiftRight_eq_div_pow]
  show n.toNat = (n.toNat % 256 % 4294967296 + n.toNat / 256 * 256 % 4294967296) % 4294967296
  omega
theorem ctop (n : BitVec 32) : n >>> 24 = ((n >>> 24).setWidth 8).setWidth 32 := by
  apply BitVec.eq_of_getLsbD_eq
  intro i hi
  simp only [BitVec.getLsbD_setWidth, BitVec.getLsbD_ushiftRight, hi, decide_true, Bool.true_and]
  by_cases h : i < 8
  · simp [h]
  · simp [h, BitVec.getLsbD_of_ge n (24 + i) (by omega)]
theorem crc_four_back (n : BitVec 32) : (n.setWidth 8).setWidth 32 + ((n >>> 8).setWidth 8).setWidth 32 * 256#32 + ((n >>> 16).setWidth 8).setWidth 32 * 65536#32 + ((n >>> 24).setWidth 8).setWidth 32 * 16777216#32 = n := by
  have h1 := cdigit n
  have h2 := cdigit (n >>> 8)
  have h3 := cdigit (n >>> 16)
  rw [← BitVec.shiftRight_add] at h2 h3
  rw [← ctop n]
  rw [show (65536#32 : BitVec 32) = 256#32 * 256#32 by decide, show (16777216#32 : BitVec 32) = 256#32 * 256#32 * 256#32 by decide]
  generalize (n.setWidth 8).setWidth 32 = a at *
  generalize ((n >>> 8).setWidth 8).setWidth 32 = b at *
  generalize ((n >>> 16).setWidth 8).setWidth 32 = c at *
  generalize n >>> 24 = d at *
  generalize n >>> 16 = e at *
  generalize n >>> 8 = f at *
  rw [h1, h2, h3]
  simp only [BitVec.add_mul, BitVec.mul_assoc, BitVec.add_assoc]
/-! three rows together -/
def xor3 (a b c : List (BitVec 8)) : List (BitVec 8) := (List.zip a (List.zip b c)).map fun p => p.1 ^^^ p.2.1 ^^^ p.2.2
theorem crc_column_xor (x y : BitVec 8) : ccol (x ^^^ y) = ccol x ^^^ ccol y := by
  unfold ccol
  rw [← crc_steps_xor]
  congr 1
theorem crc_more1_xor (n m : BitVec 32) (x y : BitVec 8) : cmore1 (n ^^^ m) (x ^^^ y) = cmore1 n x ^^^ cmore1 m y := by
  unfold cmore1
  have e : (n ^^^ m).setWidth 8 ^^^ (x ^^^ y) = (n.setWidth 8 ^^^ x) ^^^ (m.setWidth 8 ^^^ y) := by
    have : (n ^^^ m).setWidth 8 = n.setWidth 8 ^^^ m.setWidth 8 := by
      apply BitVec.eq_of_getLsbD_eq
      intro i hi
      simp [hi]
    rw [this]
    ac_rfl
  rw [e, crc_column_xor, BitVec.ushiftRight_xor_distrib]
  ac_rfl
theorem crc_fold_xor : ∀ (a b c : List (BitVec 8)) (n m k : BitVec 32), a.length = b.length → a.length = c.length → (xor3 a b c).foldl cmore1 (n ^^^ m ^^^ k) = a.foldl cmore1 n ^^^ b.foldl cmore1 m ^^^ c.foldl cmore1 k
  | [], [], [], n, m, k, _, _ => rfl
  | x :: a, y :: b, z :: c, n, m, k, h1, h2 => by
    have ih := crc_fold_xor a b c (cmore1 n x) (cmore1 m y) (cmore1 k z) (by simpa using h1) (by simpa using h2)
    show (xor3 a b c).foldl cmore1 (cmore1 (n ^^^ m ^^^ k) (x ^^^ y ^^^ z)) = _
    rw [crc_more1_xor, crc_more1_xor, ih]
    rfl
  | [], _ :: _, _, _, _, _, h1, _ => by simp at h1
  | [], [], _ :: _, _, _, _, _, h2 => by simp at h2
  | _ :: _, [], _, _, _, _, h1, _ => by simp at h1
  | _ :: _, _ :: _, [], _, _, _, _, h2 => by simp at h2
theorem crc_sum_xor3 (a b c : List (BitVec 8)) (h1 : a.length = b.length) (h2 : a.length = c.length) : csum a ^^^ csum b ^^^ csum c = csum (xor3 a b c) := by
  unfold csum cmore
  have := crc_fold_xor a b c (~~~ 0#32) (~~~ 0#32) (~~~ 0#32) h1 h2
  rw [show ((~~~ 0#32) ^^^ (~~~ 0#32) ^^^ (~~~ 0#32)) = (~~~ 0#32) by decide] at this
  rw [this]
  generalize List.foldl cmore1 (~~~ 0#32) a = x
  generalize List.foldl cmore1 (~~~ 0#32) b = y
  generalize List.foldl cmore1 (~~~ 0#32) c = z
  apply BitVec.eq_of_getLsbD_eq
  intro i hi
  simp [hi]

/-! ### bit by bit; bits side by side that are turned -/
def bstep (n : BitVec 32) (b : Bool) : BitVec 32 := cstep (n ^^^ (if b = true then 1#32 else 0#32))
theorem shift_split (z : BitVec 32) (k : Nat) : z >>> k = (if z.getLsbD k = true then 1#32 else 0#32) ^^^ (z >>> (k + 1)) <<< 1 := by
  apply BitVec.eq_of_getLsbD_eq
  intro i hi
  simp only [BitVec.getLsbD_xor, BitVec.getLsbD_ushiftRight, BitVec.getLsbD_shiftLeft]
  by_cases h0 : i = 0
  · subst h0
    cases z.getLsbD k <;> simp
  · have e : k + 1 + (i - 1) = k + i := by omega
    have h1 : ¬ i < 1 := by omega
    rw [e]
    have : ((if z.getLsbD k = true then 1#32 else 0#32) : BitVec 32).getLsbD i = false := by
      split <;> simp [BitVec.getLsbD_one, h0]
    rw [this]
    simp [h1, hi]
theorem csteps_bits (n z : BitVec 32) : ∀ k, csteps k (n ^^^ z) = ((List.range k).map z.getLsbD).foldl bstep n ^^^ z >>> k
  | 0 => by simp [csteps]
  | k + 1 => by
    rw [csteps, csteps_bits n z k, List.range_succ, List.map_append, List.foldl_append]
    simp only [List.map_cons, List.map_nil, List.foldl_cons, List.foldl_nil]
    generalize ((List.range k).map z.getLsbD).foldl bstep n = f
    rw [shift_split z k, ← BitVec.xor_assoc, crc_step_xor]
    unfold bstep
    congr 1
    rw [crc_step_even _ (by simp [BitVec.getLsbD_shiftLeft])]
    apply BitVec.eq_of_getLsbD_eq
    intro i hi
    simp only [BitVec.getLsbD_ushiftRight, BitVec.getLsbD_shiftLeft]
    by_cases h : 1 + i < 32
    · have e : 1 + i - 1 = i := by omega
      have h1 : ¬ (1 + i < 1) := by omega
      simp [h, e, h1]
    · have : i = 31 := by omega
      subst this
      simp [BitVec.getLsbD_of_ge z (k + 1 + 31) (by omega)]
def bits8 (c : BitVec 8) : List Bool := (List.range 8).map c.getLsbD
def bits32 (w : BitVec 32) : List Bool := (List.range 32).map w.getLsbD
theorem more1_bits (n : BitVec 32) (c : BitVec 8) : cmore1 n c = (bits8 c).foldl bstep n := by
  rw [← crc_steps_byte, csteps_bits]
  have : (c.setWidth 32) >>> 8 = 0#32 := by
    apply BitVec.eq_of_getLsbD_eq
    intro i hi
    simp [BitVec.getLsbD_of_ge c (8 + i) (by omega)]
  rw [this, BitVec.xor_zero]
  have e : (List.range 8).map (c.setWidth 32 : BitVec 32).getLsbD = bits8 c := by
    unfold bits8
    apply List.map_congr_left
    intro i hi
    have : i < 8 := by simpa using hi
    simp [show i < 32 by omega]
  rw [e]
theorem word_bits (n w : BitVec 32) : csteps 32 (n ^^^ w) = (bits32 w).foldl bstep n := by
  rw [csteps_bits]
  have : w >>> 32 = 0#32 := by
    apply BitVec.eq_of_getLsbD_eq
    intro i hi
    simp [BitVec.getLsbD_of_ge w (32 + i) (by omega)]
  rw [this, BitVec.xor_zero]; rfl
theorem fold_bits : ∀ (b : List (BitVec 8)) (n : BitVec 32), b.foldl cmore1 n = (b.flatMap bits8).foldl bstep n
  | [], n => rfl
  | c :: b, n => by
    rw [List.foldl_cons, fold_bits b, List.flatMap_cons, List.foldl_append, more1_bits]
theorem four_bits (n : BitVec 32) : (cfour n).flatMap bits8 = bits32 n := by
  unfold cfour bits32 bits8
  simp only [List.flatMap_cons, List.flatMap_nil, List.append_nil]
  rw [show List.range 32 = List.range 8 ++ ((List.range 8).map (8 + ·) ++ ((List.range 8).map (16 + ·) ++ (List.range 8).map (24 + ·))) from by decide]
  simp only [List.map_append, List.map_map]
  have key : ∀ k : Nat, ((List.range 8).map ((n >>> k).setWidth 8 : BitVec 8).getLsbD) = (List.range 8).map (n.getLsbD ∘ (k + ·)) := by
    intro k
    apply List.map_congr_left
    intro i hi
    have : i < 8 := by simpa using hi
    simp [this]
  have k0 : ((List.range 8).map (n.setWidth 8 : BitVec 8).getLsbD) = (List.range 8).map n.getLsbD := by
    apply List.map_congr_left
    intro i hi
    have : i < 8 := by simpa using hi
    simp [this]
  rw [k0, key 8, key 16, key 24]
theorem bstep_xor (n m : BitVec 32) (a b : Bool) : bstep (n ^^^ m) (a ^^ b) = bstep n a ^^^ bstep m b := by
  unfold bstep
  rw [← crc_step_xor]
  congr 1
  cases a <;> cases b <;> simp only [Bool.xor_false, Bool.false_xor, Bool.xor_self, Bool.xor_true, Bool.not_false, if_true, Bool.false_eq_true, if_false, BitVec.xor_zero]
  all_goals first
    | ac_rfl
    | rw [BitVec.xor_assoc n 1#32, ← BitVec.xor_assoc 1#32 m, BitVec.xor_comm 1#32 m, BitVec.xor_assoc m, BitVec.xor_self, BitVec.xor_zero]
theorem bfold_xor : ∀ (a b : List Bool) (n m : BitVec 32), a.length = b.length → (List.zipWith (· ^^ ·) a b).foldl bstep (n ^^^ m) = a.foldl bstep n ^^^ b.foldl bstep m
  | [], [], _, _, _ => rfl
  | x :: a, y :: b, n, m, h => by
    simp only [List.zipWith_cons_cons, List.foldl_cons, bstep_xor]
    exact bfold_xor a b _ _ (by simpa using h)
  | [], _ :: _, _, _, h => by simp at h
  | _ :: _, [], _, _, h => by simp at h
theorem cstep_inj {n : BitVec 32} (h : cstep n = 0#32) : n = 0#32 := by
  rw [crc_step_eq] at h
  by_cases h0 : n.getLsbD 0 = true
  · rw [if_pos h0] at h
    have := congrArg (fun x => x.getLsbD 31) h
    simp [BitVec.getLsbD_of_ge n 32 (by omega)] at this
  · rw [if_neg h0, BitVec.xor_zero] at h
    apply BitVec.eq_of_getLsbD_eq
    intro i hi
    rcases Nat.eq_zero_or_pos i with hz | hz
    · subst hz; simpa using h0
    · have := congrArg (fun x => x.getLsbD (i - 1)) h
      simp only [BitVec.getLsbD_ushiftRight] at this
      rw [show 1 + (i - 1) = i by omega] at this
      simpa using this
theorem csteps_inj : ∀ {k : Nat} {n : BitVec 32}, csteps k n = 0#32 → n = 0#32
  | 0, n, h => h
  | k + 1, n, h => csteps_inj (k := k) (cstep_inj h)
theorem bfold_zeros (n : BitVec 32) : ∀ k, (List.replicate k false).foldl bstep n = csteps k n := by
  have key : ∀ k (n : BitVec 32), csteps k (cstep n) = cstep (csteps k n) := by
    intro k
    induction k with
    | zero => intro n; rfl
    | succ k ih => intro n; rw [csteps, ih, csteps]
  intro k
  induction k generalizing n with
  | zero => rfl
  | succ k ih =>
    rw [List.replicate_succ, List.foldl_cons, ih, csteps, ← key]
    simp [bstep]
theorem csteps_zero : ∀ k, csteps k 0#32 = 0#32
  | 0 => rfl
  | k + 1 => by rw [csteps, csteps_zero k]; rfl
/-- Bits side by side that are turned are seen. -/
theorem burst {k m : Nat} {w : BitVec 32} (h : (List.replicate k false ++ (bits32 w ++ List.replicate m false)).foldl bstep 0#32 = 0#32) : w = 0#32 := by
  rw [List.foldl_append, List.foldl_append, bfold_zeros 0#32 k, csteps_zero, ← word_bits, bfold_zeros, BitVec.zero_xor] at h
  exact csteps_inj (csteps_inj h)
/-- What bytes with their sum behind come to. -/
theorem sealed_fold (b : List (BitVec 8)) : (b ++ cfour (csum b)).foldl cmore1 (~~~ 0#32) = csteps 32 (~~~ 0#32) := by
  rw [List.foldl_append, fold_bits (cfour _), four_bits, ← word_bits]
  congr 1
  unfold csum cmore
  generalize b.foldl cmore1 (~~~ 0#32) = x
  apply BitVec.eq_of_getLsbD_eq
  intro i hi
  simp only [BitVec.getLsbD_xor, BitVec.getLsbD_not, hi, decide_true, Bool.true_and, BitVec.getLsbD_zero]
  cases x.getLsbD i <;> rfl
theorem fits_fold {s : List (BitVec 8)} (h : cfits s = true) : s.foldl cmore1 (~~~ 0#32) = csteps 32 (~~~ 0#32) := by
  unfold cfits at h
  simp only [Bool.and_eq_true, decide_eq_true_eq] at h
  have : s = s.take (s.length - 4) ++ cfour (csum (s.take (s.length - 4))) := by rw [h.2, List.take_append_drop]
  rw [this]
  exact sealed_fold _
def bitAt (s : List (BitVec 8)) (p : Nat) : Bool := (s.getD (p / 8) 0#8).getLsbD (p % 8)
theorem bits_at : ∀ (s : List (BitVec 8)), s.flatMap bits8 = (List.range (8 * s.length)).map (bitAt s)
  | [] => rfl
  | c :: s => by
    rw [List.flatMap_cons, bits_at s, List.length_cons, show 8 * (s.length + 1) = 8 + 8 * s.length by omega, List.range_add, List.map_append, List.map_map]
    have e1 : bits8 c = (List.range 8).map (bitAt (c :: s)) := by
      unfold bits8
      apply List.map_congr_left
      intro i hi
      have : i < 8 := by simpa using hi
      simp [bitAt, Nat.div_eq_of_lt this, Nat.mod_eq_of_lt this]
    have e2 : (List.range (8 * s.length)).map (bitAt s) = (List.range (8 * s.length)).map (bitAt (c :: s) ∘ fun x => 8 + x) := by
      apply List.map_congr_left
      intro i hi
      simp only [bitAt, Function.comp]
      rw [show (8 + i) / 8 = i / 8 + 1 by omega, show (8 + i) % 8 = i % 8 by omega]
      rfl
    rw [e1, e2]
def turned (k : Nat) (w : BitVec 32) (p : Nat) : Bool := decide (k ≤ p ∧ p < k + 32) && w.getLsbD (p - k)
theorem turned_list {k n : Nat} (w : BitVec 32) (h : k + 32 ≤ n) : (List.range n).map (turned k w) = List.replicate k false ++ (bits32 w ++ List.replicate (n - k - 32) false) := by
  apply List.ext_getElem?
  intro i
  simp only [List.getElem?_map, List.getElem?_append, List.getElem?_replicate, List.length_replicate, bits32, List.length_map, List.length_range]
  by_cases h1 : i < k
  · rw [if_pos h1, List.getElem?_range (by omega)]
    simp [turned, h1, show ¬ k ≤ i by omega]
  · rw [if_neg h1]
    by_cases h2 : i - k < 32
    · rw [if_pos h2, List.getElem?_range (by omega), List.getElem?_range h2]
      simp [turned, show k ≤ i by omega, show i < k + 32 by omega]
    · rw [if_neg h2]
      by_cases h3 : i < n
      · rw [List.getElem?_range h3, if_pos (by omega)]
        simp [turned, show ¬ i < k + 32 by omega]
      · rw [if_neg (by omega), List.getElem?_eq_none (by simp; omega)]; rfl
/-- Spoilt bytes are told. -/
theorem tells {s t : List (BitVec 8)} {k : Nat} {w : BitVec 32} (hw : w ≠ 0#32) (hl : t.length = s.length) (hk : k + 32 ≤ 8 * s.length) (hs : cfits s = true) (ht : ∀ p, p < 8 * s.length → bitAt t p = (bitAt s p ^^ turned k w p)) : cfits t = false := by
  cases hf : cfits t with
  | false => rfl
  | true =>
    exfalso
    apply hw
    have e1 := fits_fold hs
    have e2 := fits_fold hf
    rw [fold_bits, bits_at] at e1 e2
    rw [hl] at e2
    have e3 : (List.range (8 * s.length)).map (bitAt t) = List.zipWith (· ^^ ·) ((List.range (8 * s.length)).map (bitAt s)) ((List.range (8 * s.length)).map (turned k w)) := by
      rw [List.zipWith_map, List.zipWith_self]
      exact List.map_congr_left (fun p hp => ht p (by simpa using hp))
    have e4 := bfold_xor ((List.range (8 * s.length)).map (bitAt s)) ((List.range (8 * s.length)).map (turned k w)) (~~~ 0#32) 0#32 (by simp)
    rw [← e3, BitVec.xor_zero, e1, e2] at e4
    have e5 : ((List.range (8 * s.length)).map (turned k w)).foldl bstep 0#32 = 0#32 := by
      generalize ((List.range (8 * s.length)).map (turned k w)).foldl bstep 0#32 = x at e4
      generalize csteps 32 (~~~ 0#32) = r at e4
      have := congrArg (r ^^^ ·) e4
      simp only [BitVec.xor_self, ← BitVec.xor_assoc, BitVec.zero_xor] at this
      exact this.symm
    rw [turned_list w hk] at e5
    exact burst e5
end Go.Va
namespace Go.Proofs.YthkfilchighbhaaDoor
open Go Go.Va
set_option linter.unusedVariables false
set_option linter.unusedSimpArgs false
theorem column_eq (c : BitVec 8) : checksum_column c = some (ccol c) := by
  have k := loopO_up (body := fun s => checksum_column_b0 s.1 s.2) (fun i : Nat => (csteps i (c.setWidth 32), (i : Int))) 8 (x := ccol c) (fun i hi => by
    simp only [checksum_column_b0, lt_eq]
    rw [if_pos (decide_eq_true (by omega)), w64_nat (by omega)]
    rw [show csteps (i + 1) (c.setWidth 32) = cstep (csteps i (c.setWidth 32)) from rfl]
    unfold cstep
    by_cases h : csteps i (c.setWidth 32) &&& 1#32 = 1#32
    · rw [if_pos (by simpa using h), if_pos h]
    · rw [if_neg (by simpa using h), if_neg h]) (by
    simp only [checksum_column_b0, lt_eq]
    rw [if_neg (by simp)]
    rfl)
  have k' : checksum_column_l0 (c.setWidth 32, 0) = some (ccol c) := k
  unfold checksum_column
  simp only [lt_eq, k', Option.bind_some]
theorem more_eq (n : BitVec 32) {b : List (BitVec 8)} (hb : b.length ≤ 1000000000) : checksum_More n b = some (cmore n b) := by
  have k := loopO_up (body := fun s => checksum_More_b0 b (b.length : Int) s.1 s.2) (fun i : Nat => ((b.take i).foldl cmore1 (~~~ n), (i : Int))) b.length (x := b.foldl cmore1 (~~~ n)) (fun i hi => by
    simp only [checksum_More_b0, lt_eq]
    rw [if_pos (decide_eq_true (by omega)), ix_nat hi]
    simp only [Option.bind_some, column_eq]
    rw [w64_nat (by omega), List.take_add_one, List.getElem?_eq_getElem hi, List.foldl_append]
    rfl) (by
    simp only [checksum_More_b0, lt_eq, List.take_length]
    rw [if_neg (by rw [decide_eq_false (by omega)]; simp)])
  have k' : checksum_More_l0 b (b.length : Int) (~~~ n, 0) = some (b.foldl cmore1 (~~~ n)) := k
  unfold checksum_More
  simp only [lt_eq, k', Option.bind_some]
  rfl
theorem sum_eq {b : List (BitVec 8)} (hb : b.length ≤ 1000000000) : checksum_Sum b = some (csum b) := by
  unfold checksum_Sum
  simp only [more_eq _ hb, Option.bind_some]
  rfl
theorem four_eq (n : BitVec 32) : checksum_Four n = some (cfour n) := by
  unfold checksum_Four
  simp only [lt_eq]
  rw [stW_eq (by simp) (by simp)]
  rfl
theorem cfour_len (n : BitVec 32) : (cfour n).length = 4 := rfl
theorem cseal_len (b : List (BitVec 8)) : (cseal b).length = b.length + 4 := by simp [cseal, cfour_len]
theorem seal_eq {b : List (BitVec 8)} (hb : b.length ≤ 1000000000) : checksum_Seal b = some (cseal b) := by
  unfold checksum_Seal
  simp only [sum_eq hb, four_eq, Option.bind_some]
  rw [stW_eq (by simp) (cfour_len _)]
  simp only [Option.bind_some]
  rw [app_eq (by simp; omega), whole_eq (cfour_len _)]
  simp only [Option.bind_some, List.nil_append]
  rw [app_eq (by simp [cfour_len]; omega)]
  rfl
theorem fits_eq {b : List (BitVec 8)} (hb : b.length ≤ 1000000000) : checksum_Fits b = some (cfits b) := by
  unfold checksum_Fits cfits
  simp only [lt_eq]
  rw [w64_eq (by omega) (by omega)]
  by_cases h : 4 ≤ b.length
  · rw [if_neg (by rw [decide_eq_false (by omega)]; simp), show (b.length : Int) - 4 = ((b.length - 4 : Nat) : Int) by omega, cutTo_eq (by omega), cutFrom_eq (by omega)]
    simp only [Option.bind_some]
    rw [sum_eq (by rw [List.length_take]; omega)]
    simp only [Option.bind_some, four_eq]
    rw [show (4 : Int) = ((4 : Nat) : Int) from rfl, cutTo_eq (by rw [List.length_drop]; omega)]
    have hl : ((b.drop (b.length - 4)).take 4).length = 4 := by rw [List.length_take, List.length_drop]; omega
    simp only [Option.bind_some]
    rw [whole_eq hl]
    simp only [Option.bind_some]
    rw [eqA_eq (cfour_len _) hl]
    have ht : (b.drop (b.length - 4)).take 4 = b.drop (b.length - 4) := List.take_of_length_le (by rw [List.length_drop]; omega)
    rw [ht]
    simp only [Option.bind_some, decide_eq_true h, Bool.true_and]
    congr 1
    exact Bool.eq_iff_iff.2 (by simp)
  · rw [if_pos (decide_eq_true (by omega)), decide_eq_false h]
    rfl
theorem cseal_fits (b : List (BitVec 8)) : cfits (cseal b) = true := by
  unfold cfits
  rw [cseal_len, decide_eq_true (by omega), show b.length + 4 - 4 = b.length by omega]
  unfold cseal
  rw [List.take_left, List.drop_left]
  simp
end Go.Proofs.YthkfilchighbhaaDoor
namespace Go.Proofs.YthkfilchighbhaaDoor
open Go Go.Va
set_option linter.unusedVariables false
set_option linter.unusedSimpArgs false
set_option maxRecDepth 20000
noncomputable def butteryref03_Fits_b0 (x0 : List (BitVec 8)) (v11 : List (BitVec 8)) (c12 : Int) : Option ((Int) ⊕ (Unit ⊕ (Bool))) :=
  lt (((x0).length : Int)) fun v23 =>
  lt (decide (c12 < v23)) fun v25 =>
  if v25 = true then
    (ix v11 c12).bind fun v28 =>
    (ix x0 c12).bind fun v30 =>
    lt (v28 != v30) fun v32 =>
    if v32 = true then
      some (.inr (.inr false))
    else
      lt (w64 (c12 + (1 : Int))) fun v36 =>
      some (.inl v36)
  else
    some (.inr (.inl ()))
noncomputable def butteryref03_Fits_l0 (x0 : List (BitVec 8)) (v11 : List (BitVec 8)) (s : Int) : Option (Unit ⊕ (Bool)) := loopO (fun s => butteryref03_Fits_b0 x0 v11 s) s
noncomputable def butteryref03_Fits (x0 : List (BitVec 8)) : Option (Bool) :=
  lt (((x0).length : Int)) fun v2 =>
  lt (w64 (v2 - (4 : Int))) fun v4 =>
  lt (decide (v4 < (0 : Int))) fun v6 =>
  if v6 = true then
    some false
  else
    (cutTo x0 v4).bind fun v9 =>
    (butteryref03_Seal v9).bind fun v11 =>
    (butteryref03_Fits_l0 x0 v11 (0 : Int)).bind fun o13 =>
      Sum.elim (fun s20 : Unit =>
        some true
        ) (fun y => some y) o13
end Go.Proofs.YthkfilchighbhaaDoor
namespace Go.Proofs.YthkfilchighbhaaDoor
open Go Go.Va
set_option linter.unusedVariables false
set_option linter.unusedSimpArgs false
theorem rcSum_eq {b : List (BitVec 8)} (hb : b.length ≤ 1000000000) : butteryref03_Sum b = some (csum b) := by
  have inner : ∀ (n : BitVec 32) (i : Nat) (hi : i < b.length), butteryref03_Sum_l1 b (i : Int) (n, 0) = some (rbyte n b[i]) := fun n i hi => by
    have k := loopO_up (body := fun s => butteryref03_Sum_b1 b (i : Int) s.1 s.2) (fun j : Nat => (rbits b[i] n j, (j : Int))) 8 (x := rbyte n b[i]) (fun j hj => by
      simp only [butteryref03_Sum_b1, lt_eq, ix_nat hi, sc_nat, Option.map_some, Option.bind_some]
      rw [if_pos (decide_eq_true (by omega)), w64_nat (by omega)]
      rw [show rbits b[i] n (j + 1) = rbit b[i] j (rbits b[i] n j) from rfl]
      unfold rbit
      by_cases h : (b[i] >>> j).setWidth 32 % 2#32 = rbits b[i] n j % 2#32
      · rw [if_neg (by rw [h]; simp), if_pos h]
      · rw [if_pos (bne_iff_ne.2 h), if_neg h]) (by
      simp only [butteryref03_Sum_b1, lt_eq]
      rw [if_neg (by simp)]
      rfl)
    exact k
  have k := loopO_foldl b rbyte id (body := fun s => butteryref03_Sum_b0 b s.1 s.2) (fun s i hi => by
    simp only [butteryref03_Sum_b0, lt_eq]
    rw [if_pos (decide_eq_true (by omega)), inner _ _ hi]
    simp only [Option.bind_some]
    rw [w64_nat (by omega)]) (fun s => by
    simp only [butteryref03_Sum_b0, lt_eq]
    rw [if_neg (by simp)]
    rfl) 4294967295#32
  have k' : butteryref03_Sum_l0 b (4294967295#32, 0) = some (b.foldl rbyte 4294967295#32) := k
  unfold butteryref03_Sum
  simp only [lt_eq, k', Option.bind_some]
  rw [← rsum_eq]
  rfl
theorem rcSeal_eq {b : List (BitVec 8)} (hb : b.length ≤ 1000000000) : butteryref03_Seal b = some (cseal b) := by
  have k := loopO_up (body := fun s => butteryref03_Seal_b0 s.1 s.2.1 s.2.2) (fun i : Nat => (b ++ rfour (csum b) i, rdiv (csum b) i, (i : Int))) 4 (x := b ++ rfour (csum b) 4) (fun i hi => by
    simp only [butteryref03_Seal_b0, lt_eq]
    have hl := rfour_len (csum b) i
    rw [if_pos (decide_eq_true (by omega)), app_eq (by simp [hl]; omega)]
    simp only [Option.bind_some]
    rw [w64_nat (by omega), List.append_assoc]
    rfl) (by
    simp only [butteryref03_Seal_b0, lt_eq]
    rw [if_neg (by simp)])
  have k' : butteryref03_Seal_l0 (b, csum b, 0) = some (b ++ rfour (csum b) 4) := by
    have := k
    simp only [rfour, rdiv, List.append_nil] at this ⊢
    exact this
  unfold butteryref03_Seal
  rw [app_eq (by simp; omega)]
  simp only [Option.bind_some, rcSum_eq hb, List.nil_append, k']
  rw [rfour_eq]
  rfl
theorem rcFits_l {x y : List (BitVec 8)} (hx : x.length < 9223372036854775807) (hl : x.length = y.length) : (butteryref03_Fits_l0 x y 0).bind (fun o => Sum.elim (fun _ : Unit => some true) (fun y => some y) o) = some (decide (x = y)) := by
  have h := loopO_find (body := fun s => butteryref03_Fits_b0 x y s) (fun i : Nat => (i : Int)) x.length (fun i => if x[i]? ≠ y[i]? then some (Sum.inr false) else none) (x := .inl ()) (fun i hi => by
    simp only [butteryref03_Fits_b0, lt_eq, ix_nat hi, ix_nat (show i < y.length by omega), Option.bind_some]
    rw [if_pos (by simpa using hi)]
    by_cases he : x[i] = y[i]
    · rw [if_neg (by simp [he]), if_neg (by simp [hi, show i < y.length by omega, he]), w64_nat (by omega)]; rfl
    · rw [if_pos (by simpa using Ne.symm he), if_pos (by simp [hi, show i < y.length by omega, he])]; rfl) (by simp [butteryref03_Fits_b0, lt_eq])
  rw [show ((0 : Nat) : Int) = 0 from rfl] at h
  simp only [butteryref03_Fits_l0, h, Option.bind_some]
  by_cases he : x = y
  · rw [List.findSome?_eq_none_iff.2 (fun i _ => by rw [if_neg (by simp [he])])]
    simp [he]
  · cases hf : (List.range x.length).findSome? (fun i => if x[i]? ≠ y[i]? then some (Sum.inr (α := Unit) false) else none) with
    | none =>
      refine absurd (List.ext_getElem? fun i => ?_) he
      have h1 := List.findSome?_eq_none_iff.1 hf
      rcases Nat.lt_or_ge i x.length with hi | hi
      · have := h1 i (by simpa using hi)
        by_cases hc : x[i]? = y[i]?
        · exact hc
        · rw [if_pos hc] at this; cases this
      · rw [List.getElem?_eq_none hi, List.getElem?_eq_none (by omega)]
    | some v =>
      obtain ⟨i, _, hi⟩ := List.exists_of_findSome?_eq_some hf
      split at hi
      · cases hi; simp [he]
      · cases hi
theorem rcFits_eq {b : List (BitVec 8)} (hb : b.length ≤ 1000000000) : butteryref03_Fits b = some (cfits b) := by
  rw [crc_fits_eq]
  unfold butteryref03_Fits rfits
  simp only [lt_eq]
  rw [w64_eq (by omega) (by omega)]
  by_cases h : 4 ≤ b.length
  · rw [if_neg (by rw [decide_eq_false (by omega)]; simp), show (b.length : Int) - 4 = ((b.length - 4 : Nat) : Int) by omega, cutTo_eq (by omega)]
    simp only [Option.bind_some]
    rw [rcSeal_eq (by rw [List.length_take]; omega)]
    simp only [Option.bind_some]
    have hl : b.length = (cseal (b.take (b.length - 4))).length := by
      simp only [cseal, List.length_append, List.length_take, cfour, List.length_cons, List.length_nil]; omega
    rw [rcFits_l (by omega) hl, ← crc_seal_eq, decide_eq_true h, Bool.true_and]
    congr 1
    exact decide_eq_decide.2 ⟨fun h => h.symm, fun h => h.symm⟩
  · rw [if_pos (decide_eq_true (by omega)), decide_eq_false h]
    rfl
end Go.Proofs.YthkfilchighbhaaDoor
namespace Go.Proofs.YthkfilchighbhaaDoor
open Go Go.Va
set_option linter.unusedVariables false
set_option linter.unusedSimpArgs false
set_option maxRecDepth 20000
noncomputable def butteryref23_Put (x0 : api_Msg) : Option ((List (BitVec 8)) × Int) :=
  (butteryref23_Check x0).bind fun v2 =>
  lt (v2 != (0 : Int)) fun v4 =>
  if v4 = true then
    some ([], v2)
  else
    lt (([x0.Kind, x0.From, x0.To, x0.Epoch] : List Int)) fun v7 =>
    (butteryref02_Put [] v7).bind fun v9 =>
    (butteryref23_lease x0.Kind).bind fun v11 =>
    (
      if v11 = true then
        lt (([x0.Id] : List Int)) fun v18 =>
        (butteryref02_Put v9 v18).bind fun v20 =>
        some v20
      else
        some v9
     : Option ((List (BitVec 8)))).bind fun s12 =>
      (butteryref23_key x0.Kind).bind fun v23 =>
      (
        if v23 = true then
          (toBytes x0.X.Key).bind fun v30 =>
          (butteryref02_Bytes s12 v30).bind fun v32 =>
          some v32
        else
          some s12
       : Option ((List (BitVec 8)))).bind fun s24 =>
        (butteryref23_asof x0.Kind).bind fun v35 =>
        (
          if v35 = true then
            lt (([x0.X.AsOf] : List Int)) fun v42 =>
            (butteryref02_Put s24 v42).bind fun v44 =>
            some v44
          else
            some s24
         : Option ((List (BitVec 8)))).bind fun s36 =>
          (
            (butteryref23_found x0.Kind).bind fun v51 =>
            if v51 = true then
              some x0.Found
            else
              some false
           : Option (Bool)).bind fun s46 =>
            (
              if s46 = true then
                (butteryref02_Put s36 ([(1 : Int)] : List Int)).bind fun v60 =>
                some v60
              else
                some s36
             : Option ((List (BitVec 8)))).bind fun s54 =>
              (
                (butteryref23_found x0.Kind).bind fun v67 =>
                if v67 = true then
                  lt (!x0.Found) fun v70 =>
                  some v70
                else
                  some false
               : Option (Bool)).bind fun s62 =>
                (
                  if s62 = true then
                    (butteryref02_Put s54 ([(0 : Int)] : List Int)).bind fun v78 =>
                    some v78
                  else
                    some s54
                 : Option ((List (BitVec 8)))).bind fun s72 =>
                  (
                    lt (x0.Kind == (6 : Int)) fun v85 =>
                    if v85 = true then
                      some x0.Found
                    else
                      some false
                   : Option (Bool)).bind fun s80 =>
                    if s80 = true then
                      lt (([x0.X.Version, x0.X.Ends] : List Int)) fun v90 =>
                      (butteryref02_Put s72 v90).bind fun v92 =>
                      (butteryref02_Bytes v92 x0.X.Value).bind fun v94 =>
                      (butteryref03_Seal v94).bind fun v96 =>
                      some (v96, (0 : Int))
                    else
                      (butteryref03_Seal s72).bind fun v98 =>
                      some (v98, (0 : Int))
end Go.Proofs.YthkfilchighbhaaDoor
namespace Go.Proofs.YthkfilchighbhaaDoor
open Go Go.Va
set_option linter.unusedVariables false
set_option linter.unusedSimpArgs false
/-- Which parts a kind has. -/
def ptsA (k : Int) : List (BitVec 8) := if k = 2 then [65#8, 70#8] else if k = 3 ∨ k = 4 then [75#8, 65#8] else if k = 5 then [73#8, 75#8] else if k = 6 then [73#8, 75#8, 65#8, 70#8, 86#8] else []
theorem parts_eq (k : Int) : wire_parts k = some (ptsA k) := by
  unfold wire_parts ptsA
  simp only [lt_eq]
  by_cases h2 : k = 2
  · subst h2; rfl
  by_cases h3 : k = 3
  · subst h3; rfl
  by_cases h4 : k = 4
  · subst h4; rfl
  by_cases h5 : k = 5
  · subst h5; rfl
  by_cases h6 : k = 6
  · subst h6; rfl
  simp [h2, h3, h4, h5, h6]
theorem down_eq (k : Int) : wire_down k = some (decide (k = 2 ∨ k = 3 ∨ k = 6)) := by
  unfold wire_down
  simp only [lt_eq]
  by_cases h2 : k = 2
  · subst h2; rfl
  by_cases h3 : k = 3
  · subst h3; rfl
  by_cases h6 : k = 6
  · subst h6; rfl
  simp [h2, h3, h6]
theorem lease_eq (k : Int) : butteryref23_lease k = some (decide (k = 5 ∨ k = 6)) := by
  unfold butteryref23_lease
  simp only [lt_eq]
  by_cases h2 : k = 5
  · subst h2; rfl
  by_cases h3 : k = 6
  · subst h3; rfl
  simp [h2, h3]
theorem hkey_eq (k : Int) : butteryref23_key k = some (decide (k = 3 ∨ k = 4 ∨ k = 5 ∨ k = 6)) := by
  unfold butteryref23_key
  simp only [lt_eq]
  by_cases h1 : k ≥ 3
  · rw [if_pos (decide_eq_true h1)]
    congr 1
    exact decide_eq_decide.2 (by omega)
  · rw [if_neg (by rw [decide_eq_false h1]; simp), decide_eq_false (by omega)]
theorem asof_eq (k : Int) : butteryref23_asof k = some (decide (k = 2 ∨ k = 3 ∨ k = 4 ∨ k = 6)) := by
  unfold butteryref23_asof
  simp only [lt_eq]
  by_cases h2 : k = 2
  · subst h2; rfl
  by_cases h3 : k = 3
  · subst h3; rfl
  by_cases h4 : k = 4
  · subst h4; rfl
  by_cases h6 : k = 6
  · subst h6; rfl
  simp [h2, h3, h4, h6]
theorem hfound_eq (k : Int) : butteryref23_found k = some (decide (k = 2 ∨ k = 6)) := by
  unfold butteryref23_found
  simp only [lt_eq]
  by_cases h2 : k = 2
  · subst h2; rfl
  by_cases h3 : k = 6
  · subst h3; rfl
  simp [h2, h3]
/-- One part, looked at. -/
def stC (m : api_Msg) (c : BitVec 8) (r : api_Msg) : Int × api_Msg :=
  if c = 73#8 then (if m.Id < 1 ∨ m.Id > 1099511627776 then (2, r) else (0, { r with Id := 0 }))
  else if c = 75#8 then (if ckK m.X.Key ≠ 0 then (ckK m.X.Key, r) else (0, { r with X := { r.X with Key := [] } }))
  else if c = 65#8 then (if m.X.AsOf < 0 ∨ m.X.AsOf > 1099511627776 then (2, r) else (0, { r with X := { r.X with AsOf := 0 } }))
  else if c = 70#8 then (0, { r with Found := false })
  else (if m.Found = true then (if ckE m.X ≠ 0 then (ckE m.X, r) else (0, { r with X := zeroE })) else (0, r))
def ckL (m : api_Msg) : List (BitVec 8) → api_Msg → Int × api_Msg
  | [], r => (0, r)
  | c :: l, r => if (stC m c r).1 = 0 then ckL m l (stC m c r).2 else ((stC m c r).1, r)
def isP (c : BitVec 8) : Prop := c = 73#8 ∨ c = 75#8 ∨ c = 65#8 ∨ c = 70#8 ∨ c = 86#8
theorem ptsA_is (k : Int) : ∀ c ∈ ptsA k, isP c := by
  intro c hc
  unfold ptsA at hc
  unfold isP
  repeat' split at hc
  all_goals simp at hc
  all_goals first
    | (rcases hc with rfl | rfl | rfl | rfl | rfl <;> simp)
    | (rcases hc with rfl | rfl <;> simp)
theorem nxS_at {s l : List (BitVec 8)} {p : Nat} {c : BitVec 8} (h : s.drop p = c :: l) (hc : c.toNat < 128) : nxS (s, p) = some (some (c.toNat : Int)) ∧ s.drop (p + 1) = l := by
  obtain ⟨hp, h1, h2⟩ := drop_cons h
  refine ⟨?_, h2⟩
  unfold nxS
  simp only [List.getElem?_eq_getElem hp, h1]
  rw [if_pos hc]
theorem nxS_end {s : List (BitVec 8)} {p : Nat} (h : s.drop p = []) : nxS (s, p) = some none := by
  unfold nxS
  rw [List.getElem?_eq_none (List.drop_eq_nil_iff.1 h)]
theorem chk_l (m : api_Msg) : ∀ (l : List (BitVec 8)) (s : List (BitVec 8)) (p : Nat) (r : api_Msg), (∀ c ∈ l, isP c) → s.drop p = l →
    ∃ o, wire_Check_l0 m ((s, p), r) = some o ∧ ((ckL m l r).1 = 0 → ∃ q, o = .inl (q, (ckL m l r).2)) ∧ ((ckL m l r).1 ≠ 0 → ∃ e, o = .inr e ∧ codeOf e = (ckL m l r).1 ∧ e.isNil = false)
  | [], s, p, r, _, h => by
    refine ⟨.inl ((s, p), r), loopO_out (body := fun s => wire_Check_b0 m s.1 s.2) ?_, fun _ => ⟨_, rfl⟩, fun h => absurd rfl h⟩
    simp only [wire_Check_b0, nxS_end h, Option.bind_some, Option.elim_none]
  | c :: l, s, p, r, hl, h => by
    have hc := hl c (List.mem_cons_self ..)
    obtain ⟨h1, h2⟩ := nxS_at (c := c) h (by rcases hc with rfl | rfl | rfl | rfl | rfl <;> decide)
    have key : ((stC m c r).1 = 0 → wire_Check_b0 m (s, p) r = some (.inl ((s, p + 1), (stC m c r).2))) ∧ ((stC m c r).1 ≠ 0 → ∃ e, wire_Check_b0 m (s, p) r = some (.inr (.inr e)) ∧ codeOf e = (stC m c r).1 ∧ e.isNil = false) := by
      simp only [wire_Check_b0, h1, Option.bind_some, Option.elim_some, lt_eq]
      unfold stC
      rcases hc with rfl | rfl | rfl | rfl | rfl
      · simp only [show ((((73#8 : BitVec 8).toNat : Int)) == 73) = true from rfl, if_true]
        by_cases h3 : m.Id < 1
        · simp [h3, new_eq, codeOf, Err.isNil]
        · by_cases h4 : m.Id > 1099511627776
          · simp [h3, h4, new_eq, codeOf, Err.isNil]
          · simp [h3, h4]
      · simp only [show ((((75#8 : BitVec 8).toNat : Int)) == 73) = false from rfl, show ((((75#8 : BitVec 8).toNat : Int)) == 75) = true from rfl, Bool.false_eq_true, if_false, if_true, show ¬ (75#8 : BitVec 8) = 73#8 by decide, octKey_eq, Option.bind_some]
        by_cases h3 : ckK m.X.Key = 0
        · simp [h3]
        · simp [h3, new_eq _ _ _ h3, codeOf, Err.isNil]
      · simp only [show ((((65#8 : BitVec 8).toNat : Int)) == 73) = false from rfl, show ((((65#8 : BitVec 8).toNat : Int)) == 75) = false from rfl, show ((((65#8 : BitVec 8).toNat : Int)) == 65) = true from rfl, Bool.false_eq_true, if_false, if_true, show ¬ (65#8 : BitVec 8) = 73#8 by decide, show ¬ (65#8 : BitVec 8) = 75#8 by decide]
        by_cases h3 : m.X.AsOf < 0
        · simp [h3, new_eq, codeOf, Err.isNil]
        · by_cases h4 : m.X.AsOf > 1099511627776
          · simp [h3, h4, new_eq, codeOf, Err.isNil]
          · simp [h3, h4]
      · simp [show ((((70#8 : BitVec 8).toNat : Int)) == 73) = false from rfl, show ((((70#8 : BitVec 8).toNat : Int)) == 75) = false from rfl, show ((((70#8 : BitVec 8).toNat : Int)) == 65) = false from rfl]
      · obtain ⟨e, e1, e2, e3⟩ := check_eq m.X
        simp only [show ((((86#8 : BitVec 8).toNat : Int)) == 73) = false from rfl, show ((((86#8 : BitVec 8).toNat : Int)) == 75) = false from rfl, show ((((86#8 : BitVec 8).toNat : Int)) == 65) = false from rfl, show ((((86#8 : BitVec 8).toNat : Int)) == 70) = false from rfl, show ((((86#8 : BitVec 8).toNat : Int)) == 86) = true from rfl, Bool.false_eq_true, if_false, if_true, show ¬ (86#8 : BitVec 8) = 73#8 by decide, show ¬ (86#8 : BitVec 8) = 75#8 by decide, show ¬ (86#8 : BitVec 8) = 65#8 by decide, show ¬ (86#8 : BitVec 8) = 70#8 by decide, e1, Option.bind_some, e3]
        by_cases h3 : m.Found = true
        · by_cases h4 : ckE m.X = 0
          · simp [h3, h4, zeroE]
          · have h5 : e.isNil = false := by rw [e3]; simp [h4]
            simp only [h3, h4, Bool.not_true, Bool.false_eq_true, if_false, decide_false, Bool.not_false, if_true, wrap_eq _ _ e h5, Option.bind_some, ne_eq, not_false_eq_true]
            exact ⟨fun h => h.elim, fun _ => ⟨_, rfl, by simp [codeOf, e2], rfl⟩⟩
        · simp [h3]
    simp only [ckL]
    by_cases h3 : (stC m c r).1 = 0
    · rw [if_pos h3]
      obtain ⟨o, o1, o2, o3⟩ := chk_l m l s (p + 1) (stC m c r).2 (fun d hd => hl d (List.mem_cons_of_mem _ hd)) h2
      refine ⟨o, ?_, o2, o3⟩
      rw [← o1]
      exact loopO_in (body := fun s => wire_Check_b0 m s.1 s.2) (key.1 h3)
    · rw [if_neg h3]
      obtain ⟨e, e1, e2, e3⟩ := key.2 h3
      exact ⟨.inr e, loopO_out (body := fun s => wire_Check_b0 m s.1 s.2) e1, fun h => absurd h h3, fun _ => ⟨e, rfl, e2, e3⟩⟩
/-- What is wrong with a message. -/
def ckF (m : api_Msg) : Int × Int := if m.Kind = 2 ∨ m.Kind = 3 ∨ m.Kind = 6 then (m.To, m.From) else (m.From, m.To)
def ckM (m : api_Msg) : Int :=
  if m.Kind < 1 ∨ m.Kind > 6 then 12 else
  if (ckF m).1 < 1 ∨ (ckF m).1 > 16 ∨ (ckF m).2 ≠ 0 ∨ m.Epoch < 1 ∨ m.Epoch > 1099511627776 then 2 else
  if (ckL m (ptsA m.Kind) { m with Kind := 0, From := 0, To := 0, Epoch := 0 }).1 ≠ 0 then (ckL m (ptsA m.Kind) { m with Kind := 0, From := 0, To := 0, Epoch := 0 }).1 else
  if (ckL m (ptsA m.Kind) { m with Kind := 0, From := 0, To := 0, Epoch := 0 }).2.Id ≠ 0 ∨ (ckL m (ptsA m.Kind) { m with Kind := 0, From := 0, To := 0, Epoch := 0 }).2.Found = true ∨ (ckL m (ptsA m.Kind) { m with Kind := 0, From := 0, To := 0, Epoch := 0 }).2.X ≠ zeroE then 5 else 0
theorem or_bool {a b : Prop} [Decidable a] [Decidable b] : (if decide a = true then some true else some (decide b) : Option Bool) = some (decide (a ∨ b)) := by
  by_cases h : a <;> simp [h]
theorem wcheck_eq (m : api_Msg) : ∃ e, wire_Check m = some e ∧ codeOf e = ckM m ∧ e.isNil = decide (ckM m = 0) := by
  unfold wire_Check ckM
  simp only [lt_eq, or_bool, Option.bind_some, down_eq, parts_eq]
  by_cases h1 : m.Kind < 1 ∨ m.Kind > 6
  · simp only [h1, decide_true, if_true, new_eq _ _ (12 : Int) (by decide), Option.bind_some]
    exact ⟨_, rfl, rfl, rfl⟩
  · simp only [decide_eq_false h1, if_neg h1, Bool.false_eq_true, if_false]
    have hf : (if decide (m.Kind = 2 ∨ m.Kind = 3 ∨ m.Kind = 6) = true then some (m.To, m.From) else some (m.From, m.To) : Option (Int × Int)) = some (ckF m) := by
      unfold ckF
      by_cases h : m.Kind = 2 ∨ m.Kind = 3 ∨ m.Kind = 6
      · rw [if_pos h, if_pos (decide_eq_true h)]
      · rw [if_neg h, if_neg (by rw [decide_eq_false h]; simp)]
    simp only [hf, Option.bind_some]
    generalize ckF m = f
    by_cases h2 : f.1 < 1 ∨ f.1 > 16 ∨ f.2 ≠ 0
    · have h3 : (if decide (f.1 < 1) = true then some true else if decide (f.1 > 16) = true then some true else some (f.2 != 0) : Option Bool) = some true := by
        by_cases a : f.1 < 1
        · simp [a]
        · by_cases b : f.1 > 16
          · simp [a, b]
          · have : f.2 ≠ 0 := by omega
            simp [a, b, this]
      have h2' : f.1 < 1 ∨ f.1 > 16 ∨ f.2 ≠ 0 ∨ m.Epoch < 1 ∨ m.Epoch > 1099511627776 := by omega
      rw [h3, if_pos h2']
      simp only [Option.bind_some, if_true, new_eq _ _ (2 : Int) (by decide)]
      exact ⟨_, rfl, rfl, rfl⟩
    · have h3 : (if decide (f.1 < 1) = true then some true else if decide (f.1 > 16) = true then some true else some (f.2 != 0) : Option Bool) = some false := by
        have : f.2 = 0 := by omega
        simp [show ¬ f.1 < 1 by omega, show ¬ f.1 > 16 by omega, this]
      rw [h3]
      simp only [Option.bind_some, Bool.false_eq_true, if_false]
      by_cases h4 : m.Epoch < 1 ∨ m.Epoch > 1099511627776
      · have h2' : f.1 < 1 ∨ f.1 > 16 ∨ f.2 ≠ 0 ∨ m.Epoch < 1 ∨ m.Epoch > 1099511627776 := by omega
        rw [decide_eq_true h4, if_pos h2']
        simp only [Option.bind_some, if_true, new_eq _ _ (2 : Int) (by decide)]
        exact ⟨_, rfl, rfl, rfl⟩
      · have h2' : ¬ (f.1 < 1 ∨ f.1 > 16 ∨ f.2 ≠ 0 ∨ m.Epoch < 1 ∨ m.Epoch > 1099511627776) := by omega
        rw [decide_eq_false h4, if_neg h2']
        simp only [Bool.false_eq_true, if_false]
        obtain ⟨o, o1, o2, o3⟩ := chk_l m (ptsA m.Kind) (ptsA m.Kind) 0 { m with Kind := 0, From := 0, To := 0, Epoch := 0 } (ptsA_is _) rfl
        simp only [o1, Option.bind_some]
        generalize ckL m (ptsA m.Kind) { m with Kind := 0, From := 0, To := 0, Epoch := 0 } = q at *
        by_cases h5 : q.1 = 0
        · obtain ⟨z, rfl⟩ := o2 h5
          simp only [Sum.elim_inl, h5, ne_eq, not_true_eq_false, if_false, isame_eq6, Option.bind_some]
          by_cases h6 : q.2.Id = 0
          · by_cases h7 : q.2.Found = true
            · simp [h6, h7, new_eq, codeOf, Err.isNil]
            · by_cases h8 : q.2.X = zeroE
              · simp [h6, h7, h8, zeroE, codeOf, Err.isNil]
              · have h9 : ¬ q.2.X = ⟨[], 0, 0, 0, []⟩ := h8
                simp [h6, h7, h8, h9, new_eq, codeOf, Err.isNil]
          · simp [h6, new_eq, codeOf, Err.isNil]
        · obtain ⟨e, rfl, e1, e2⟩ := o3 h5
          simp only [Sum.elim_inr, h5, ne_eq, not_false_eq_true, if_true]
          exact ⟨e, rfl, e1, by rw [e2]; simp [h5]⟩
theorem wsame_eq (x y : api_Msg) : wire_Same x y = some (decide (x = y)) := by
  obtain ⟨a1, a2, a3, a4, a5, a6, a7⟩ := x
  obtain ⟨b1, b2, b3, b4, b5, b6, b7⟩ := y
  unfold wire_Same
  simp only [lt_eq, isame_eq6, Option.bind_some]
  by_cases h1 : a1 = b1 <;> by_cases h2 : a2 = b2 <;> by_cases h3 : a3 = b3 <;> by_cases h4 : a4 = b4 <;> by_cases h5 : a5 = b5 <;> by_cases h7 : a7 = b7 <;> simp [h1, h2, h3, h4, h5, h7]
theorem rsame_eq (x y : api_Msg) (hx : x.X.Value.length < 9223372036854775807) : butteryref23_Same x y = some (decide (x = y)) := by
  obtain ⟨a1, a2, a3, a4, a5, a6, a7⟩ := x
  obtain ⟨b1, b2, b3, b4, b5, b6, b7⟩ := y
  unfold butteryref23_Same
  simp only [lt_eq, same_eq6 a6 b6 hx, Option.bind_some]
  by_cases h1 : a1 = b1 <;> by_cases h2 : a2 = b2 <;> by_cases h3 : a3 = b3 <;> by_cases h4 : a4 = b4 <;> by_cases h5 : a5 = b5 <;> by_cases h7 : a7 = b7 <;> simp [h1, h2, h3, h4, h5, h7]
end Go.Proofs.YthkfilchighbhaaDoor
