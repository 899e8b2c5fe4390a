/- Proves AdmitBounds, never more hashes are remembered than may be, none twice; for every input. (part 4 of 5) -/
import Derived.Test.YthjabhcbkbchjaaDoorKAdmitBounds3
import Derived.ChangeSame
import Derived.ChangeVars
import Derived.JoinedOf
import Derived.LaidHandle
import Derived.LaidLaws
import Derived.RowKit
import Derived.RowKitTokens
import Derived.Stop.Joined
import Derived.Test.YthjabhcbkbchjaaDoorRows
namespace Go.Proofs.YthjabhcbkbchjaaDoor
open Go Go.Va
set_option linter.unusedVariables false
set_option linter.unusedSimpArgs false
set_option maxRecDepth 20000
theorem admit_Policy_GhostsV_vec {x0 : admit_Policy} {r : (List (BitVec 64))} (H : admit_Policy_GhostsV x0 = some r) (σ : St) {p0 : Nat} (h0 : σ.objs[p0]? = some (c_admit_Policy x0)) : ACall Tryd.prog 28 [(.ref p0 0)] σ (fun a τ => a = .vec σ.objs.length 1 (r).length ∧ τ = ⟨σ.objs ++ [cL (@eU .u64 64) r], σ.opn, σ.gl⟩) := by
  unfold admit_Policy_GhostsV at H
  refine ACall.vec (fun ρ κ => cut_cL (enc_u td48 sz48).cut ρ κ r) (acall_start tk Tryd.func28 (by decide) rfl (Nat.le_of_ble_eq_true rfl) ?_)
  have hH := Holds.init σ
  have hH := hH.bring h0 (fun _ h => by cases h)
  refine awp_seq ?_
  refine awp_region rfl ?_
  refine wpo_mv (a := AV.nils) rfl rfl rfl (o_as tk rfl (Wk.refl _)) ?_
  refine wpo_nil ?_
  refine awp_seq ?_
  refine awp_region rfl ?_
  refine wpo_mv (a := AV.nils) rfl rfl rfl (o_as tk rfl (Wk.refl _)) ?_
  refine wpo_nil ?_
  refine awp_seq ?_
  refine awp_seq ?_
  refine awp_region rfl ?_
  refine wpo_mv (a := (.ref p0 0)) rfl rfl rfl (o_mv tk rfl (Wk.refl _)) ?_
  refine wpo_mv (a := (.ref p0 0)) rfl rfl rfl (o_c tk false rfl (fun _ => rfl)) ?_
  refine wpo_mv (a := (.ref p0 67)) rfl rfl rfl (o_c tk false rfl (fun _ => rfl)) ?_
  refine wpo_rd (a := (eI x0.count)) rfl rfl rfl (h_ld tk hH 0 rfl (g_admit_Policy_count _) rfl) ?_
  refine wpo_mv (a := (eI (0 : Int))) rfl rfl rfl (o_mv tk rfl (Wk.refl _)) ?_
  refine wpo_nil ?_
  refine awp_block ?_
  refine AWP.vecN hH 3 1 (.inl rfl) fun id3 τ (hH : Holds σ [(id3, (cL (@eU .u64 64) ([] : List (BitVec 64)))), (p0, (c_admit_Policy x0))] [] τ) n4 => ?_
  obtain ⟨s12, hs6, hj7⟩ := Option.bind_eq_some_iff.1 H
  refine awp_cutx 0 (fun fr τ => ∃ id_3, σ.objs.length ≤ id_3 ∧ WkF fr (fm [(3, (.vec id_3 1 (s12).length))]) ∧ Holds σ [(id_3, (cL (@eU .u64 64) s12)), (p0, (c_admit_Policy x0))] [] τ) ?_ ?_
  · rintro fr τ ⟨id_3, n_3, hfr, hH⟩
    have H34 := hj7
    refine AWP.fm [(3, (.vec id_3 1 (s12).length))] hfr ?_
    refine awp_seq ?_
    refine awp_region rfl ?_
    refine wpo_mv (a := (.vec id_3 1 (s12).length)) rfl rfl rfl (o_mv tk rfl (Wk.refl _)) ?_
    refine wpo_mv (a := (.vec id_3 1 (s12).length)) rfl rfl rfl (o_as tk rfl (Wk.refl _)) ?_
    refine wpo_nil ?_
    refine awp_ret ?_
    obtain rfl := Option.some.inj H34
    exact ⟨_, .vec id_3 1 (s12).length, rfl, (.of_eq rfl), id_3, rfl, n_3, (hH.unbringAt 1 rfl h0).noT⟩
  · refine awp_loopO (body := fun s => admit_Policy_GhostsV_b0 x0 s.1 s.2) hs6 (fun (s : (List (BitVec 64)) × Int) fr τ => ∃ id_3, σ.objs.length ≤ id_3 ∧ WkF fr (fm [(0, (.ref p0 0)), (3, (.vec id_3 1 (s.1).length)), (8, (eI x0.count)), (9, (eI s.2))]) ∧ Holds σ [(id_3, (cL (@eU .u64 64) s.1)), (p0, (c_admit_Policy x0))] [] τ) ⟨id3, n4, (wkf_cons (.of_eq rfl) (wkf_cons (.of_eq rfl) (wkf_cons (.of_eq rfl) (wkf_cons (.of_eq rfl) (wkf_nil _))))), hH⟩ ?_
    rintro ⟨c1, c2⟩ fr τ y8 ⟨id_3, n_3, hfr, hH⟩ hb10 hy11
    have H13 : admit_Policy_GhostsV_b0 x0 c1 c2 = some y8 := hb10
    unfold admit_Policy_GhostsV_b0 at H13
    refine AWP.fm [(0, (.ref p0 0)), (3, (.vec id_3 1 (c1).length)), (8, (eI x0.count)), (9, (eI c2))] hfr ?_
    have hH : Holds σ [(id_3, (cL (@eU .u64 64) c1)), (p0, (c_admit_Policy x0))] [] τ := hH
    refine awp_seq ?_
    refine awp_region rfl ?_
    refine wpo_lt H13 eB rfl rfl rfl (o_ar tk rfl rfl rfl) fun v15 H14 => ?_
    refine wpo_nil ?_
    refine awp_seq ?_
    refine awp_if H14 rfl (fun H16 => ?_) (fun H16 => ?_)
    · refine awp_skip ?_
      refine awp_seq ?_
      refine awp_block ?_
      refine awp_seq ?_
      refine awp_region rfl ?_
      refine wpo_mv (a := (eI c2)) rfl rfl rfl (o_mv tk rfl (Wk.refl _)) ?_
      refine wpo_mv (a := (eI c2)) rfl rfl rfl (o_as tk rfl (Wk.refl _)) ?_
      refine wpo_nil ?_
      refine awp_drawS mixed [14] rfl (by decide +kernel) rfl rfl ?_
      refine wpdS_mv (a := (.vec id_3 1 (c1).length)) rfl rfl rfl (o_mv tk rfl (Wk.refl _)) ?_
      refine wpdS_mv (a := (.ref p0 0)) rfl rfl rfl (o_mv tk rfl (Wk.refl _)) ?_
      refine wpdS_mv (a := (.ref p0 0)) rfl rfl rfl (o_mv tk rfl (Wk.refl _)) ?_
      refine wpdS_mv (a := (.ref p0 0)) rfl rfl rfl (o_c tk false rfl (fun _ => rfl)) ?_
      refine wpdS_mv (a := (.ref p0 66)) rfl rfl rfl (o_c tk false rfl (fun _ => rfl)) ?_
      refine wpdS_rd (a := (eI x0.first_)) rfl (by decide +kernel) rfl rfl (h_ld tk hH 1 rfl (g_admit_Policy_first_ _) rfl) ?_
      refine wpdS_mv (a := (eI c2)) rfl rfl rfl (o_mv tk rfl (Wk.refl _)) ?_
      refine wpdS_lt H16 eI rfl rfl rfl (o_ar tk rfl rfl rfl) fun v18 H17 => ?_
      refine wpdS_lt H17 eI rfl rfl rfl (o_rem tk (z := (64 : Int)) rfl rfl rfl) fun v20 H19 => ?_
      refine wpdS_mv (a := (.ref p0 0)) rfl rfl rfl (o_c tk false rfl (fun _ => rfl)) ?_
      refine wpdS_mv (a := (.ref p0 2)) rfl rfl rfl (o_c tk false rfl (fun _ => rfl)) ?_
      refine wpdS_bd H19 (fun _ => .ref p0 (2 + (v20 : Int).toNat * 1 + 0)) rfl rfl rfl (fun v22 hv => o_arrb tk hv td76 sz48 (by decide) rfl rfl) fun v22 hv22 H21 => ?_
      refine wpdS_bdr H21 (fun y => (@eU .u64 64) y) rfl (by decide +kernel) rfl rfl (fun v24 hv => h_ldb tk hH 1 hv rfl (sp_admit_Policy_ring _) (al_admit_Policy_ring _) (enc_u td48 sz48) (acut_enc (enc_u td48 sz48) rfl _) (by decide) rfl) fun v24 hv24 H23 => ?_
      refine wpdS_lt H23 (eF 1 (@eU .u64 64)) rfl rfl rfl (o_c tk false rfl (fun _ => rfl)) fun v26 H25 => ?_
      obtain ⟨v28, hv29, H27⟩ := Option.bind_eq_some_iff.1 H25
      refine wpdS_a (av := fun b => .vec b 1 (v28).length) rfl rfl rfl (h_appV tk hH 0 hv29 rfl n_3 (enc_u td48 sz48) td41 ty48 rfl (by decide) rfl rfl (srv_l (enc_u td48 sz48) td41 rfl)) fun id30 τ ⟨hH, n31⟩ => ?_
      refine wpdS_mv (a := (.vec id30 1 (v28).length)) rfl rfl rfl (o_as tk rfl (Wk.refl _)) ?_
      refine wpdS_nil ?_
      refine awp_region rfl ?_
      refine wpo_lt H27 eI rfl rfl rfl (o_ar tk rfl rfl rfl) fun v33 H32 => ?_
      refine wpo_mv (a := (eI v33)) rfl rfl rfl (o_mv tk rfl (Wk.refl _)) ?_
      refine wpo_nil ?_
      exact ⟨(v28, v33), inj_inl H32, id30, n31, (wkf_cons (.of_eq rfl) (wkf_cons (.of_eq rfl) (wkf_cons (.of_eq rfl) (wkf_cons (.of_eq rfl) (wkf_nil _))))), hH⟩
    · refine awp_exit ?_
      have hz := hy11 _ (inj_inr H16)
      subst hz
      exact ⟨⟨_, inj_inr H16⟩, id_3, n_3, (wkf_cons (.of_eq rfl) (wkf_nil _)), hH⟩
end Go.Proofs.YthjabhcbkbchjaaDoor
namespace Go.Proofs.YthjabhcbkbchjaaDoor
open Go Go.Va
set_option linter.unusedVariables false
set_option linter.unusedSimpArgs false
set_option maxRecDepth 20000
theorem admit_Policy_keep_ok {x0 : admit_Policy} {x1 : List (BitVec 64)} {r : admit_Policy} (H : admit_Policy_keep x0 x1 = some r) (σ : St) {p0 : Nat} (h0 : σ.objs[p0]? = some (c_admit_Policy x0)) : ACall Tryd.prog 45 [(.ref p0 0), ((eL 1 (@eU .u64 64)) x1)] σ (fun a τ => a = .tup [] ∧ τ = σ.puts [(p0, (c_admit_Policy r))]) := by
  unfold admit_Policy_keep at H
  refine ACall.out [(p0, (c_admit_Policy r))] (by simp only [List.mem_cons, List.not_mem_nil, or_false]; rintro _ (rfl) ρ κ <;> exact c_admit_Policy_cut ρ κ _) (acall_start tk Tryd.func45 (by decide) rfl (Nat.le_of_ble_eq_true rfl) ?_)
  have hH := Holds.init σ
  have hH := hH.bring h0 (fun _ h => by cases h)
  refine awp_seq ?_
  refine awp_region rfl ?_
  refine wpo_mv (a := (.ref p0 0)) rfl rfl rfl (o_mv tk rfl (Wk.refl _)) ?_
  refine wpo_mv (a := (.ref p0 0)) rfl rfl rfl (o_mv tk rfl (Wk.refl _)) ?_
  refine wpo_mv (a := ((eL 1 (@eU .u64 64)) x1)) rfl rfl rfl (o_mv tk rfl (Wk.refl _)) ?_
  refine wpo_lt H eI rfl rfl rfl (o_len tk td41 rfl) fun v2 H1 => ?_
  refine wpo_mv (a := (.ref p0 0)) rfl rfl rfl (o_c tk false rfl (fun _ => rfl)) ?_
  refine wpo_mv (a := (.ref p0 66)) rfl rfl rfl (o_c tk false rfl (fun _ => rfl)) ?_
  obtain ⟨c4, hc5, H3⟩ := lt_ex H1
  refine wpo_z rfl rfl (h_st tk hH 0 rfl ty3 (by simp) rfl rfl (.of_eq rfl) (b := (eI (0 : Int))) rfl rfl (by rw [cl_admit_Policy]; decide) (c_admit_Policy c4) (by rw [← hc5]; exact s_admit_Policy_first_ _ _)) fun τ hH => ?_
  refine wpo_mv (a := (.ref p0 0)) rfl rfl rfl (o_c tk false rfl (fun _ => rfl)) ?_
  refine wpo_mv (a := (.ref p0 67)) rfl rfl rfl (o_c tk false rfl (fun _ => rfl)) ?_
  obtain ⟨c7, hc8, H6⟩ := lt_ex H3
  refine wpo_z rfl rfl (h_st tk hH 0 rfl ty3 (by simp) rfl rfl (.of_eq rfl) (b := (eI v2)) rfl rfl (by rw [cl_admit_Policy]; decide) (c_admit_Policy c7) (by rw [← hc8]; exact s_admit_Policy_count _ _)) fun τ hH => ?_
  refine wpo_nil ?_
  refine awp_region rfl ?_
  refine wpo_mv (a := (.ref p0 0)) rfl rfl rfl (o_mv tk rfl (Wk.refl _)) ?_
  refine wpo_mv (a := (.ref p0 0)) rfl rfl rfl (o_c tk false rfl (fun _ => rfl)) ?_
  refine wpo_mv (a := (.ref p0 2)) rfl rfl rfl (o_c tk false rfl (fun _ => rfl)) ?_
  refine wpo_mv (a := (.msl p0 2 64)) rfl rfl rfl (o_c tk false rfl (fun _ => rfl)) ?_
  refine wpo_mv (a := ((eL 1 (@eU .u64 64)) x1)) rfl rfl rfl (o_mv tk rfl (Wk.refl _)) ?_
  obtain ⟨v10, hv11, H9⟩ := Option.bind_eq_some_iff.1 H6
  obtain ⟨c12, hc13, H14⟩ := lt_ex H9
  refine wpo_a (av := fun _ => eI ((x1).length : Int)) rfl rfl rfl (by rw [← hc13]; exact (h_cpb tk hH 0 hv11 rfl (sp_admit_Policy_ring _) (sp_admit_Policy_ring { c7 with ring := v10 }) (al_admit_Policy_ring _) (by decide) (enc_u td48 sz48) td41 ty48 rfl rfl (srv_l (enc_u td48 sz48) td41 rfl))) fun _ τ (hH : Holds σ [(p0, (c_admit_Policy c12))] [] τ) => ?_
  refine wpo_nil ?_
  obtain rfl := Option.some.inj H14
  exact ⟨_, (.tup []), rfl, (.of_eq rfl), .of_eq rfl, hH.noT⟩
end Go.Proofs.YthjabhcbkbchjaaDoor
namespace Go.Proofs.YthjabhcbkbchjaaDoor
open Go Go.Va
set_option linter.unusedVariables false
set_option linter.unusedSimpArgs false
set_option maxRecDepth 20000
theorem slices_Index_uint64_uint64_ok {x0 : List (BitVec 64)} {x1 : BitVec 64} {r : Int} (H : slices_Index_uint64_uint64 x0 x1 = some r) (σ : St)  : ACall Tryd.prog 46 [((eL 1 (@eU .u64 64)) x0), ((@eU .u64 64) x1)] σ (fun a τ => a = eI r ∧ τ = σ) := by
  unfold slices_Index_uint64_uint64 at H
  refine ACall.pure (acall_start tk Tryd.func46 (by decide) rfl (Nat.le_of_ble_eq_true rfl) ?_)
  have hH := Holds.init σ
  refine awp_seq ?_
  refine awp_region rfl ?_
  refine wpo_mv (a := (eI (0 : Int))) rfl rfl rfl (o_as tk rfl (Wk.refl _)) ?_
  refine wpo_nil ?_
  refine awp_seq ?_
  refine awp_seq ?_
  refine awp_region rfl ?_
  refine wpo_mv (a := ((eL 1 (@eU .u64 64)) x0)) rfl rfl rfl (o_mv tk rfl (Wk.refl _)) ?_
  refine wpo_lt H eI rfl rfl rfl (o_len tk td41 rfl) fun v2 H1 => ?_
  refine wpo_mv (a := (eI (0 : Int))) rfl rfl rfl (o_mv tk rfl (Wk.refl _)) ?_
  refine wpo_nil ?_
  refine awp_block ?_
  obtain ⟨o4, hs5, hj6⟩ := Option.bind_eq_some_iff.1 H1
  refine awp_cutx 0 (fun fr τ => ∃ s11 : Unit, o4 = .inl s11 ∧ WkF fr (fm []) ∧ Holds σ [] [] τ) ?_ ?_
  · rintro fr τ ⟨s11, rfl, hfr, hH⟩
    have H24 := hj6
    simp only [Sum.elim_inl] at H24
    refine AWP.fm [] hfr ?_
    refine awp_seq ?_
    refine awp_region rfl ?_
    refine wpo_mv (a := (eI (-1 : Int))) rfl rfl rfl (o_as tk rfl (Wk.refl _)) ?_
    refine wpo_nil ?_
    refine awp_ret ?_
    obtain rfl := Option.some.inj H24
    exact ⟨_, (eI (-1 : Int)), rfl, (.of_eq rfl), .of_eq ((enc_i64 td3 sz3).cut _ _ _), hH.noT⟩
  · refine awp_loopO (body := fun s => slices_Index_uint64_uint64_b0 x0 x1 v2 s) hs5 (fun (s : Int) fr τ => WkF fr (fm [(0, ((eL 1 (@eU .u64 64)) x0)), (1, ((@eU .u64 64) x1)), (7, (eI v2)), (8, (eI s))]) ∧ Holds σ [] [] τ) ⟨(wkf_cons (.of_eq rfl) (wkf_cons (.of_eq rfl) (wkf_cons (.of_eq rfl) (wkf_cons (.of_eq rfl) (wkf_nil _))))), hH⟩ ?_
    rintro c3 fr τ y7 ⟨hfr, hH⟩ hb9 hy10
    have H12 : slices_Index_uint64_uint64_b0 x0 x1 v2 c3 = some y7 := hb9
    unfold slices_Index_uint64_uint64_b0 at H12
    refine AWP.fm [(0, ((eL 1 (@eU .u64 64)) x0)), (1, ((@eU .u64 64) x1)), (7, (eI v2)), (8, (eI c3))] hfr ?_
    have hH : Holds σ [] [] τ := hH
    refine awp_seq ?_
    refine awp_region rfl ?_
    refine wpo_lt H12 eB rfl rfl rfl (o_ar tk rfl rfl rfl) fun v14 H13 => ?_
    refine wpo_nil ?_
    refine awp_seq ?_
    refine awp_if H13 rfl (fun H15 => ?_) (fun H15 => ?_)
    · refine awp_skip ?_
      refine awp_seq ?_
      refine awp_block ?_
      refine awp_seq ?_
      refine awp_region rfl ?_
      refine wpo_mv (a := (eI c3)) rfl rfl rfl (o_mv tk rfl (Wk.refl _)) ?_
      refine wpo_mv (a := (eI c3)) rfl rfl rfl (o_as tk rfl (Wk.refl _)) ?_
      refine wpo_nil ?_
      refine awp_seq ?_
      refine awp_region rfl ?_
      refine wpo_mv (a := ((@eU .u64 64) x1)) rfl rfl rfl (o_mv tk rfl (Wk.refl _)) ?_
      refine wpo_mv (a := ((eL 1 (@eU .u64 64)) x0)) rfl rfl rfl (o_mv tk rfl (Wk.refl _)) ?_
      refine wpo_mv (a := (eI c3)) rfl rfl rfl (o_mv tk rfl (Wk.refl _)) ?_
      refine wpo_bd H15 (fun y => .fptr ((@eU .u64 64) y).cells 0) rfl rfl rfl (fun v17 hv => o_ixa tk hv td41 (enc_u td48 sz48) rfl rfl) fun v17 hv17 H16 => ?_
      refine wpo_mv (a := ((@eU .u64 64) v17)) rfl rfl rfl (o_ld_e tk (enc_u td48 sz48) rfl rfl) ?_
      refine wpo_lt H16 eB rfl rfl rfl (o_eql_u tk rfl rfl) fun v19 H18 => ?_
      refine wpo_nil ?_
      refine awp_if H18 rfl (fun H20 => ?_) (fun H20 => ?_)
      · refine awp_seq ?_
        refine awp_region rfl ?_
        refine wpo_mv (a := (eI c3)) rfl rfl rfl (o_mv tk rfl (Wk.refl _)) ?_
        refine wpo_mv (a := (eI c3)) rfl rfl rfl (o_as tk rfl (Wk.refl _)) ?_
        refine wpo_nil ?_
        refine awp_ret ?_
        have hz := hy10 _ (inj_inr H20)
        refine ⟨⟨_, inj_inr H20⟩, ?_⟩
        rw [← hz] at hj6
        have H21 := (show some _ = some _ from hj6)
        obtain rfl := Option.some.inj H21
        exact ⟨_, (eI c3), rfl, (.of_eq rfl), .of_eq ((enc_i64 td3 sz3).cut _ _ _), hH.noT⟩
      · refine awp_skip ?_
        refine awp_region rfl ?_
        refine wpo_lt H20 eI rfl rfl rfl (o_ar tk rfl rfl rfl) fun v23 H22 => ?_
        refine wpo_mv (a := (eI v23)) rfl rfl rfl (o_mv tk rfl (Wk.refl _)) ?_
        refine wpo_nil ?_
        exact ⟨v23, inj_inl H22, (wkf_cons (.of_eq rfl) (wkf_cons (.of_eq rfl) (wkf_cons (.of_eq rfl) (wkf_cons (.of_eq rfl) (wkf_nil _))))), hH⟩
    · refine awp_exit ?_
      have hz := hy10 _ (inj_inr H15)
      exact ⟨⟨_, inj_inr H15⟩, (), hz.symm, (wkf_nil _), hH⟩
end Go.Proofs.YthjabhcbkbchjaaDoor
namespace Go.Proofs.YthjabhcbkbchjaaDoor
open Go Go.Va
set_option linter.unusedVariables false
set_option linter.unusedSimpArgs false
set_option maxRecDepth 20000
theorem admit_Policy_push_ok {x0 : admit_Policy} {x1 : BitVec 64} {r : admit_Policy} (H : admit_Policy_push x0 x1 = some r) (σ : St) {p0 : Nat} (h0 : σ.objs[p0]? = some (c_admit_Policy x0)) : ACall Tryd.prog 47 [(.ref p0 0), ((@eU .u64 64) x1)] σ (fun a τ => a = .tup [] ∧ τ = σ.puts [(p0, (c_admit_Policy r))]) := by
  unfold admit_Policy_push at H
  refine ACall.out [(p0, (c_admit_Policy r))] (by simp only [List.mem_cons, List.not_mem_nil, or_false]; rintro _ (rfl) ρ κ <;> exact c_admit_Policy_cut ρ κ _) (acall_start tk Tryd.func47 (by decide) rfl (Nat.le_of_ble_eq_true rfl) ?_)
  have hH := Holds.init σ
  have hH := hH.bring h0 (fun _ h => by cases h)
  refine awp_seq ?_
  refine awp_seq ?_
  refine awp_drawS mixed [] rfl (by decide +kernel) rfl rfl ?_
  refine wpdS_mv (a := (.ref p0 0)) rfl rfl rfl (o_mv tk rfl (Wk.refl _)) ?_
  refine wpdS_mv (a := (.ref p0 0)) rfl rfl rfl (o_c tk false rfl (fun _ => rfl)) ?_
  refine wpdS_mv (a := (.ref p0 67)) rfl rfl rfl (o_c tk false rfl (fun _ => rfl)) ?_
  refine wpdS_rd (a := (eI x0.count)) rfl (by decide +kernel) rfl rfl (h_ld tk hH 0 rfl (g_admit_Policy_count _) rfl) ?_
  refine wpdS_mv (a := (.ref p0 0)) rfl rfl rfl (o_mv tk rfl (Wk.refl _)) ?_
  refine wpdS_mv (a := (.ref p0 0)) rfl rfl rfl (o_c tk false rfl (fun _ => rfl)) ?_
  refine wpdS_mv (a := (.ref p0 1)) rfl rfl rfl (o_c tk false rfl (fun _ => rfl)) ?_
  refine wpdS_rd (a := (eI x0.limit)) rfl (by decide +kernel) rfl rfl (h_ld tk hH 0 rfl (g_admit_Policy_limit _) rfl) ?_
  refine wpdS_lt H eB rfl rfl rfl (o_ar tk rfl rfl rfl) fun v2 H1 => ?_
  refine wpdS_nil ?_
  obtain ⟨s3, hs5, hj6⟩ := Option.bind_eq_some_iff.1 H1
  refine awp_cutn (fun fr τ => WkF fr (fm [(0, (.ref p0 0)), (1, ((@eU .u64 64) x1))]) ∧ Holds σ [(p0, (c_admit_Policy s3))] [] τ) ?_ ?_
  · rintro fr τ ⟨hfr, hH⟩
    have H20 := hj6
    refine AWP.fm [(0, (.ref p0 0)), (1, ((@eU .u64 64) x1))] hfr ?_
    refine awp_seq ?_
    refine awp_drawS mixed [15] rfl (by decide +kernel) rfl rfl ?_
    refine wpdS_mv (a := (.ref p0 0)) rfl rfl rfl (o_mv tk rfl (Wk.refl _)) ?_
    refine wpdS_mv (a := (.ref p0 0)) rfl rfl rfl (o_mv tk rfl (Wk.refl _)) ?_
    refine wpdS_mv (a := (.ref p0 0)) rfl rfl rfl (o_c tk false rfl (fun _ => rfl)) ?_
    refine wpdS_mv (a := (.ref p0 66)) rfl rfl rfl (o_c tk false rfl (fun _ => rfl)) ?_
    refine wpdS_rd (a := (eI s3.first_)) rfl (by decide +kernel) rfl rfl (h_ld tk hH 0 rfl (g_admit_Policy_first_ _) rfl) ?_
    refine wpdS_mv (a := (.ref p0 0)) rfl rfl rfl (o_mv tk rfl (Wk.refl _)) ?_
    refine wpdS_mv (a := (.ref p0 0)) rfl rfl rfl (o_c tk false rfl (fun _ => rfl)) ?_
    refine wpdS_mv (a := (.ref p0 67)) rfl rfl rfl (o_c tk false rfl (fun _ => rfl)) ?_
    refine wpdS_rd (a := (eI s3.count)) rfl (by decide +kernel) rfl rfl (h_ld tk hH 0 rfl (g_admit_Policy_count _) rfl) ?_
    refine wpdS_lt H20 eI rfl rfl rfl (o_ar tk rfl rfl rfl) fun v22 H21 => ?_
    refine wpdS_lt H21 eI rfl rfl rfl (o_rem tk (z := (64 : Int)) rfl rfl rfl) fun v24 H23 => ?_
    refine wpdS_mv (a := ((@eU .u64 64) x1)) rfl rfl rfl (o_mv tk rfl (Wk.refl _)) ?_
    refine wpdS_mv (a := (.ref p0 0)) rfl rfl rfl (o_c tk false rfl (fun _ => rfl)) ?_
    refine wpdS_mv (a := (.ref p0 2)) rfl rfl rfl (o_c tk false rfl (fun _ => rfl)) ?_
    refine wpdS_bd H23 (fun _ => .ref p0 (2 + (v24 : Int).toNat * 1 + 0)) rfl rfl rfl (fun v26 hv => o_arrb tk hv td76 sz48 (by decide) rfl rfl) fun v26 hv26 H25 => ?_
    obtain ⟨v28, hv29, H27⟩ := Option.bind_eq_some_iff.1 H25
    obtain ⟨c30, hc31, H32⟩ := lt_ex H27
    refine wpdS_z rfl rfl rfl (by rw [← hc31]; exact (h_stb tk hH 0 hv29 rfl (sp_admit_Policy_ring _) (sp_admit_Policy_ring { s3 with ring := v28 }) (al_admit_Policy_ring _) (enc_u td48 sz48) ty48 (by simp) rfl rfl (.of_eq rfl) (b := ((@eU .u64 64) x1)) rfl rfl (by decide) (fun _ => rfl))) fun τ (hH : Holds σ [(p0, (c_admit_Policy c30))] [] τ) => ?_
    refine wpdS_nil ?_
    refine awp_region rfl ?_
    refine wpo_mv (a := (.ref p0 0)) rfl rfl rfl (o_mv tk rfl (Wk.refl _)) ?_
    refine wpo_mv (a := (.ref p0 0)) rfl rfl rfl (o_c tk false rfl (fun _ => rfl)) ?_
    refine wpo_mv (a := (.ref p0 67)) rfl rfl rfl (o_c tk false rfl (fun _ => rfl)) ?_
    refine wpo_rd (a := (eI c30.count)) rfl rfl rfl (h_ld tk hH 0 rfl (g_admit_Policy_count _) rfl) ?_
    refine wpo_lt H32 eI rfl rfl rfl (o_ar tk rfl rfl rfl) fun v34 H33 => ?_
    refine wpo_mv (a := (.ref p0 0)) rfl rfl rfl (o_c tk false rfl (fun _ => rfl)) ?_
    refine wpo_mv (a := (.ref p0 67)) rfl rfl rfl (o_c tk false rfl (fun _ => rfl)) ?_
    obtain ⟨c36, hc37, H35⟩ := lt_ex H33
    refine wpo_z rfl rfl (h_st tk hH 0 rfl ty3 (by simp) rfl rfl (.of_eq rfl) (b := (eI v34)) rfl rfl (by rw [cl_admit_Policy]; decide) (c_admit_Policy c36) (by rw [← hc37]; exact s_admit_Policy_count _ _)) fun τ hH => ?_
    refine wpo_nil ?_
    obtain rfl := Option.some.inj H35
    exact ⟨_, (.tup []), rfl, (.of_eq rfl), .of_eq rfl, hH.noT⟩
  · refine awp_if hs5 rfl (fun H7 => ?_) (fun H7 => ?_)
    · refine awp_seq ?_
      refine awp_region rfl ?_
      refine wpo_mv (a := (.ref p0 0)) rfl rfl rfl (o_mv tk rfl (Wk.refl _)) ?_
      refine wpo_mv (a := (.ref p0 0)) rfl rfl rfl (o_mv tk rfl (Wk.refl _)) ?_
      refine wpo_mv (a := (.ref p0 0)) rfl rfl rfl (o_c tk false rfl (fun _ => rfl)) ?_
      refine wpo_mv (a := (.ref p0 66)) rfl rfl rfl (o_c tk false rfl (fun _ => rfl)) ?_
      refine wpo_rd (a := (eI x0.first_)) rfl rfl rfl (h_ld tk hH 0 rfl (g_admit_Policy_first_ _) rfl) ?_
      refine wpo_lt H7 eI rfl rfl rfl (o_ar tk rfl rfl rfl) fun v9 H8 => ?_
      refine wpo_lt H8 eI rfl rfl rfl (o_rem tk (z := (64 : Int)) rfl rfl rfl) fun v11 H10 => ?_
      refine wpo_mv (a := (.ref p0 0)) rfl rfl rfl (o_c tk false rfl (fun _ => rfl)) ?_
      refine wpo_mv (a := (.ref p0 66)) rfl rfl rfl (o_c tk false rfl (fun _ => rfl)) ?_
      obtain ⟨c13, hc14, H12⟩ := lt_ex H10
      refine wpo_z rfl rfl (h_st tk hH 0 rfl ty3 (by simp) rfl rfl (.of_eq rfl) (b := (eI v11)) rfl rfl (by rw [cl_admit_Policy]; decide) (c_admit_Policy c13) (by rw [← hc14]; exact s_admit_Policy_first_ _ _)) fun τ hH => ?_
      refine wpo_nil ?_
      refine awp_region rfl ?_
      refine wpo_mv (a := (.ref p0 0)) rfl rfl rfl (o_mv tk rfl (Wk.refl _)) ?_
      refine wpo_mv (a := (.ref p0 0)) rfl rfl rfl (o_c tk false rfl (fun _ => rfl)) ?_
      refine wpo_mv (a := (.ref p0 67)) rfl rfl rfl (o_c tk false rfl (fun _ => rfl)) ?_
      refine wpo_rd (a := (eI c13.count)) rfl rfl rfl (h_ld tk hH 0 rfl (g_admit_Policy_count _) rfl) ?_
      refine wpo_lt H12 eI rfl rfl rfl (o_ar tk rfl rfl rfl) fun v16 H15 => ?_
      refine wpo_mv (a := (.ref p0 0)) rfl rfl rfl (o_c tk false rfl (fun _ => rfl)) ?_
      refine wpo_mv (a := (.ref p0 67)) rfl rfl rfl (o_c tk false rfl (fun _ => rfl)) ?_
      obtain ⟨c18, hc19, H17⟩ := lt_ex H15
      refine wpo_z rfl rfl (h_st tk hH 0 rfl ty3 (by simp) rfl rfl (.of_eq rfl) (b := (eI v16)) rfl rfl (by rw [cl_admit_Policy]; decide) (c_admit_Policy c18) (by rw [← hc19]; exact s_admit_Policy_count _ _)) fun τ hH => ?_
      refine wpo_nil ?_
      have e := Option.some.inj H17
      subst e
      exact ⟨(wkf_cons (.of_eq rfl) (wkf_cons (.of_eq rfl) (wkf_nil _))), hH⟩
    · refine awp_skip ?_
      have e := Option.some.inj H7
      subst e
      exact ⟨(wkf_cons (.of_eq rfl) (wkf_cons (.of_eq rfl) (wkf_nil _))), hH⟩
end Go.Proofs.YthjabhcbkbchjaaDoor
namespace Go.Proofs.YthjabhcbkbchjaaDoor
open Go Go.Va
set_option linter.unusedVariables false
set_option linter.unusedSimpArgs false
set_option maxRecDepth 20000
theorem slices_Delete_uint64_uint64_ok {x0 : List (BitVec 64)} {x1 x2 : Int} {r : List (BitVec 64)} (H : slices_Delete_uint64_uint64 x0 x1 x2 = some r) (σ : St) {p0 : Nat} (h0 : σ.objs[p0]? = some (cL ((@eU .u64 64)) x0)) : ACall Tryd.prog 48 [.vec p0 1 x0.length, (eI x1), (eI x2)] σ (fun a τ => a = .sl (.own σ.opn.length) 1 (r.map ((@eU .u64 64))) ∧ τ = ⟨σ.objs.set p0 [], σ.opn ++ [true], σ.gl⟩) := by
  have he : Enc ty 48 1 ((@eU .u64 64)) := ((enc_u td48 sz48))
  obtain ⟨a, b, rfl, rfl, hab, hb, ha, rfl⟩ := delO_some H
  have hlt : p0 < σ.objs.length := (List.getElem?_eq_some_iff.1 h0).1
  have hL := cL_length he.len x0
  have hne : cL ((@eU .u64 64)) x0 ≠ [] := fun h => by rw [h] at hL; simp at hL; omega
  refine ACall.room (by omega) fun c hc => ?_
  refine ACall.freeze (r := x0.take a ++ x0.drop b) (c := c) he (fun _ _ => trivial) ?_
  have hrl : (x0.take a ++ x0.drop b).length = a + (x0.length - b) := by simp; omega
  refine acall_start tk Tryd.func48 (by decide) rfl (Nat.le_of_ble_eq_true rfl) ?_
  repeat (refine awp_seq ?_)
  refine awp_region rfl ?_
  refine wpo_mv (a := AV.nils) rfl rfl rfl (o_as tk rfl (Wk.refl _)) ?_
  refine wpo_nil ?_
  repeat (refine awp_seq ?_)
  refine awp_region rfl ?_
  refine wpo_mv (a := .vc p0 1 0 x0.length c) rfl rfl rfl (o_mv tk rfl (Wk.refl _)) ?_
  refine wpo_mv (a := eI (a : Int)) rfl rfl rfl (o_mv tk rfl (Wk.refl _)) ?_
  refine wpo_mv (a := eI (b : Int)) rfl rfl rfl (o_mv tk rfl (Wk.refl _)) ?_
  refine wpo_mv (a := .vc p0 1 0 x0.length c) rfl rfl rfl (o_mv tk rfl (Wk.refl _)) ?_
  refine wpo_mv (a := eI (x0.length : Int)) rfl rfl rfl (o_vclen tk td41 rfl) ?_
  refine wpo_mv (a := .vc p0 1 (if x0.length = a then 0 else 0 + a * 1) (b - a) (x0.length - a)) rfl rfl rfl (o_vcs tk a b x0.length td41 sz48 (by decide) rfl (abnd_nat _ _) (abnd_nat _ _) (abnd_nat _ _) (fun _ => rfl) hab hb hc) ?_
  refine wpo_nil ?_
  repeat (refine awp_seq ?_)
  refine awp_region rfl ?_
  refine wpo_mv (a := eI (a : Int)) rfl rfl rfl (o_mv tk rfl (Wk.refl _)) ?_
  refine wpo_mv (a := eI (b : Int)) rfl rfl rfl (o_mv tk rfl (Wk.refl _)) ?_
  refine wpo_mv (a := eB ((a : Int) == (b : Int))) rfl rfl rfl (o_ar tk rfl rfl rfl) ?_
  refine wpo_nil ?_
  refine awp_cond (b := ((a : Int) == (b : Int))) rfl (fun hE => ?_) (fun hE => ?_)
  · have hab' : a = b := by simp at hE; omega
    subst hab'
    repeat (refine awp_seq ?_)
    refine awp_region rfl ?_
    refine wpo_mv (a := .vc p0 1 0 x0.length c) rfl rfl rfl (o_mv tk rfl (Wk.refl _)) ?_
    refine wpo_mv (a := .vc p0 1 0 x0.length c) rfl rfl rfl (o_as tk rfl (Wk.refl _)) ?_
    refine wpo_nil ?_
    refine awp_ret ?_
    have e1 : x0.take a ++ x0.drop a = x0 := List.take_append_drop a x0
    refine ⟨_, .vc p0 1 0 x0.length c, rfl, .of_eq rfl, by rw [e1], cL ((@eU .u64 64)) x0, hne, by rw [e1, List.take_of_length_le (by rw [hL]; exact Nat.le_refl _)], hlt, ?_⟩
    obtain ⟨hlt', hg⟩ := List.getElem?_eq_some_iff.1 h0
    rw [← hg, List.set_getElem_self]
  · have hab' : a < b := by simp at hE; omega
    refine awp_skip ?_
    repeat (refine awp_seq ?_)
    refine awp_region rfl ?_
    refine wpo_mv (a := .vc p0 1 0 x0.length c) rfl rfl rfl (o_mv tk rfl (Wk.refl _)) ?_
    refine wpo_mv (a := eI (x0.length : Int)) rfl rfl rfl (o_vclen tk td41 rfl) ?_
    refine wpo_mv (a := eI (x0.length : Int)) rfl rfl rfl (o_as tk rfl (Wk.refl _)) ?_
    refine wpo_nil ?_
    repeat (refine awp_seq ?_)
    refine awp_drawS mixed [6] rfl (by decide +kernel) rfl rfl ?_
    refine wpdS_mv (a := .vc p0 1 0 x0.length c) rfl rfl rfl (o_mv tk rfl (Wk.refl _)) ?_
    refine wpdS_mv (a := eI (a : Int)) rfl rfl rfl (o_mv tk rfl (Wk.refl _)) ?_
    refine wpdS_mv (a := .vc p0 1 0 a c) rfl rfl rfl (o_vcs0 tk a td41 sz48 (by decide) rfl rfl (by omega)) ?_
    refine wpdS_mv (a := .vc p0 1 0 x0.length c) rfl rfl rfl (o_mv tk rfl (Wk.refl _)) ?_
    refine wpdS_mv (a := eI (b : Int)) rfl rfl rfl (o_mv tk rfl (Wk.refl _)) ?_
    refine wpdS_mv (a := .vc p0 1 (if c = b then 0 else 0 + b * 1) (x0.length - b) (c - b)) rfl rfl rfl (o_vcs tk (lo := some _) (hi := none) (mx := none) b x0.length c td41 sz48 (by decide) rfl (abnd_nat _ _) rfl rfl (fun h => by cases h) hb hc (Nat.le_refl _)) ?_
    have hsrc : ∀ v : AV, v = .vc p0 1 (if c = b then 0 else 0 + b * 1) (x0.length - b) (c - b) → srcC ty 41 1 σ v = some (x0.length - b, cL ((@eU .u64 64)) (x0.drop b)) := by
      intro v hv
      rw [hv, srcC_vc td41 h0 (by
        rw [hL]
        split
        · have : x0.length - b = 0 := by omega
          rw [this]; simp
        · have e2 : b * 1 + (x0.length - b) * 1 = x0.length * 1 := by rw [← Nat.add_mul]; congr 1; omega
          omega)]
      congr 2
      split
      · have : x0.length - b = 0 := by omega
        rw [this, Nat.zero_mul, List.take_zero, List.drop_of_length_le (by omega)]; rfl
      · rw [Nat.zero_add, cL_drop he.len, List.take_of_length_le]
        rw [cL_length he.len, List.length_drop]; exact Nat.le_refl _
    refine wpdS_s1 rfl rfl rfl (o_vcapp (off := 0) (m := a) (cap := c) (sz := 1) (k := x0.length - b) tk h0 hne td41 ty48 rfl rfl (hsrc _ rfl) (by omega) (by rw [hL]; have := Nat.mul_le_mul_right 1 (Nat.le_of_lt ha); omega)) ?_
    have e0 : (cL ((@eU .u64 64)) x0).take (0 + a * 1) = cL ((@eU .u64 64)) (x0.take a) := by rw [Nat.zero_add, cL_take he.len]
    have hl1 : (cL ((@eU .u64 64)) (x0.take a) ++ cL ((@eU .u64 64)) (x0.drop b)).length = (a + (x0.length - b)) * 1 := by rw [← cL_append, cL_length he.len, hrl]
    generalize hcs : List.take (0 + a * 1) (cL ((@eU .u64 64)) x0) ++ cL ((@eU .u64 64)) (x0.drop b) ++ List.drop (0 + a * 1 + (cL ((@eU .u64 64)) (x0.drop b)).length) (cL ((@eU .u64 64)) x0) = cs
    have h1 : cs.take ((a + (x0.length - b)) * 1) = cL ((@eU .u64 64)) (x0.take a ++ x0.drop b) := by
      rw [← hcs, e0, ← hl1, List.take_left' rfl, cL_append]
    have h2 : cs.length = x0.length * 1 := by
      rw [← hcs, e0, List.length_append, hl1, List.length_drop, hL, cL_length he.len, List.length_drop]
      have e3 : (a + (x0.length - b)) * 1 = a * 1 + (x0.length - b) * 1 := Nat.add_mul _ _ _
      have e4 : a * 1 + (x0.length - b) * 1 ≤ x0.length * 1 := by rw [← Nat.add_mul]; exact Nat.mul_le_mul_right _ (by omega)
      omega
    have h3 : cs ≠ [] := fun h => by rw [h] at h2; simp at h2; omega
    have h4 : (σ.objs.set p0 cs)[p0]? = some cs := by rw [List.getElem?_set]; simp [hlt]
    refine wpdS_mv (a := .vc p0 1 0 (a + (x0.length - b)) c) rfl rfl rfl (o_as tk rfl (Wk.refl _)) ?_
    refine wpdS_nil ?_
    repeat (refine awp_seq ?_)
    refine awp_region rfl ?_
    refine wpo_mv (a := .vc p0 1 0 (a + (x0.length - b)) c) rfl rfl rfl (o_mv tk rfl (Wk.refl _)) ?_
    refine wpo_mv (a := .vc p0 1 0 (a + (x0.length - b)) c) rfl rfl rfl (o_mv tk rfl (Wk.refl _)) ?_
    refine wpo_mv (a := eI ((a + (x0.length - b) : Nat) : Int)) rfl rfl rfl (o_vclen tk td41 rfl) ?_
    refine wpo_mv (a := eI (x0.length : Int)) rfl rfl rfl (o_mv tk rfl (Wk.refl _)) ?_
    refine wpo_mv (a := .vc p0 1 (if c = a + (x0.length - b) then 0 else 0 + (a + (x0.length - b)) * 1) (x0.length - (a + (x0.length - b))) (c - (a + (x0.length - b)))) rfl rfl rfl (o_vcs tk (lo := some _) (hi := some _) (mx := none) (a + (x0.length - b)) x0.length c td41 sz48 (by decide) rfl (abnd_nat _ _) (abnd_nat _ _) rfl (fun h => by cases h) (by omega) hc (Nat.le_refl _)) ?_
    refine wpo_s0 rfl rfl (o_vcclear tk h4 h3 td41 ty48 rfl rfl (by
      rw [if_neg (by omega), h2]
      have := Nat.mul_le_mul_right 1 (show a + (x0.length - b) ≤ x0.length by omega)
      omega)) ?_
    refine wpo_nil ?_
    repeat (refine awp_seq ?_)
    refine awp_region rfl ?_
    refine wpo_mv (a := .vc p0 1 0 (a + (x0.length - b)) c) rfl rfl rfl (o_mv tk rfl (Wk.refl _)) ?_
    refine wpo_mv (a := .vc p0 1 0 (a + (x0.length - b)) c) rfl rfl rfl (o_as tk rfl (Wk.refl _)) ?_
    refine wpo_nil ?_
    refine awp_ret ?_
    refine ⟨_, .vc p0 1 0 (a + (x0.length - b)) c, rfl, .of_eq rfl, by rw [hrl], _, ?_, ?_, hlt, by rw [List.set_set]⟩
    · intro h
      have h5 := congrArg List.length h
      rw [if_neg (by omega)] at h5
      simp only [List.length_append, List.length_take, List.length_nil] at h5
      rw [h2] at h5
      have h6 : 0 < (List.replicate (x0.length - (a + (x0.length - b))) (AV.int .u64 0)).length := by rw [List.length_replicate]; omega
      have h7 : (flat (List.replicate (x0.length - (a + (x0.length - b))) (AV.int .u64 0))).length = (x0.length - (a + (x0.length - b))) * 1 := by
        rw [flat_length (sz := 1) (fun y hy => by rw [(List.mem_replicate.1 hy).2]; rfl), List.length_replicate]
      have h8 : 0 < (x0.length - (a + (x0.length - b))) * 1 := Nat.mul_pos (by omega) (by decide)
      have h9 : (List.replicate (x0.length - (a + (x0.length - b))) (AV.int .u64 0)) = (List.replicate (x0.length - (a + (x0.length - b))) (AV.int .u64 0)) := rfl
      omega
    · rw [if_neg (by omega), Nat.zero_add, hrl, List.append_assoc, List.take_append_of_le_length (by rw [List.length_take, h2]; have := Nat.mul_le_mul_right 1 (show a + (x0.length - b) ≤ x0.length by omega); omega), List.take_take, Nat.min_self, h1]
end Go.Proofs.YthjabhcbkbchjaaDoor
namespace Go.Proofs.YthjabhcbkbchjaaDoor
open Go Go.Va
set_option linter.unusedVariables false
set_option linter.unusedSimpArgs false
set_option maxRecDepth 20000
theorem admit_Policy_Admit_ok {x0 : admit_Policy} {x1 : BitVec 64} {x2 : BitVec 8} {r : Bool × admit_Policy} (H : admit_Policy_Admit x0 x1 x2 = some r) (σ : St) {p0 : Nat} (h0 : σ.objs[p0]? = some (c_admit_Policy x0)) : ACall Tryd.prog 26 [(.ref p0 0), ((@eU .u64 64) x1), ((@eU .u8 8) x2)] σ (fun a τ => a = eB r.1 ∧ τ = σ.puts [(p0, (c_admit_Policy r.2))]) := by
  unfold admit_Policy_Admit at H
  refine ACall.out [(p0, (c_admit_Policy r.2))] (by simp only [List.mem_cons, List.not_mem_nil, or_false]; rintro _ (rfl) ρ κ <;> exact c_admit_Policy_cut ρ κ _) (acall_start tk Tryd.func26 (by decide) rfl (Nat.le_of_ble_eq_true rfl) ?_)
  have hH := Holds.init σ
  have hH := hH.bring h0 (fun _ h => by cases h)
  refine awp_seq ?_
  refine awp_region rfl ?_
  refine wpo_mv (a := (eB false)) rfl rfl rfl (o_as tk rfl (Wk.refl _)) ?_
  refine wpo_nil ?_
  refine awp_seq ?_
  refine awp_seq ?_
  refine awp_region rfl ?_
  refine wpo_mv (a := (.ref p0 0)) rfl rfl rfl (o_mv tk rfl (Wk.refl _)) ?_
  refine wpo_mv (a := (.ref p0 0)) rfl rfl rfl (o_c tk false rfl (fun _ => rfl)) ?_
  refine wpo_mv (a := (.ref p0 1)) rfl rfl rfl (o_c tk false rfl (fun _ => rfl)) ?_
  refine wpo_rd (a := (eI x0.limit)) rfl rfl rfl (h_ld tk hH 0 rfl (g_admit_Policy_limit _) rfl) ?_
  refine wpo_lt H eB rfl rfl rfl (o_ar tk rfl rfl rfl) fun v2 H1 => ?_
  refine wpo_nil ?_
  obtain ⟨o4, hs5, hj6⟩ := Option.bind_eq_some_iff.1 H1
  refine awp_cutn (fun fr τ => ∃ s3 : admit_Policy, o4 = .inl s3 ∧ WkF fr (fm [(0, (.ref p0 0)), (2, ((@eU .u8 8) x2))]) ∧ Holds σ [(p0, (c_admit_Policy s3))] [] τ) ?_ ?_
  · rintro fr τ ⟨s3, rfl, hfr, hH⟩
    have H29 := hj6
    simp only [Sum.elim_inl] at H29
    refine AWP.fm [(0, (.ref p0 0)), (2, ((@eU .u8 8) x2))] hfr ?_
    refine awp_seq ?_
    refine awp_region rfl ?_
    refine wpo_mv (a := ((@eU .u8 8) x2)) rfl rfl rfl (o_mv tk rfl (Wk.refl _)) ?_
    refine wpo_lt H29 eI rfl rfl rfl (o_cv_ui tk td5 td3 (by decide) rfl) fun v31 H30 => ?_
    refine wpo_mv (a := (.ref p0 0)) rfl rfl rfl (o_mv tk rfl (Wk.refl _)) ?_
    refine wpo_mv (a := (.ref p0 0)) rfl rfl rfl (o_c tk false rfl (fun _ => rfl)) ?_
    refine wpo_mv (a := (.ref p0 0)) rfl rfl rfl (o_c tk false rfl (fun _ => rfl)) ?_
    refine wpo_rd (a := (eI s3.chance)) rfl rfl rfl (h_ld tk hH 0 rfl (g_admit_Policy_chance _) rfl) ?_
    refine wpo_lt H30 eB rfl rfl rfl (o_ar tk rfl rfl rfl) fun v33 H32 => ?_
    refine wpo_mv (a := (eB v33)) rfl rfl rfl (o_as tk rfl (Wk.refl _)) ?_
    refine wpo_nil ?_
    refine awp_ret ?_
    obtain rfl := Option.some.inj H32
    exact ⟨_, (eB v33), rfl, (.of_eq rfl), .of_eq ((enc_b td4 sz4).cut _ _ _), hH.noT⟩
  · refine awp_if hs5 rfl (fun H7 => ?_) (fun H7 => ?_)
    · refine awp_seq ?_
      refine awp_region rfl ?_
      refine wpo_mv (a := (.ref p0 0)) rfl rfl rfl (o_mv tk rfl (Wk.refl _)) ?_
      obtain ⟨v9, hv10, H8⟩ := Option.bind_eq_some_iff.1 H7
      refine wpo_a (av := fun b => .vec b 1 (v9).length) rfl rfl rfl (h_callv hH (cL (@eU .u64 64) _) rfl rfl (.cons (.of_eq rfl) .nil) (admit_Policy_GhostsV_vec hv10 _ (hH.at_ 0 rfl))) fun id11 τ ⟨hH, n12⟩ => ?_
      refine wpo_mv (a := (.vec id11 1 (v9).length)) rfl rfl rfl (o_as tk rfl (Wk.refl _)) ?_
      refine wpo_nil ?_
      refine awp_seq ?_
      refine awp_region rfl ?_
      refine wpo_mv (a := (.vec id11 1 (v9).length)) rfl rfl rfl (o_mv tk rfl (Wk.refl _)) ?_
      refine wpo_mv (a := ((@eU .u64 64) x1)) rfl rfl rfl (o_mv tk rfl (Wk.refl _)) ?_
      refine wpo_bdr H8 eI rfl rfl rfl (fun v14 hv => OpS.borrow rfl rfl (.cons (.vecl hH 0 rfl rfl (enc_u td48 sz48) (fun _ => rfl)) (.cons (.wk (.of_eq rfl) ((fun _ => rfl) _)) .nil)) rfl (slices_Index_uint64_uint64_ok hv _)) fun v14 hv14 H13 => ?_
      refine wpo_mv (a := (eI v14)) rfl rfl rfl (o_as tk rfl (Wk.refl _)) ?_
      refine wpo_nil ?_
      refine awp_seq ?_
      refine awp_seq ?_
      refine awp_region rfl ?_
      refine wpo_mv (a := (eI v14)) rfl rfl rfl (o_mv tk rfl (Wk.refl _)) ?_
      refine wpo_lt H13 eB rfl rfl rfl (o_ar tk rfl rfl rfl) fun v16 H15 => ?_
      refine wpo_nil ?_
      refine awp_if H15 rfl (fun H17 => ?_) (fun H17 => ?_)
      · refine awp_seq ?_
        refine awp_region rfl ?_
        refine wpo_mv (a := (.ref p0 0)) rfl rfl rfl (o_mv tk rfl (Wk.refl _)) ?_
        refine wpo_mv (a := ((@eU .u64 64) x1)) rfl rfl rfl (o_mv tk rfl (Wk.refl _)) ?_
        refine wpo_cb H17 (fun x _ => .tup []) rfl rfl rfl (fun v19 hv => h_call1 hH [(1, (p0, (c_admit_Policy v19)))] ⟨⟨_, rfl⟩, trivial⟩ rfl rfl (.cons (.of_eq rfl) (.cons (.of_eq rfl) .nil)) (admit_Policy_push_ok hv _ (hH.at_ 1 rfl))) fun v19 _ τ hv19 H18 hH => ?_
        refine wpo_nil ?_
        refine awp_seq ?_
        refine awp_region rfl ?_
        refine wpo_mv (a := (eB false)) rfl rfl rfl (o_as tk rfl (Wk.refl _)) ?_
        refine wpo_nil ?_
        refine awp_ret ?_
        have e := Option.some.inj H18
        rw [← e] at hj6
        have H20 := (show some _ = some _ from hj6)
        obtain rfl := Option.some.inj H20
        exact ⟨_, (eB false), rfl, (.of_eq rfl), .of_eq ((enc_b td4 sz4).cut _ _ _), (hH.noT.drop n12)⟩
      · refine awp_skip ?_
        refine awp_region rfl ?_
        refine wpo_mv (a := (.ref p0 0)) rfl rfl rfl (o_mv tk rfl (Wk.refl _)) ?_
        refine wpo_mv (a := (.vec id11 1 (v9).length)) rfl rfl rfl (o_mv tk rfl (Wk.refl _)) ?_
        refine wpo_mv (a := (eI v14)) rfl rfl rfl (o_mv tk rfl (Wk.refl _)) ?_
        refine wpo_mv (a := (eI v14)) rfl rfl rfl (o_mv tk rfl (Wk.refl _)) ?_
        refine wpo_lt H17 eI rfl rfl rfl (o_ar tk rfl rfl rfl) fun v22 H21 => ?_
        obtain ⟨v24, hv25, H23⟩ := Option.bind_eq_some_iff.1 H21
        refine wpo_a (av := fun t => eT t 1 (@eU .u64 64) v24) rfl rfl rfl (h_calld hH 0 rfl n12 rfl rfl (.cons (.of_eq rfl) (.cons (.of_eq rfl) (.cons (.of_eq rfl) .nil))) (slices_Delete_uint64_uint64_ok hv25 _ (hH.at_ 0 rfl))) fun tk26 τ (hH : Holds σ [(p0, (c_admit_Policy x0))] [tk26] τ) => ?_
        refine wpo_cb H23 (fun x _ => .tup []) rfl rfl rfl (fun v28 hv => h_call1 hH [(0, (p0, (c_admit_Policy v28)))] ⟨⟨_, rfl⟩, trivial⟩ rfl rfl (.cons (.of_eq rfl) (.cons wk_no .nil)) (admit_Policy_keep_ok hv _ (hH.at_ 0 rfl))) fun v28 _ τ hv28 H27 hH => ?_
        refine wpo_nil ?_
        have e := Option.some.inj H27
        exact ⟨v28, e.symm, (wkf_cons (.of_eq rfl) (wkf_cons (.of_eq rfl) (wkf_nil _))), hH.noT⟩
    · refine awp_skip ?_
      have e := Option.some.inj H7
      exact ⟨x0, e.symm, (wkf_cons (.of_eq rfl) (wkf_cons (.of_eq rfl) (wkf_nil _))), hH⟩
end Go.Proofs.YthjabhcbkbchjaaDoor
namespace Go.Proofs.YthjabhcbkbchjaaDoor
open Go Go.Va
set_option linter.unusedVariables false
set_option linter.unusedSimpArgs false
set_option maxRecDepth 20000
theorem admit_Policy_Ghosts_ok {x0 : admit_Policy} {r : (List (BitVec 64))} (H : admit_Policy_Ghosts x0 = some r) (σ : St) {p0 : Nat} (h0 : σ.objs[p0]? = some (c_admit_Policy x0)) : ACall Tryd.prog 28 [(.ref p0 0)] σ (fun a τ => a = (eL 1 (@eU .u64 64)) r ∧ τ = σ) := by
  unfold admit_Policy_Ghosts at H
  refine ACall.pure (acall_start tk Tryd.func28 (by decide) rfl (Nat.le_of_ble_eq_true rfl) ?_)
  have hH := Holds.init σ
  have hH := hH.bring h0 (fun _ h => by cases h)
  refine awp_seq ?_
  refine awp_region rfl ?_
  refine wpo_mv (a := AV.nils) rfl rfl rfl (o_as tk rfl (Wk.refl _)) ?_
  refine wpo_nil ?_
  refine awp_seq ?_
  refine awp_region rfl ?_
  refine wpo_mv (a := AV.nils) rfl rfl rfl (o_as tk rfl (Wk.refl _)) ?_
  refine wpo_nil ?_
  refine awp_seq ?_
  refine awp_seq ?_
  refine awp_region rfl ?_
  refine wpo_mv (a := (.ref p0 0)) rfl rfl rfl (o_mv tk rfl (Wk.refl _)) ?_
  refine wpo_mv (a := (.ref p0 0)) rfl rfl rfl (o_c tk false rfl (fun _ => rfl)) ?_
  refine wpo_mv (a := (.ref p0 67)) rfl rfl rfl (o_c tk false rfl (fun _ => rfl)) ?_
  refine wpo_rd (a := (eI x0.count)) rfl rfl rfl (h_ld tk hH 0 rfl (g_admit_Policy_count _) rfl) ?_
  refine wpo_mv (a := (eI (0 : Int))) rfl rfl rfl (o_mv tk rfl (Wk.refl _)) ?_
  refine wpo_nil ?_
  refine awp_block ?_
  refine AWP.tokN hH 3 1 rfl fun tk3 τ hH => ?_
  obtain ⟨s11, hs5, hj6⟩ := Option.bind_eq_some_iff.1 H
  refine awp_cutx 0 (fun fr τ => ∃ tk_3, WkF fr (fm [(3, (eT tk_3 1 (@eU .u64 64) s11))]) ∧ Holds σ [(p0, (c_admit_Policy x0))] [tk_3] τ) ?_ ?_
  · rintro fr τ ⟨tk_3, hfr, hH⟩
    have H32 := hj6
    refine AWP.fm [(3, (eT tk_3 1 (@eU .u64 64) s11))] hfr ?_
    refine awp_seq ?_
    refine awp_region rfl ?_
    refine wpo_mv (a := (eT tk_3 1 (@eU .u64 64) s11)) rfl rfl rfl (o_mv tk rfl (Wk.refl _)) ?_
    refine wpo_mv (a := (eT tk_3 1 (@eU .u64 64) s11)) rfl rfl rfl (o_as tk rfl (Wk.refl _)) ?_
    refine wpo_nil ?_
    refine awp_ret ?_
    obtain rfl := Option.some.inj H32
    exact ⟨_, ((eL 1 (@eU .u64 64)) s11), rfl, wk_no, .of_eq ((enc_l td41 sz41 (enc_u td48 sz48).cut).cut _ _ _), (hH.noT.unbring h0)⟩
  · refine awp_loopO (body := fun s => admit_Policy_Ghosts_b0 x0 s.1 s.2) hs5 (fun (s : (List (BitVec 64)) × Int) fr τ => ∃ tk_3, WkF fr (fm [(0, (.ref p0 0)), (3, (eT tk_3 1 (@eU .u64 64) s.1)), (8, (eI x0.count)), (9, (eI s.2))]) ∧ Holds σ [(p0, (c_admit_Policy x0))] [tk_3] τ) ⟨tk3, (wkf_cons (.of_eq rfl) (wkf_cons (.of_eq rfl) (wkf_cons (.of_eq rfl) (wkf_cons (.of_eq rfl) (wkf_nil _))))), hH⟩ ?_
    rintro ⟨c1, c2⟩ fr τ y7 ⟨tk_3, hfr, hH⟩ hb9 hy10
    have H12 : admit_Policy_Ghosts_b0 x0 c1 c2 = some y7 := hb9
    unfold admit_Policy_Ghosts_b0 at H12
    refine AWP.fm [(0, (.ref p0 0)), (3, (eT tk_3 1 (@eU .u64 64) c1)), (8, (eI x0.count)), (9, (eI c2))] hfr ?_
    have hH : Holds σ [(p0, (c_admit_Policy x0))] [tk_3] τ := hH
    refine awp_seq ?_
    refine awp_region rfl ?_
    refine wpo_lt H12 eB rfl rfl rfl (o_ar tk rfl rfl rfl) fun v14 H13 => ?_
    refine wpo_nil ?_
    refine awp_seq ?_
    refine awp_if H13 rfl (fun H15 => ?_) (fun H15 => ?_)
    · refine awp_skip ?_
      refine awp_seq ?_
      refine awp_block ?_
      refine awp_seq ?_
      refine awp_region rfl ?_
      refine wpo_mv (a := (eI c2)) rfl rfl rfl (o_mv tk rfl (Wk.refl _)) ?_
      refine wpo_mv (a := (eI c2)) rfl rfl rfl (o_as tk rfl (Wk.refl _)) ?_
      refine wpo_nil ?_
      refine awp_drawS mixed [14] rfl (by decide +kernel) rfl rfl ?_
      refine wpdS_mv (a := (eT tk_3 1 (@eU .u64 64) c1)) rfl rfl rfl (o_mv tk rfl (Wk.refl _)) ?_
      refine wpdS_mv (a := (.ref p0 0)) rfl rfl rfl (o_mv tk rfl (Wk.refl _)) ?_
      refine wpdS_mv (a := (.ref p0 0)) rfl rfl rfl (o_mv tk rfl (Wk.refl _)) ?_
      refine wpdS_mv (a := (.ref p0 0)) rfl rfl rfl (o_c tk false rfl (fun _ => rfl)) ?_
      refine wpdS_mv (a := (.ref p0 66)) rfl rfl rfl (o_c tk false rfl (fun _ => rfl)) ?_
      refine wpdS_rd (a := (eI x0.first_)) rfl (by decide +kernel) rfl rfl (h_ld tk hH 0 rfl (g_admit_Policy_first_ _) rfl) ?_
      refine wpdS_mv (a := (eI c2)) rfl rfl rfl (o_mv tk rfl (Wk.refl _)) ?_
      refine wpdS_lt H15 eI rfl rfl rfl (o_ar tk rfl rfl rfl) fun v17 H16 => ?_
      refine wpdS_lt H16 eI rfl rfl rfl (o_rem tk (z := (64 : Int)) rfl rfl rfl) fun v19 H18 => ?_
      refine wpdS_mv (a := (.ref p0 0)) rfl rfl rfl (o_c tk false rfl (fun _ => rfl)) ?_
      refine wpdS_mv (a := (.ref p0 2)) rfl rfl rfl (o_c tk false rfl (fun _ => rfl)) ?_
      refine wpdS_bd H18 (fun _ => .ref p0 (2 + (v19 : Int).toNat * 1 + 0)) rfl rfl rfl (fun v21 hv => o_arrb tk hv td76 sz48 (by decide) rfl rfl) fun v21 hv21 H20 => ?_
      refine wpdS_bdr H20 (fun y => (@eU .u64 64) y) rfl (by decide +kernel) rfl rfl (fun v23 hv => h_ldb tk hH 0 hv rfl (sp_admit_Policy_ring _) (al_admit_Policy_ring _) (enc_u td48 sz48) (acut_enc (enc_u td48 sz48) rfl _) (by decide) rfl) fun v23 hv23 H22 => ?_
      refine wpdS_lt H22 (eF 1 (@eU .u64 64)) rfl rfl rfl (o_c tk false rfl (fun _ => rfl)) fun v25 H24 => ?_
      obtain ⟨v27, hv28, H26⟩ := Option.bind_eq_some_iff.1 H24
      refine wpdS_a (av := fun t => eT t 1 (@eU .u64 64) v27) rfl rfl rfl (h_app tk hH 0 hv28 rfl td41 ty48 rfl (by decide) rfl (src_l td41 rfl)) fun tk29 τ hH => ?_
      refine wpdS_mv (a := (eT tk29 1 (@eU .u64 64) v27)) rfl rfl rfl (o_as tk rfl (Wk.refl _)) ?_
      refine wpdS_nil ?_
      refine awp_region rfl ?_
      refine wpo_lt H26 eI rfl rfl rfl (o_ar tk rfl rfl rfl) fun v31 H30 => ?_
      refine wpo_mv (a := (eI v31)) rfl rfl rfl (o_mv tk rfl (Wk.refl _)) ?_
      refine wpo_nil ?_
      exact ⟨(v27, v31), inj_inl H30, tk29, (wkf_cons (.of_eq rfl) (wkf_cons (.of_eq rfl) (wkf_cons (.of_eq rfl) (wkf_cons (.of_eq rfl) (wkf_nil _))))), hH⟩
    · refine awp_exit ?_
      have hz := hy10 _ (inj_inr H15)
      subst hz
      exact ⟨⟨_, inj_inr H15⟩, tk_3, (wkf_cons (.of_eq rfl) (wkf_nil _)), hH⟩
end Go.Proofs.YthjabhcbkbchjaaDoor
namespace Go.Proofs.YthjabhcbkbchjaaDoor
open Go Go.Va
set_option linter.unusedVariables false
set_option linter.unusedSimpArgs false
set_option maxRecDepth 20000
theorem admit_Policy_Forget_ok {x0 : admit_Policy} {r : admit_Policy} (H : admit_Policy_Forget x0 = some r) (σ : St) {p0 : Nat} (h0 : σ.objs[p0]? = some (c_admit_Policy x0)) : ACall Tryd.prog 24 [(.ref p0 0)] σ (fun a τ => a = .tup [] ∧ τ = σ.puts [(p0, (c_admit_Policy r))]) := by
  unfold admit_Policy_Forget at H
  refine ACall.out [(p0, (c_admit_Policy r))] (by simp only [List.mem_cons, List.not_mem_nil, or_false]; rintro _ (rfl) ρ κ <;> exact c_admit_Policy_cut ρ κ _) (acall_start tk Tryd.func24 (by decide) rfl (Nat.le_of_ble_eq_true rfl) ?_)
  have hH := Holds.init σ
  have hH := hH.bring h0 (fun _ h => by cases h)
  refine awp_region rfl ?_
  refine wpo_mv (a := (.ref p0 0)) rfl rfl rfl (o_mv tk rfl (Wk.refl _)) ?_
  refine wpo_cb H (fun x _ => .tup []) rfl rfl rfl (fun v2 hv => h_call1 hH [(0, (p0, (c_admit_Policy v2)))] ⟨⟨_, rfl⟩, trivial⟩ rfl rfl (.cons (.of_eq rfl) (.cons (wk_nils _) .nil)) (admit_Policy_keep_ok hv _ (hH.at_ 0 rfl))) fun v2 _ τ hv2 H1 hH => ?_
  refine wpo_nil ?_
  obtain rfl := Option.some.inj H1
  exact ⟨_, (.tup []), rfl, (.of_eq rfl), .of_eq rfl, hH.noT⟩
end Go.Proofs.YthjabhcbkbchjaaDoor
namespace Go.Proofs.YthjabhcbkbchjaaDoor
open Go Go.Va
set_option linter.unusedVariables false
set_option linter.unusedSimpArgs false
set_option maxRecDepth 20000
theorem butterylaw18_admitted_ok {x0 : admit_Policy} {r : Bool × admit_Policy} (H : butterylaw18_admitted x0 = some r) (σ : St) {p0 : Nat} (h0 : σ.objs[p0]? = some (c_admit_Policy x0)) : ACall Tryd.prog 43 [(.ref p0 0)] σ (fun a τ => a = eB r.1 ∧ τ = σ.puts [(p0, (c_admit_Policy r.2))]) := by
  unfold butterylaw18_admitted at H
  refine ACall.out [(p0, (c_admit_Policy r.2))] (by simp only [List.mem_cons, List.not_mem_nil, or_false]; rintro _ (rfl) ρ κ <;> exact c_admit_Policy_cut ρ κ _) (acall_start tk Tryd.func43 (by decide) rfl (Nat.le_of_ble_eq_true rfl) ?_)
  have hH := Holds.init σ
  have hH := hH.bring h0 (fun _ h => by cases h)
  refine awp_seq ?_
  refine awp_region rfl ?_
  refine wpo_mv (a := (eB false)) rfl rfl rfl (o_as tk rfl (Wk.refl _)) ?_
  refine wpo_nil ?_
  refine awp_seq ?_
  refine awp_region rfl ?_
  refine wpo_mv (a := (.ref p0 0)) rfl rfl rfl (o_mv tk rfl (Wk.refl _)) ?_
  refine wpo_cb H (fun x _ => .tup []) rfl rfl rfl (fun v2 hv => h_call1 hH [(0, (p0, (c_admit_Policy v2)))] ⟨⟨_, rfl⟩, trivial⟩ rfl rfl (.cons (.of_eq rfl) .nil) (admit_Policy_Forget_ok hv _ (hH.at_ 0 rfl))) fun v2 _ τ hv2 H1 hH => ?_
  refine wpo_nil ?_
  refine awp_seq ?_
  refine awp_region rfl ?_
  refine wpo_mv (a := (.ref p0 0)) rfl rfl rfl (o_mv tk rfl (Wk.refl _)) ?_
  refine wpo_cb H1 (fun x _ => eB x.1) rfl rfl rfl (fun v4 hv => h_call1 hH [(0, (p0, (c_admit_Policy v4.2)))] ⟨⟨_, rfl⟩, trivial⟩ rfl rfl (.cons (.of_eq rfl) (.cons (.of_eq rfl) (.cons (.of_eq rfl) .nil))) (admit_Policy_Admit_ok hv _ (hH.at_ 0 rfl))) fun v4 _ τ hv4 H3 hH => ?_
  refine wpo_mv (a := (eB v4.1)) rfl rfl rfl (o_as tk rfl (Wk.refl _)) ?_
  refine wpo_nil ?_
  refine awp_ret ?_
  obtain rfl := Option.some.inj H3
  exact ⟨_, (eB v4.1), rfl, (.of_eq rfl), .of_eq ((enc_b td4 sz4).cut _ _ _), hH.noT⟩
end Go.Proofs.YthjabhcbkbchjaaDoor
namespace Go.Proofs.YthjabhcbkbchjaaDoor
open Go Go.Va
set_option linter.unusedVariables false
set_option linter.unusedSimpArgs false
set_option maxRecDepth 20000
theorem butterylaw18_works_ok  {r : Bool} (H : butterylaw18_works = some r) (σ : St)  (hg : σ.gl = gls) : ACall Tryd.prog 20 [] σ (fun a τ => a = eB r ∧ τ = σ) := by
  unfold butterylaw18_works at H
  refine ACall.pure (acall_start tk Tryd.func20 (by decide) rfl (Nat.le_of_ble_eq_true rfl) ?_)
  have hH := Holds.init σ
  refine awp_seq ?_
  refine awp_region rfl ?_
  refine wpo_mv (a := (eB false)) rfl rfl rfl (o_as tk rfl (Wk.refl _)) ?_
  refine wpo_nil ?_
  refine awp_seq ?_
  refine awp_region rfl ?_
  obtain ⟨v2, hvv2, H1⟩ := Option.bind_eq_some_iff.1 H
  rcases hz6 : v2.1 with _ | c3
  · rw [hz6, Option.elim_none] at H1
    refine wpo_a (av := fun _ => .tup [.nilp, (eErr v2.2)]) rfl rfl rfl (h_callno0 hH hz6 rfl rfl (.cons (.of_eq rfl) (.cons (.of_eq rfl) .nil)) (admit_New_ok hvv2 _)) fun _ τ hH => ?_
    refine wpo_mv (a := (.tup [.nilp, (eErr v2.2)])) rfl rfl rfl (o_mv tk rfl (Wk.refl _)) ?_
    refine wpo_mv (a := .nilp) rfl rfl rfl (o_ext tk rfl rfl) ?_
    refine wpo_mv (a := (eErr v2.2)) rfl rfl rfl (o_ext tk rfl rfl) ?_
    refine wpo_mv (a := .nilp) rfl rfl rfl (o_as tk rfl (Wk.refl _)) ?_
    refine wpo_mv (a := (eErr v2.2)) rfl rfl rfl (o_as tk rfl (Wk.refl _)) ?_
    refine wpo_nil ?_
    refine awp_seq ?_
    refine awp_region rfl ?_
    obtain ⟨v8, hvv8, H7⟩ := Option.bind_eq_some_iff.1 H1
    rcases hz12 : v8.1 with _ | c9
    · rw [hz12, Option.elim_none] at H7
      refine wpo_a (av := fun _ => .tup [.nilp, (eErr v8.2)]) rfl rfl rfl (h_callno0 hH hz12 rfl rfl (.cons (.of_eq rfl) (.cons (.of_eq rfl) .nil)) (admit_New_ok hvv8 _)) fun _ τ hH => ?_
      refine wpo_mv (a := (.tup [.nilp, (eErr v8.2)])) rfl rfl rfl (o_mv tk rfl (Wk.refl _)) ?_
      refine wpo_mv (a := .nilp) rfl rfl rfl (o_ext tk rfl rfl) ?_
      refine wpo_mv (a := (eErr v8.2)) rfl rfl rfl (o_ext tk rfl rfl) ?_
      refine wpo_mv (a := .nilp) rfl rfl rfl (o_as tk rfl (Wk.refl _)) ?_
      refine wpo_mv (a := (eErr v8.2)) rfl rfl rfl (o_as tk rfl (Wk.refl _)) ?_
      refine wpo_nil ?_
      refine awp_seq ?_
      refine awp_seq ?_
      refine awp_region rfl ?_
      refine wpo_mv (a := .nilp) rfl rfl rfl (o_mv tk rfl (Wk.refl _)) ?_
      refine wpo_mv (a := (eB true)) rfl rfl rfl (o_c tk false rfl (fun _ => rfl)) ?_
      refine wpo_mv (a := (eB true)) rfl rfl rfl (o_mv tk rfl (Wk.refl _)) ?_
      refine wpo_skip rfl rfl rfl ?_
      refine wpo_skip rfl rfl rfl ?_
      refine wpo_mv (a := (eB true)) rfl rfl rfl (o_pick_t tk rfl rfl (Wk.refl _)) ?_
      refine wpo_nil ?_
      refine awp_true rfl ?_
      refine awp_seq ?_
      refine awp_region rfl ?_
      refine wpo_mv (a := (eB false)) rfl rfl rfl (o_as tk rfl (Wk.refl _)) ?_
      refine wpo_nil ?_
      refine awp_ret ?_
      obtain rfl := Option.some.inj H7
      exact ⟨_, (eB false), rfl, (.of_eq rfl), .of_eq ((enc_b td4 sz4).cut _ _ _), hH.noT⟩
    · rw [hz12, Option.elim_some] at H7
      refine wpo_a (av := fun id => .tup [.ref id 0, (eErr v8.2)]) rfl rfl rfl (h_callno1 hH hz12 rfl rfl (.cons (.of_eq rfl) (.cons (.of_eq rfl) .nil)) (admit_New_ok hvv8 _)) fun id10 τ ⟨hH, n11⟩ => ?_
      refine wpo_mv (a := (.tup [(.ref id10 0), (eErr v8.2)])) rfl rfl rfl (o_mv tk rfl (Wk.refl _)) ?_
      refine wpo_mv (a := (.ref id10 0)) rfl rfl rfl (o_ext tk rfl rfl) ?_
      refine wpo_mv (a := (eErr v8.2)) rfl rfl rfl (o_ext tk rfl rfl) ?_
      refine wpo_mv (a := (.ref id10 0)) rfl rfl rfl (o_as tk rfl (Wk.refl _)) ?_
      refine wpo_mv (a := (eErr v8.2)) rfl rfl rfl (o_as tk rfl (Wk.refl _)) ?_
      refine wpo_nil ?_
      refine awp_seq ?_
      refine awp_seq ?_
      refine awp_region rfl ?_
      refine wpo_mv (a := .nilp) rfl rfl rfl (o_mv tk rfl (Wk.refl _)) ?_
      refine wpo_mv (a := (eB true)) rfl rfl rfl (o_c tk false rfl (fun _ => rfl)) ?_
      refine wpo_mv (a := (eB true)) rfl rfl rfl (o_mv tk rfl (Wk.refl _)) ?_
      refine wpo_skip rfl rfl rfl ?_
      refine wpo_skip rfl rfl rfl ?_
      refine wpo_mv (a := (eB true)) rfl rfl rfl (o_pick_t tk rfl rfl (Wk.refl _)) ?_
      refine wpo_nil ?_
      refine awp_true rfl ?_
      refine awp_seq ?_
      refine awp_region rfl ?_
      refine wpo_mv (a := (eB false)) rfl rfl rfl (o_as tk rfl (Wk.refl _)) ?_
      refine wpo_nil ?_
      refine awp_ret ?_
      obtain rfl := Option.some.inj H7
      exact ⟨_, (eB false), rfl, (.of_eq rfl), .of_eq ((enc_b td4 sz4).cut _ _ _), (hH.noT.drop n11)⟩
  · rw [hz6, Option.elim_some] at H1
    refine wpo_a (av := fun id => .tup [.ref id 0, (eErr v2.2)]) rfl rfl rfl (h_callno1 hH hz6 rfl rfl (.cons (.of_eq rfl) (.cons (.of_eq rfl) .nil)) (admit_New_ok hvv2 _)) fun id4 τ ⟨hH, n5⟩ => ?_
    refine wpo_mv (a := (.tup [(.ref id4 0), (eErr v2.2)])) rfl rfl rfl (o_mv tk rfl (Wk.refl _)) ?_
    refine wpo_mv (a := (.ref id4 0)) rfl rfl rfl (o_ext tk rfl rfl) ?_
    refine wpo_mv (a := (eErr v2.2)) rfl rfl rfl (o_ext tk rfl rfl) ?_
    refine wpo_mv (a := (.ref id4 0)) rfl rfl rfl (o_as tk rfl (Wk.refl _)) ?_
    refine wpo_mv (a := (eErr v2.2)) rfl rfl rfl (o_as tk rfl (Wk.refl _)) ?_
    refine wpo_nil ?_
    refine awp_seq ?_
    refine awp_region rfl ?_
    obtain ⟨v14, hvv14, H13⟩ := Option.bind_eq_some_iff.1 H1
    rcases hz18 : v14.1 with _ | c15
    · rw [hz18, Option.elim_none] at H13
      refine wpo_a (av := fun _ => .tup [.nilp, (eErr v14.2)]) rfl rfl rfl (h_callno0 hH hz18 rfl rfl (.cons (.of_eq rfl) (.cons (.of_eq rfl) .nil)) (admit_New_ok hvv14 _)) fun _ τ hH => ?_
      refine wpo_mv (a := (.tup [.nilp, (eErr v14.2)])) rfl rfl rfl (o_mv tk rfl (Wk.refl _)) ?_
      refine wpo_mv (a := .nilp) rfl rfl rfl (o_ext tk rfl rfl) ?_
      refine wpo_mv (a := (eErr v14.2)) rfl rfl rfl (o_ext tk rfl rfl) ?_
      refine wpo_mv (a := .nilp) rfl rfl rfl (o_as tk rfl (Wk.refl _)) ?_
      refine wpo_mv (a := (eErr v14.2)) rfl rfl rfl (o_as tk rfl (Wk.refl _)) ?_
      refine wpo_nil ?_
      refine awp_seq ?_
      refine awp_seq ?_
      refine awp_region rfl ?_
      refine wpo_mv (a := (.ref id4 0)) rfl rfl rfl (o_mv tk rfl (Wk.refl _)) ?_
      refine wpo_mv (a := (eB false)) rfl rfl rfl (o_c tk false rfl (fun _ => rfl)) ?_
      refine wpo_mv (a := (eB false)) rfl rfl rfl (o_mv tk rfl (Wk.refl _)) ?_
      refine wpo_mv (a := (eErr v2.2)) rfl rfl rfl (o_mv tk rfl (Wk.refl _)) ?_
      refine wpo_lt H13 eB rfl rfl rfl (o_err_neq tk rfl rfl rfl) fun v20 H19 => ?_
      refine wpo_mv (a := (eB v20)) rfl rfl rfl (o_pick_f tk rfl rfl (Wk.refl _)) ?_
      refine wpo_nil ?_
      refine awp_if H19 rfl (fun H21 => ?_) (fun H21 => ?_)
      · refine awp_seq ?_
        refine awp_region rfl ?_
        refine wpo_mv (a := (eB false)) rfl rfl rfl (o_as tk rfl (Wk.refl _)) ?_
        refine wpo_nil ?_
        refine awp_ret ?_
        obtain rfl := Option.some.inj H21
        exact ⟨_, (eB false), rfl, (.of_eq rfl), .of_eq ((enc_b td4 sz4).cut _ _ _), (hH.noT.drop n5)⟩
      · refine awp_skip ?_
        refine awp_seq ?_
        refine awp_region rfl ?_
        refine wpo_mv (a := (.ref id4 0)) rfl rfl rfl (o_mv tk rfl (Wk.refl _)) ?_
        refine wpo_cb H21 (fun x _ => eB x.1) rfl rfl rfl (fun v23 hv => h_call1 hH [(0, (id4, (c_admit_Policy v23.2)))] ⟨⟨_, rfl⟩, trivial⟩ rfl rfl (.cons (.of_eq rfl) (.cons (.of_eq rfl) (.cons (.of_eq rfl) .nil))) (admit_Policy_Admit_ok hv _ (hH.at_ 0 rfl))) fun v23 _ τ hv23 H22 hH => ?_
        refine wpo_mv (a := (.ref id4 0)) rfl rfl rfl (o_mv tk rfl (Wk.refl _)) ?_
        refine wpo_cb H22 (fun x _ => eB x.1) rfl rfl rfl (fun v25 hv => h_call1 hH [(0, (id4, (c_admit_Policy v25.2)))] ⟨⟨_, rfl⟩, trivial⟩ rfl rfl (.cons (.of_eq rfl) (.cons (.of_eq rfl) (.cons (.of_eq rfl) .nil))) (admit_Policy_Admit_ok hv _ (hH.at_ 0 rfl))) fun v25 _ τ hv25 H24 hH => ?_
        refine wpo_mv (a := (.ref id4 0)) rfl rfl rfl (o_mv tk rfl (Wk.refl _)) ?_
        refine wpo_cb H24 (fun x _ => eB x.1) rfl rfl rfl (fun v27 hv => h_call1 hH [(0, (id4, (c_admit_Policy v27.2)))] ⟨⟨_, rfl⟩, trivial⟩ rfl rfl (.cons (.of_eq rfl) (.cons (.of_eq rfl) (.cons (.of_eq rfl) .nil))) (admit_Policy_Admit_ok hv _ (hH.at_ 0 rfl))) fun v27 _ τ hv27 H26 hH => ?_
        refine wpo_mv (a := (eB v23.1)) rfl rfl rfl (o_as tk rfl (Wk.refl _)) ?_
        refine wpo_mv (a := (eB v25.1)) rfl rfl rfl (o_as tk rfl (Wk.refl _)) ?_
        refine wpo_mv (a := (eB v27.1)) rfl rfl rfl (o_as tk rfl (Wk.refl _)) ?_
        refine wpo_nil ?_
        refine awp_seq ?_
        refine awp_region rfl ?_
        refine wpo_mv (a := (.ref id4 0)) rfl rfl rfl (o_mv tk rfl (Wk.refl _)) ?_
        refine wpo_cb H26 (fun x _ => eB x.1) rfl rfl rfl (fun v29 hv => h_call1 hH [(0, (id4, (c_admit_Policy v29.2)))] ⟨⟨_, rfl⟩, trivial⟩ rfl rfl (.cons (.of_eq rfl) (.cons (.of_eq rfl) (.cons (.of_eq rfl) .nil))) (admit_Policy_Admit_ok hv _ (hH.at_ 0 rfl))) fun v29 _ τ hv29 H28 hH => ?_
        refine wpo_nil ?_
        refine awp_seq ?_
        refine awp_region rfl ?_
        refine wpo_mv (a := (.ref id4 0)) rfl rfl rfl (o_mv tk rfl (Wk.refl _)) ?_
        refine wpo_cb H28 (fun x _ => eB x.1) rfl rfl rfl (fun v31 hv => h_call1 hH [(0, (id4, (c_admit_Policy v31.2)))] ⟨⟨_, rfl⟩, trivial⟩ rfl rfl (.cons (.of_eq rfl) (.cons (.of_eq rfl) (.cons (.of_eq rfl) .nil))) (admit_Policy_Admit_ok hv _ (hH.at_ 0 rfl))) fun v31 _ τ hv31 H30 hH => ?_
        refine wpo_nil ?_
        refine awp_seq ?_
        refine awp_region rfl ?_
        refine wpo_mv (a := (eErr v14.2)) rfl rfl rfl (o_mv tk rfl (Wk.refl _)) ?_
        refine wpo_bdr H30 eI rfl rfl rfl (fun v33 hv => h_callr rfl rfl (.cons (.of_eq rfl) .nil) (trouble_Of_ok hv _ (hH.gl.trans hg))) fun v33 hv33 H32 => ?_
        refine wpo_lt H32 eB rfl rfl rfl (o_ar tk rfl rfl rfl) fun v35 H34 => ?_
        refine wpo_mv (a := (eB v35)) rfl rfl rfl (o_mv tk rfl (Wk.refl _)) ?_
        refine if_split H34 (fun hb H36 => ?_) (fun hb H36 => ?_)
        · subst hb
          refine wpo_mv (a := (eB v23.1)) rfl rfl rfl (o_mv tk rfl (Wk.refl _)) ?_
          refine wpo_lt H36 eB rfl rfl rfl (o_un tk rfl rfl) fun v38 H37 => ?_
          refine wpo_mv (a := (eB v38)) rfl rfl rfl (o_pick_t tk rfl rfl (Wk.refl _)) ?_
          refine wpo_mv (a := (eB v38)) rfl rfl rfl (o_mv tk rfl (Wk.refl _)) ?_
          refine if_split H37 (fun hb H39 => ?_) (fun hb H39 => ?_)
          · subst hb
            refine wpo_mv (a := (eB v25.1)) rfl rfl rfl (o_mv tk rfl (Wk.refl _)) ?_
            refine wpo_mv (a := (eB v25.1)) rfl rfl rfl (o_pick_t tk rfl rfl (Wk.refl _)) ?_
            refine wpo_mv (a := (eB v25.1)) rfl rfl rfl (o_mv tk rfl (Wk.refl _)) ?_
            refine if_split H39 (fun hb H40 => ?_) (fun hb H40 => ?_)
            · rw [hb]
              refine wpo_mv (a := (eB v27.1)) rfl rfl rfl (o_mv tk rfl (Wk.refl _)) ?_
              refine wpo_lt H40 eB rfl rfl rfl (o_un tk rfl rfl) fun v42 H41 => ?_
              refine wpo_mv (a := (eB v42)) rfl rfl rfl (o_pick_t tk rfl rfl (Wk.refl _)) ?_
              refine wpo_mv (a := (eB v42)) rfl rfl rfl (o_mv tk rfl (Wk.refl _)) ?_
              refine if_split H41 (fun hb H43 => ?_) (fun hb H43 => ?_)
              · subst hb
                refine wpo_mv (a := (.ref id4 0)) rfl rfl rfl (o_mv tk rfl (Wk.refl _)) ?_
                refine wpo_bdr H43 (eL 1 (@eU .u64 64)) rfl rfl rfl (fun v45 hv => h_callr rfl rfl (.cons (.of_eq rfl) .nil) (admit_Policy_Ghosts_ok hv _ (hH.at_ 0 rfl))) fun v45 hv45 H44 => ?_
                refine wpo_lt H44 eI rfl rfl rfl (o_len tk td41 rfl) fun v47 H46 => ?_
                refine wpo_lt H46 eB rfl rfl rfl (o_ar tk rfl rfl rfl) fun v49 H48 => ?_
                refine wpo_mv (a := (eB v49)) rfl rfl rfl (o_pick_t tk rfl rfl (Wk.refl _)) ?_
                refine wpo_mv (a := (eB v49)) rfl rfl rfl (o_mv tk rfl (Wk.refl _)) ?_
                refine if_split H48 (fun hb H50 => ?_) (fun hb H50 => ?_)
                · subst hb
                  refine wpo_mv (a := (.ref id4 0)) rfl rfl rfl (o_mv tk rfl (Wk.refl _)) ?_
                  refine wpo_cb H50 (fun x _ => eB x.1) rfl rfl rfl (fun v52 hv => h_call1 hH [(0, (id4, (c_admit_Policy v52.2)))] ⟨⟨_, rfl⟩, trivial⟩ rfl rfl (.cons (.of_eq rfl) (.cons (.of_eq rfl) (.cons (.of_eq rfl) .nil))) (admit_Policy_Admit_ok hv _ (hH.at_ 0 rfl))) fun v52 _ τ hv52 H51 hH => ?_
                  refine wpo_lt H51 eB rfl rfl rfl (o_un tk rfl rfl) fun v54 H53 => ?_
                  refine wpo_mv (a := (eB v54)) rfl rfl rfl (o_pick_t tk rfl rfl (Wk.refl _)) ?_
                  refine wpo_mv (a := (eB v54)) rfl rfl rfl (o_mv tk rfl (Wk.refl _)) ?_
                  refine if_split H53 (fun hb H55 => ?_) (fun hb H55 => ?_)
                  · subst hb
                    refine wpo_mv (a := (.ref id4 0)) rfl rfl rfl (o_mv tk rfl (Wk.refl _)) ?_
                    refine wpo_cb H55 (fun x _ => eB x.1) rfl rfl rfl (fun v57 hv => h_call1 hH [(0, (id4, (c_admit_Policy v57.2)))] ⟨⟨_, rfl⟩, trivial⟩ rfl rfl (.cons (.of_eq rfl) (.cons (.of_eq rfl) (.cons (.of_eq rfl) .nil))) (admit_Policy_Admit_ok hv _ (hH.at_ 0 rfl))) fun v57 _ τ hv57 H56 hH => ?_
                    refine wpo_mv (a := (eB v57.1)) rfl rfl rfl (o_pick_t tk rfl rfl (Wk.refl _)) ?_
                    refine wpo_mv (a := (eB v57.1)) rfl rfl rfl (o_mv tk rfl (Wk.refl _)) ?_
                    refine if_split H56 (fun hb H58 => ?_) (fun hb H58 => ?_)
                    · rw [hb]
                      refine wpo_mv (a := (.ref id4 0)) rfl rfl rfl (o_mv tk rfl (Wk.refl _)) ?_
                      refine wpo_cb H58 (fun x _ => eB x.1) rfl rfl rfl (fun v60 hv => h_call1 hH [(0, (id4, (c_admit_Policy v60.2)))] ⟨⟨_, rfl⟩, trivial⟩ rfl rfl (.cons (.of_eq rfl) .nil) (butterylaw18_admitted_ok hv _ (hH.at_ 0 rfl))) fun v60 _ τ hv60 H59 hH => ?_
                      refine wpo_lt H59 eB rfl rfl rfl (o_un tk rfl rfl) fun v62 H61 => ?_
                      refine wpo_mv (a := (eB v62)) rfl rfl rfl (o_pick_t tk rfl rfl (Wk.refl _)) ?_
                      refine wpo_mv (a := (eB v62)) rfl rfl rfl (o_as tk rfl (Wk.refl _)) ?_
                      refine wpo_nil ?_
                      refine awp_ret ?_
                      obtain rfl := Option.some.inj H61
                      exact ⟨_, (eB v62), rfl, (.of_eq rfl), .of_eq ((enc_b td4 sz4).cut _ _ _), (hH.noT.drop n5)⟩
                    · rw [hb]
                      refine wpo_skip rfl rfl rfl ?_
                      refine wpo_skip rfl rfl rfl ?_
                      refine wpo_skip rfl rfl rfl ?_
                      refine wpo_mv (a := (eB false)) rfl rfl rfl (o_pick_f tk rfl rfl (Wk.refl _)) ?_
                      refine wpo_mv (a := (eB false)) rfl rfl rfl (o_as tk rfl (Wk.refl _)) ?_
                      refine wpo_nil ?_
                      refine awp_ret ?_
                      obtain rfl := Option.some.inj H58
                      exact ⟨_, (eB false), rfl, (.of_eq rfl), .of_eq ((enc_b td4 sz4).cut _ _ _), (hH.noT.drop n5)⟩
                  · subst hb
                    refine wpo_skip rfl rfl rfl ?_
                    refine wpo_skip rfl rfl rfl ?_
                    refine wpo_mv (a := (eB false)) rfl rfl rfl (o_pick_f tk rfl rfl (Wk.refl _)) ?_
                    refine wpo_mv (a := (eB false)) rfl rfl rfl (o_mv tk rfl (Wk.refl _)) ?_
                    refine wpo_skip rfl rfl rfl ?_
                    refine wpo_skip rfl rfl rfl ?_
                    refine wpo_skip rfl rfl rfl ?_
                    refine wpo_mv (a := (eB false)) rfl rfl rfl (o_pick_f tk rfl rfl (Wk.refl _)) ?_
                    refine wpo_mv (a := (eB false)) rfl rfl rfl (o_as tk rfl (Wk.refl _)) ?_
                    refine wpo_nil ?_
                    refine awp_ret ?_
                    obtain rfl := Option.some.inj H55
                    exact ⟨_, (eB false), rfl, (.of_eq rfl), .of_eq ((enc_b td4 sz4).cut _ _ _), (hH.noT.drop n5)⟩
                · subst hb
                  refine wpo_skip rfl rfl rfl ?_
                  refine wpo_skip rfl rfl rfl ?_
                  refine wpo_skip rfl rfl rfl ?_
                  refine wpo_mv (a := (eB false)) rfl rfl rfl (o_pick_f tk rfl rfl (Wk.refl _)) ?_
                  refine wpo_mv (a := (eB false)) rfl rfl rfl (o_mv tk rfl (Wk.refl _)) ?_
                  refine wpo_skip rfl rfl rfl ?_
                  refine wpo_skip rfl rfl rfl ?_
                  refine wpo_mv (a := (eB false)) rfl rfl rfl (o_pick_f tk rfl rfl (Wk.refl _)) ?_
                  refine wpo_mv (a := (eB false)) rfl rfl rfl (o_mv tk rfl (Wk.refl _)) ?_
                  refine wpo_skip rfl rfl rfl ?_
                  refine wpo_skip rfl rfl rfl ?_
                  refine wpo_skip rfl rfl rfl ?_
                  refine wpo_mv (a := (eB false)) rfl rfl rfl (o_pick_f tk rfl rfl (Wk.refl _)) ?_
                  refine wpo_mv (a := (eB false)) rfl rfl rfl (o_as tk rfl (Wk.refl _)) ?_
                  refine wpo_nil ?_
                  refine awp_ret ?_
                  obtain rfl := Option.some.inj H50
                  exact ⟨_, (eB false), rfl, (.of_eq rfl), .of_eq ((enc_b td4 sz4).cut _ _ _), (hH.noT.drop n5)⟩
              · subst hb
                refine wpo_skip rfl rfl rfl ?_
                refine wpo_skip rfl rfl rfl ?_
                refine wpo_skip rfl rfl rfl ?_
                refine wpo_skip rfl rfl rfl ?_
                refine wpo_mv (a := (eB false)) rfl rfl rfl (o_pick_f tk rfl rfl (Wk.refl _)) ?_
                refine wpo_mv (a := (eB false)) rfl rfl rfl (o_mv tk rfl (Wk.refl _)) ?_
                refine wpo_skip rfl rfl rfl ?_
                refine wpo_skip rfl rfl rfl ?_
                refine wpo_skip rfl rfl rfl ?_
                refine wpo_mv (a := (eB false)) rfl rfl rfl (o_pick_f tk rfl rfl (Wk.refl _)) ?_
                refine wpo_mv (a := (eB false)) rfl rfl rfl (o_mv tk rfl (Wk.refl _)) ?_
                refine wpo_skip rfl rfl rfl ?_
                refine wpo_skip rfl rfl rfl ?_
                refine wpo_mv (a := (eB false)) rfl rfl rfl (o_pick_f tk rfl rfl (Wk.refl _)) ?_
                refine wpo_mv (a := (eB false)) rfl rfl rfl (o_mv tk rfl (Wk.refl _)) ?_
                refine wpo_skip rfl rfl rfl ?_
                refine wpo_skip rfl rfl rfl ?_
                refine wpo_skip rfl rfl rfl ?_
                refine wpo_mv (a := (eB false)) rfl rfl rfl (o_pick_f tk rfl rfl (Wk.refl _)) ?_
                refine wpo_mv (a := (eB false)) rfl rfl rfl (o_as tk rfl (Wk.refl _)) ?_
                refine wpo_nil ?_
                refine awp_ret ?_
                obtain rfl := Option.some.inj H43
                exact ⟨_, (eB false), rfl, (.of_eq rfl), .of_eq ((enc_b td4 sz4).cut _ _ _), (hH.noT.drop n5)⟩
            · rw [hb]
              refine wpo_skip rfl rfl rfl ?_
              refine wpo_skip rfl rfl rfl ?_
              refine wpo_mv (a := (eB false)) rfl rfl rfl (o_pick_f tk rfl rfl (Wk.refl _)) ?_
              refine wpo_mv (a := (eB false)) rfl rfl rfl (o_mv tk rfl (Wk.refl _)) ?_
              refine wpo_skip rfl rfl rfl ?_
              refine wpo_skip rfl rfl rfl ?_
              refine wpo_skip rfl rfl rfl ?_
              refine wpo_skip rfl rfl rfl ?_
              refine wpo_mv (a := (eB false)) rfl rfl rfl (o_pick_f tk rfl rfl (Wk.refl _)) ?_
              refine wpo_mv (a := (eB false)) rfl rfl rfl (o_mv tk rfl (Wk.refl _)) ?_
              refine wpo_skip rfl rfl rfl ?_
              refine wpo_skip rfl rfl rfl ?_
              refine wpo_skip rfl rfl rfl ?_
              refine wpo_mv (a := (eB false)) rfl rfl rfl (o_pick_f tk rfl rfl (Wk.refl _)) ?_
              refine wpo_mv (a := (eB false)) rfl rfl rfl (o_mv tk rfl (Wk.refl _)) ?_
              refine wpo_skip rfl rfl rfl ?_
              refine wpo_skip rfl rfl rfl ?_
              refine wpo_mv (a := (eB false)) rfl rfl rfl (o_pick_f tk rfl rfl (Wk.refl _)) ?_
              refine wpo_mv (a := (eB false)) rfl rfl rfl (o_mv tk rfl (Wk.refl _)) ?_
              refine wpo_skip rfl rfl rfl ?_
              refine wpo_skip rfl rfl rfl ?_
              refine wpo_skip rfl rfl rfl ?_
              refine wpo_mv (a := (eB false)) rfl rfl rfl (o_pick_f tk rfl rfl (Wk.refl _)) ?_
              refine wpo_mv (a := (eB false)) rfl rfl rfl (o_as tk rfl (Wk.refl _)) ?_
              refine wpo_nil ?_
              refine awp_ret ?_
              obtain rfl := Option.some.inj H40
              exact ⟨_, (eB false), rfl, (.of_eq rfl), .of_eq ((enc_b td4 sz4).cut _ _ _), (hH.noT.drop n5)⟩
          · subst hb
            refine wpo_skip rfl rfl rfl ?_
            refine wpo_mv (a := (eB false)) rfl rfl rfl (o_pick_f tk rfl rfl (Wk.refl _)) ?_
            refine wpo_mv (a := (eB false)) rfl rfl rfl (o_mv tk rfl (Wk.refl _)) ?_
            refine wpo_skip rfl rfl rfl ?_
            refine wpo_skip rfl rfl rfl ?_
            refine wpo_mv (a := (eB false)) rfl rfl rfl (o_pick_f tk rfl rfl (Wk.refl _)) ?_
            refine wpo_mv (a := (eB false)) rfl rfl rfl (o_mv tk rfl (Wk.refl _)) ?_
            refine wpo_skip rfl rfl rfl ?_
            refine wpo_skip rfl rfl rfl ?_
            refine wpo_skip rfl rfl rfl ?_
            refine wpo_skip rfl rfl rfl ?_
            refine wpo_mv (a := (eB false)) rfl rfl rfl (o_pick_f tk rfl rfl (Wk.refl _)) ?_
            refine wpo_mv (a := (eB false)) rfl rfl rfl (o_mv tk rfl (Wk.refl _)) ?_
            refine wpo_skip rfl rfl rfl ?_
            refine wpo_skip rfl rfl rfl ?_
            refine wpo_skip rfl rfl rfl ?_
            refine wpo_mv (a := (eB false)) rfl rfl rfl (o_pick_f tk rfl rfl (Wk.refl _)) ?_
            refine wpo_mv (a := (eB false)) rfl rfl rfl (o_mv tk rfl (Wk.refl _)) ?_
            refine wpo_skip rfl rfl rfl ?_
            refine wpo_skip rfl rfl rfl ?_
            refine wpo_mv (a := (eB false)) rfl rfl rfl (o_pick_f tk rfl rfl (Wk.refl _)) ?_
            refine wpo_mv (a := (eB false)) rfl rfl rfl (o_mv tk rfl (Wk.refl _)) ?_
            refine wpo_skip rfl rfl rfl ?_
            refine wpo_skip rfl rfl rfl ?_
            refine wpo_skip rfl rfl rfl ?_
            refine wpo_mv (a := (eB false)) rfl rfl rfl (o_pick_f tk rfl rfl (Wk.refl _)) ?_
            refine wpo_mv (a := (eB false)) rfl rfl rfl (o_as tk rfl (Wk.refl _)) ?_
            refine wpo_nil ?_
            refine awp_ret ?_
            obtain rfl := Option.some.inj H39
            exact ⟨_, (eB false), rfl, (.of_eq rfl), .of_eq ((enc_b td4 sz4).cut _ _ _), (hH.noT.drop n5)⟩
        · subst hb
          refine wpo_skip rfl rfl rfl ?_
          refine wpo_skip rfl rfl rfl ?_
          refine wpo_mv (a := (eB false)) rfl rfl rfl (o_pick_f tk rfl rfl (Wk.refl _)) ?_
          refine wpo_mv (a := (eB false)) rfl rfl rfl (o_mv tk rfl (Wk.refl _)) ?_
          refine wpo_skip rfl rfl rfl ?_
          refine wpo_mv (a := (eB false)) rfl rfl rfl (o_pick_f tk rfl rfl (Wk.refl _)) ?_
          refine wpo_mv (a := (eB false)) rfl rfl rfl (o_mv tk rfl (Wk.refl _)) ?_
          refine wpo_skip rfl rfl rfl ?_
          refine wpo_skip rfl rfl rfl ?_
          refine wpo_mv (a := (eB false)) rfl rfl rfl (o_pick_f tk rfl rfl (Wk.refl _)) ?_
          refine wpo_mv (a := (eB false)) rfl rfl rfl (o_mv tk rfl (Wk.refl _)) ?_
          refine wpo_skip rfl rfl rfl ?_
          refine wpo_skip rfl rfl rfl ?_
          refine wpo_skip rfl rfl rfl ?_
          refine wpo_skip rfl rfl rfl ?_
          refine wpo_mv (a := (eB false)) rfl rfl rfl (o_pick_f tk rfl rfl (Wk.refl _)) ?_
          refine wpo_mv (a := (eB false)) rfl rfl rfl (o_mv tk rfl (Wk.refl _)) ?_
          refine wpo_skip rfl rfl rfl ?_
          refine wpo_skip rfl rfl rfl ?_
          refine wpo_skip rfl rfl rfl ?_
          refine wpo_mv (a := (eB false)) rfl rfl rfl (o_pick_f tk rfl rfl (Wk.refl _)) ?_
          refine wpo_mv (a := (eB false)) rfl rfl rfl (o_mv tk rfl (Wk.refl _)) ?_
          refine wpo_skip rfl rfl rfl ?_
          refine wpo_skip rfl rfl rfl ?_
          refine wpo_mv (a := (eB false)) rfl rfl rfl (o_pick_f tk rfl rfl (Wk.refl _)) ?_
          refine wpo_mv (a := (eB false)) rfl rfl rfl (o_mv tk rfl (Wk.refl _)) ?_
          refine wpo_skip rfl rfl rfl ?_
          refine wpo_skip rfl rfl rfl ?_
          refine wpo_skip rfl rfl rfl ?_
          refine wpo_mv (a := (eB false)) rfl rfl rfl (o_pick_f tk rfl rfl (Wk.refl _)) ?_
          refine wpo_mv (a := (eB false)) rfl rfl rfl (o_as tk rfl (Wk.refl _)) ?_
          refine wpo_nil ?_
          refine awp_ret ?_
          obtain rfl := Option.some.inj H36
          exact ⟨_, (eB false), rfl, (.of_eq rfl), .of_eq ((enc_b td4 sz4).cut _ _ _), (hH.noT.drop n5)⟩
    · rw [hz18, Option.elim_some] at H13
      refine wpo_a (av := fun id => .tup [.ref id 0, (eErr v14.2)]) rfl rfl rfl (h_callno1 hH hz18 rfl rfl (.cons (.of_eq rfl) (.cons (.of_eq rfl) .nil)) (admit_New_ok hvv14 _)) fun id16 τ ⟨hH, n17⟩ => ?_
      refine wpo_mv (a := (.tup [(.ref id16 0), (eErr v14.2)])) rfl rfl rfl (o_mv tk rfl (Wk.refl _)) ?_
      refine wpo_mv (a := (.ref id16 0)) rfl rfl rfl (o_ext tk rfl rfl) ?_
      refine wpo_mv (a := (eErr v14.2)) rfl rfl rfl (o_ext tk rfl rfl) ?_
      refine wpo_mv (a := (.ref id16 0)) rfl rfl rfl (o_as tk rfl (Wk.refl _)) ?_
      refine wpo_mv (a := (eErr v14.2)) rfl rfl rfl (o_as tk rfl (Wk.refl _)) ?_
      refine wpo_nil ?_
      refine awp_seq ?_
      refine awp_seq ?_
      refine awp_region rfl ?_
      refine wpo_mv (a := (.ref id4 0)) rfl rfl rfl (o_mv tk rfl (Wk.refl _)) ?_
      refine wpo_mv (a := (eB false)) rfl rfl rfl (o_c tk false rfl (fun _ => rfl)) ?_
      refine wpo_mv (a := (eB false)) rfl rfl rfl (o_mv tk rfl (Wk.refl _)) ?_
      refine wpo_mv (a := (eErr v2.2)) rfl rfl rfl (o_mv tk rfl (Wk.refl _)) ?_
      refine wpo_lt H13 eB rfl rfl rfl (o_err_neq tk rfl rfl rfl) fun v64 H63 => ?_
      refine wpo_mv (a := (eB v64)) rfl rfl rfl (o_pick_f tk rfl rfl (Wk.refl _)) ?_
      refine wpo_nil ?_
      refine awp_if H63 rfl (fun H65 => ?_) (fun H65 => ?_)
      · refine awp_seq ?_
        refine awp_region rfl ?_
        refine wpo_mv (a := (eB false)) rfl rfl rfl (o_as tk rfl (Wk.refl _)) ?_
        refine wpo_nil ?_
        refine awp_ret ?_
        obtain rfl := Option.some.inj H65
        exact ⟨_, (eB false), rfl, (.of_eq rfl), .of_eq ((enc_b td4 sz4).cut _ _ _), ((hH.noT.drop n17).drop n5)⟩
      · refine awp_skip ?_
        refine awp_seq ?_
        refine awp_region rfl ?_
        refine wpo_mv (a := (.ref id4 0)) rfl rfl rfl (o_mv tk rfl (Wk.refl _)) ?_
        refine wpo_cb H65 (fun x _ => eB x.1) rfl rfl rfl (fun v67 hv => h_call1 hH [(1, (id4, (c_admit_Policy v67.2)))] ⟨⟨_, rfl⟩, trivial⟩ rfl rfl (.cons (.of_eq rfl) (.cons (.of_eq rfl) (.cons (.of_eq rfl) .nil))) (admit_Policy_Admit_ok hv _ (hH.at_ 1 rfl))) fun v67 _ τ hv67 H66 hH => ?_
        refine wpo_mv (a := (.ref id4 0)) rfl rfl rfl (o_mv tk rfl (Wk.refl _)) ?_
        refine wpo_cb H66 (fun x _ => eB x.1) rfl rfl rfl (fun v69 hv => h_call1 hH [(1, (id4, (c_admit_Policy v69.2)))] ⟨⟨_, rfl⟩, trivial⟩ rfl rfl (.cons (.of_eq rfl) (.cons (.of_eq rfl) (.cons (.of_eq rfl) .nil))) (admit_Policy_Admit_ok hv _ (hH.at_ 1 rfl))) fun v69 _ τ hv69 H68 hH => ?_
        refine wpo_mv (a := (.ref id4 0)) rfl rfl rfl (o_mv tk rfl (Wk.refl _)) ?_
        refine wpo_cb H68 (fun x _ => eB x.1) rfl rfl rfl (fun v71 hv => h_call1 hH [(1, (id4, (c_admit_Policy v71.2)))] ⟨⟨_, rfl⟩, trivial⟩ rfl rfl (.cons (.of_eq rfl) (.cons (.of_eq rfl) (.cons (.of_eq rfl) .nil))) (admit_Policy_Admit_ok hv _ (hH.at_ 1 rfl))) fun v71 _ τ hv71 H70 hH => ?_
        refine wpo_mv (a := (eB v67.1)) rfl rfl rfl (o_as tk rfl (Wk.refl _)) ?_
        refine wpo_mv (a := (eB v69.1)) rfl rfl rfl (o_as tk rfl (Wk.refl _)) ?_
        refine wpo_mv (a := (eB v71.1)) rfl rfl rfl (o_as tk rfl (Wk.refl _)) ?_
        refine wpo_nil ?_
        refine awp_seq ?_
        refine awp_region rfl ?_
        refine wpo_mv (a := (.ref id4 0)) rfl rfl rfl (o_mv tk rfl (Wk.refl _)) ?_
        refine wpo_cb H70 (fun x _ => eB x.1) rfl rfl rfl (fun v73 hv => h_call1 hH [(1, (id4, (c_admit_Policy v73.2)))] ⟨⟨_, rfl⟩, trivial⟩ rfl rfl (.cons (.of_eq rfl) (.cons (.of_eq rfl) (.cons (.of_eq rfl) .nil))) (admit_Policy_Admit_ok hv _ (hH.at_ 1 rfl))) fun v73 _ τ hv73 H72 hH => ?_
        refine wpo_nil ?_
        refine awp_seq ?_
        refine awp_region rfl ?_
        refine wpo_mv (a := (.ref id4 0)) rfl rfl rfl (o_mv tk rfl (Wk.refl _)) ?_
        refine wpo_cb H72 (fun x _ => eB x.1) rfl rfl rfl (fun v75 hv => h_call1 hH [(1, (id4, (c_admit_Policy v75.2)))] ⟨⟨_, rfl⟩, trivial⟩ rfl rfl (.cons (.of_eq rfl) (.cons (.of_eq rfl) (.cons (.of_eq rfl) .nil))) (admit_Policy_Admit_ok hv _ (hH.at_ 1 rfl))) fun v75 _ τ hv75 H74 hH => ?_
        refine wpo_nil ?_
        refine awp_seq ?_
        refine awp_region rfl ?_
        refine wpo_mv (a := (eErr v14.2)) rfl rfl rfl (o_mv tk rfl (Wk.refl _)) ?_
        refine wpo_bdr H74 eI rfl rfl rfl (fun v77 hv => h_callr rfl rfl (.cons (.of_eq rfl) .nil) (trouble_Of_ok hv _ (hH.gl.trans hg))) fun v77 hv77 H76 => ?_
        refine wpo_lt H76 eB rfl rfl rfl (o_ar tk rfl rfl rfl) fun v79 H78 => ?_
        refine wpo_mv (a := (eB v79)) rfl rfl rfl (o_mv tk rfl (Wk.refl _)) ?_
        refine if_split H78 (fun hb H80 => ?_) (fun hb H80 => ?_)
        · subst hb
          refine wpo_mv (a := (eB v67.1)) rfl rfl rfl (o_mv tk rfl (Wk.refl _)) ?_
          refine wpo_lt H80 eB rfl rfl rfl (o_un tk rfl rfl) fun v82 H81 => ?_
          refine wpo_mv (a := (eB v82)) rfl rfl rfl (o_pick_t tk rfl rfl (Wk.refl _)) ?_
          refine wpo_mv (a := (eB v82)) rfl rfl rfl (o_mv tk rfl (Wk.refl _)) ?_
          refine if_split H81 (fun hb H83 => ?_) (fun hb H83 => ?_)
          · subst hb
            refine wpo_mv (a := (eB v69.1)) rfl rfl rfl (o_mv tk rfl (Wk.refl _)) ?_
            refine wpo_mv (a := (eB v69.1)) rfl rfl rfl (o_pick_t tk rfl rfl (Wk.refl _)) ?_
            refine wpo_mv (a := (eB v69.1)) rfl rfl rfl (o_mv tk rfl (Wk.refl _)) ?_
            refine if_split H83 (fun hb H84 => ?_) (fun hb H84 => ?_)
            · rw [hb]
              refine wpo_mv (a := (eB v71.1)) rfl rfl rfl (o_mv tk rfl (Wk.refl _)) ?_
              refine wpo_lt H84 eB rfl rfl rfl (o_un tk rfl rfl) fun v86 H85 => ?_
              refine wpo_mv (a := (eB v86)) rfl rfl rfl (o_pick_t tk rfl rfl (Wk.refl _)) ?_
              refine wpo_mv (a := (eB v86)) rfl rfl rfl (o_mv tk rfl (Wk.refl _)) ?_
              refine if_split H85 (fun hb H87 => ?_) (fun hb H87 => ?_)
              · subst hb
                refine wpo_mv (a := (.ref id4 0)) rfl rfl rfl (o_mv tk rfl (Wk.refl _)) ?_
                refine wpo_bdr H87 (eL 1 (@eU .u64 64)) rfl rfl rfl (fun v89 hv => h_callr rfl rfl (.cons (.of_eq rfl) .nil) (admit_Policy_Ghosts_ok hv _ (hH.at_ 1 rfl))) fun v89 hv89 H88 => ?_
                refine wpo_lt H88 eI rfl rfl rfl (o_len tk td41 rfl) fun v91 H90 => ?_
                refine wpo_lt H90 eB rfl rfl rfl (o_ar tk rfl rfl rfl) fun v93 H92 => ?_
                refine wpo_mv (a := (eB v93)) rfl rfl rfl (o_pick_t tk rfl rfl (Wk.refl _)) ?_
                refine wpo_mv (a := (eB v93)) rfl rfl rfl (o_mv tk rfl (Wk.refl _)) ?_
                refine if_split H92 (fun hb H94 => ?_) (fun hb H94 => ?_)
                · subst hb
                  refine wpo_mv (a := (.ref id4 0)) rfl rfl rfl (o_mv tk rfl (Wk.refl _)) ?_
                  refine wpo_cb H94 (fun x _ => eB x.1) rfl rfl rfl (fun v96 hv => h_call1 hH [(1, (id4, (c_admit_Policy v96.2)))] ⟨⟨_, rfl⟩, trivial⟩ rfl rfl (.cons (.of_eq rfl) (.cons (.of_eq rfl) (.cons (.of_eq rfl) .nil))) (admit_Policy_Admit_ok hv _ (hH.at_ 1 rfl))) fun v96 _ τ hv96 H95 hH => ?_
                  refine wpo_lt H95 eB rfl rfl rfl (o_un tk rfl rfl) fun v98 H97 => ?_
                  refine wpo_mv (a := (eB v98)) rfl rfl rfl (o_pick_t tk rfl rfl (Wk.refl _)) ?_
                  refine wpo_mv (a := (eB v98)) rfl rfl rfl (o_mv tk rfl (Wk.refl _)) ?_
                  refine if_split H97 (fun hb H99 => ?_) (fun hb H99 => ?_)
                  · subst hb
                    refine wpo_mv (a := (.ref id4 0)) rfl rfl rfl (o_mv tk rfl (Wk.refl _)) ?_
                    refine wpo_cb H99 (fun x _ => eB x.1) rfl rfl rfl (fun v101 hv => h_call1 hH [(1, (id4, (c_admit_Policy v101.2)))] ⟨⟨_, rfl⟩, trivial⟩ rfl rfl (.cons (.of_eq rfl) (.cons (.of_eq rfl) (.cons (.of_eq rfl) .nil))) (admit_Policy_Admit_ok hv _ (hH.at_ 1 rfl))) fun v101 _ τ hv101 H100 hH => ?_
                    refine wpo_mv (a := (eB v101.1)) rfl rfl rfl (o_pick_t tk rfl rfl (Wk.refl _)) ?_
                    refine wpo_mv (a := (eB v101.1)) rfl rfl rfl (o_mv tk rfl (Wk.refl _)) ?_
                    refine if_split H100 (fun hb H102 => ?_) (fun hb H102 => ?_)
                    · rw [hb]
                      refine wpo_mv (a := (.ref id4 0)) rfl rfl rfl (o_mv tk rfl (Wk.refl _)) ?_
                      refine wpo_cb H102 (fun x _ => eB x.1) rfl rfl rfl (fun v104 hv => h_call1 hH [(1, (id4, (c_admit_Policy v104.2)))] ⟨⟨_, rfl⟩, trivial⟩ rfl rfl (.cons (.of_eq rfl) .nil) (butterylaw18_admitted_ok hv _ (hH.at_ 1 rfl))) fun v104 _ τ hv104 H103 hH => ?_
                      refine wpo_lt H103 eB rfl rfl rfl (o_un tk rfl rfl) fun v106 H105 => ?_
                      refine wpo_mv (a := (eB v106)) rfl rfl rfl (o_pick_t tk rfl rfl (Wk.refl _)) ?_
                      refine wpo_mv (a := (eB v106)) rfl rfl rfl (o_as tk rfl (Wk.refl _)) ?_
                      refine wpo_nil ?_
                      refine awp_ret ?_
                      obtain rfl := Option.some.inj H105
                      exact ⟨_, (eB v106), rfl, (.of_eq rfl), .of_eq ((enc_b td4 sz4).cut _ _ _), ((hH.noT.drop n17).drop n5)⟩
                    · rw [hb]
                      refine wpo_skip rfl rfl rfl ?_
                      refine wpo_skip rfl rfl rfl ?_
                      refine wpo_skip rfl rfl rfl ?_
                      refine wpo_mv (a := (eB false)) rfl rfl rfl (o_pick_f tk rfl rfl (Wk.refl _)) ?_
                      refine wpo_mv (a := (eB false)) rfl rfl rfl (o_as tk rfl (Wk.refl _)) ?_
                      refine wpo_nil ?_
                      refine awp_ret ?_
                      obtain rfl := Option.some.inj H102
                      exact ⟨_, (eB false), rfl, (.of_eq rfl), .of_eq ((enc_b td4 sz4).cut _ _ _), ((hH.noT.drop n17).drop n5)⟩
                  · subst hb
                    refine wpo_skip rfl rfl rfl ?_
                    refine wpo_skip rfl rfl rfl ?_
                    refine wpo_mv (a := (eB false)) rfl rfl rfl (o_pick_f tk rfl rfl (Wk.refl _)) ?_
                    refine wpo_mv (a := (eB false)) rfl rfl rfl (o_mv tk rfl (Wk.refl _)) ?_
                    refine wpo_skip rfl rfl rfl ?_
                    refine wpo_skip rfl rfl rfl ?_
                    refine wpo_skip rfl rfl rfl ?_
                    refine wpo_mv (a := (eB false)) rfl rfl rfl (o_pick_f tk rfl rfl (Wk.refl _)) ?_
                    refine wpo_mv (a := (eB false)) rfl rfl rfl (o_as tk rfl (Wk.refl _)) ?_
                    refine wpo_nil ?_
                    refine awp_ret ?_
                    obtain rfl := Option.some.inj H99
                    exact ⟨_, (eB false), rfl, (.of_eq rfl), .of_eq ((enc_b td4 sz4).cut _ _ _), ((hH.noT.drop n17).drop n5)⟩
                · subst hb
                  refine wpo_skip rfl rfl rfl ?_
                  refine wpo_skip rfl rfl rfl ?_
                  refine wpo_skip rfl rfl rfl ?_
                  refine wpo_mv (a := (eB false)) rfl rfl rfl (o_pick_f tk rfl rfl (Wk.refl _)) ?_
                  refine wpo_mv (a := (eB false)) rfl rfl rfl (o_mv tk rfl (Wk.refl _)) ?_
                  refine wpo_skip rfl rfl rfl ?_
                  refine wpo_skip rfl rfl rfl ?_
                  refine wpo_mv (a := (eB false)) rfl rfl rfl (o_pick_f tk rfl rfl (Wk.refl _)) ?_
                  refine wpo_mv (a := (eB false)) rfl rfl rfl (o_mv tk rfl (Wk.refl _)) ?_
                  refine wpo_skip rfl rfl rfl ?_
                  refine wpo_skip rfl rfl rfl ?_
                  refine wpo_skip rfl rfl rfl ?_
                  refine wpo_mv (a := (eB false)) rfl rfl rfl (o_pick_f tk rfl rfl (Wk.refl _)) ?_
                  refine wpo_mv (a := (eB false)) rfl rfl rfl (o_as tk rfl (Wk.refl _)) ?_
                  refine wpo_nil ?_
                  refine awp_ret ?_
                  obtain rfl := Option.some.inj H94
                  exact ⟨_, (eB false), rfl, (.of_eq rfl), .of_eq ((enc_b td4 sz4).cut _ _ _), ((hH.noT.drop n17).drop n5)⟩
              · subst hb
                refine wpo_skip rfl rfl rfl ?_
                refine wpo_skip rfl rfl rfl ?_
                refine wpo_skip rfl rfl rfl ?_
                refine wpo_skip rfl rfl rfl ?_
                refine wpo_mv (a := (eB false)) rfl rfl rfl (o_pick_f tk rfl rfl (Wk.refl _)) ?_
                refine wpo_mv (a := (eB false)) rfl rfl rfl (o_mv tk rfl (Wk.refl _)) ?_
                refine wpo_skip rfl rfl rfl ?_
                refine wpo_skip rfl rfl rfl ?_
                refine wpo_skip rfl rfl rfl ?_
                refine wpo_mv (a := (eB false)) rfl rfl rfl (o_pick_f tk rfl rfl (Wk.refl _)) ?_
                refine wpo_mv (a := (eB false)) rfl rfl rfl (o_mv tk rfl (Wk.refl _)) ?_
                refine wpo_skip rfl rfl rfl ?_
                refine wpo_skip rfl rfl rfl ?_
                refine wpo_mv (a := (eB false)) rfl rfl rfl (o_pick_f tk rfl rfl (Wk.refl _)) ?_
                refine wpo_mv (a := (eB false)) rfl rfl rfl (o_mv tk rfl (Wk.refl _)) ?_
                refine wpo_skip rfl rfl rfl ?_
                refine wpo_skip rfl rfl rfl ?_
                refine wpo_skip rfl rfl rfl ?_
                refine wpo_mv (a := (eB false)) rfl rfl rfl (o_pick_f tk rfl rfl (Wk.refl _)) ?_
                refine wpo_mv (a := (eB false)) rfl rfl rfl (o_as tk rfl (Wk.refl _)) ?_
                refine wpo_nil ?_
                refine awp_ret ?_
                obtain rfl := Option.some.inj H87
                exact ⟨_, (eB false), rfl, (.of_eq rfl), .of_eq ((enc_b td4 sz4).cut _ _ _), ((hH.noT.drop n17).drop n5)⟩
            · rw [hb]
              refine wpo_skip rfl rfl rfl ?_
              refine wpo_skip rfl rfl rfl ?_
              refine wpo_mv (a := (eB false)) rfl rfl rfl (o_pick_f tk rfl rfl (Wk.refl _)) ?_
              refine wpo_mv (a := (eB false)) rfl rfl rfl (o_mv tk rfl (Wk.refl _)) ?_
              refine wpo_skip rfl rfl rfl ?_
              refine wpo_skip rfl rfl rfl ?_
              refine wpo_skip rfl rfl rfl ?_
              refine wpo_skip rfl rfl rfl ?_
              refine wpo_mv (a := (eB false)) rfl rfl rfl (o_pick_f tk rfl rfl (Wk.refl _)) ?_
              refine wpo_mv (a := (eB false)) rfl rfl rfl (o_mv tk rfl (Wk.refl _)) ?_
              refine wpo_skip rfl rfl rfl ?_
              refine wpo_skip rfl rfl rfl ?_
              refine wpo_skip rfl rfl rfl ?_
              refine wpo_mv (a := (eB false)) rfl rfl rfl (o_pick_f tk rfl rfl (Wk.refl _)) ?_
              refine wpo_mv (a := (eB false)) rfl rfl rfl (o_mv tk rfl (Wk.refl _)) ?_
              refine wpo_skip rfl rfl rfl ?_
              refine wpo_skip rfl rfl rfl ?_
              refine wpo_mv (a := (eB false)) rfl rfl rfl (o_pick_f tk rfl rfl (Wk.refl _)) ?_
              refine wpo_mv (a := (eB false)) rfl rfl rfl (o_mv tk rfl (Wk.refl _)) ?_
              refine wpo_skip rfl rfl rfl ?_
              refine wpo_skip rfl rfl rfl ?_
              refine wpo_skip rfl rfl rfl ?_
              refine wpo_mv (a := (eB false)) rfl rfl rfl (o_pick_f tk rfl rfl (Wk.refl _)) ?_
              refine wpo_mv (a := (eB false)) rfl rfl rfl (o_as tk rfl (Wk.refl _)) ?_
              refine wpo_nil ?_
              refine awp_ret ?_
              obtain rfl := Option.some.inj H84
              exact ⟨_, (eB false), rfl, (.of_eq rfl), .of_eq ((enc_b td4 sz4).cut _ _ _), ((hH.noT.drop n17).drop n5)⟩
          · subst hb
            refine wpo_skip rfl rfl rfl ?_
            refine wpo_mv (a := (eB false)) rfl rfl rfl (o_pick_f tk rfl rfl (Wk.refl _)) ?_
            refine wpo_mv (a := (eB false)) rfl rfl rfl (o_mv tk rfl (Wk.refl _)) ?_
            refine wpo_skip rfl rfl rfl ?_
            refine wpo_skip rfl rfl rfl ?_
            refine wpo_mv (a := (eB false)) rfl rfl rfl (o_pick_f tk rfl rfl (Wk.refl _)) ?_
            refine wpo_mv (a := (eB false)) rfl rfl rfl (o_mv tk rfl (Wk.refl _)) ?_
            refine wpo_skip rfl rfl rfl ?_
            refine wpo_skip rfl rfl rfl ?_
            refine wpo_skip rfl rfl rfl ?_
            refine wpo_skip rfl rfl rfl ?_
            refine wpo_mv (a := (eB false)) rfl rfl rfl (o_pick_f tk rfl rfl (Wk.refl _)) ?_
            refine wpo_mv (a := (eB false)) rfl rfl rfl (o_mv tk rfl (Wk.refl _)) ?_
            refine wpo_skip rfl rfl rfl ?_
            refine wpo_skip rfl rfl rfl ?_
            refine wpo_skip rfl rfl rfl ?_
            refine wpo_mv (a := (eB false)) rfl rfl rfl (o_pick_f tk rfl rfl (Wk.refl _)) ?_
            refine wpo_mv (a := (eB false)) rfl rfl rfl (o_mv tk rfl (Wk.refl _)) ?_
            refine wpo_skip rfl rfl rfl ?_
            refine wpo_skip rfl rfl rfl ?_
            refine wpo_mv (a := (eB false)) rfl rfl rfl (o_pick_f tk rfl rfl (Wk.refl _)) ?_
            refine wpo_mv (a := (eB false)) rfl rfl rfl (o_mv tk rfl (Wk.refl _)) ?_
            refine wpo_skip rfl rfl rfl ?_
            refine wpo_skip rfl rfl rfl ?_
            refine wpo_skip rfl rfl rfl ?_
            refine wpo_mv (a := (eB false)) rfl rfl rfl (o_pick_f tk rfl rfl (Wk.refl _)) ?_
            refine wpo_mv (a := (eB false)) rfl rfl rfl (o_as tk rfl (Wk.refl _)) ?_
            refine wpo_nil ?_
            refine awp_ret ?_
            obtain rfl := Option.some.inj H83
            exact ⟨_, (eB false), rfl, (.of_eq rfl), .of_eq ((enc_b td4 sz4).cut _ _ _), ((hH.noT.drop n17).drop n5)⟩
        · subst hb
          refine wpo_skip rfl rfl rfl ?_
          refine wpo_skip rfl rfl rfl ?_
          refine wpo_mv (a := (eB false)) rfl rfl rfl (o_pick_f tk rfl rfl (Wk.refl _)) ?_
          refine wpo_mv (a := (eB false)) rfl rfl rfl (o_mv tk rfl (Wk.refl _)) ?_
          refine wpo_skip rfl rfl rfl ?_
          refine wpo_mv (a := (eB false)) rfl rfl rfl (o_pick_f tk rfl rfl (Wk.refl _)) ?_
          refine wpo_mv (a := (eB false)) rfl rfl rfl (o_mv tk rfl (Wk.refl _)) ?_
          refine wpo_skip rfl rfl rfl ?_
          refine wpo_skip rfl rfl rfl ?_
          refine wpo_mv (a := (eB false)) rfl rfl rfl (o_pick_f tk rfl rfl (Wk.refl _)) ?_
          refine wpo_mv (a := (eB false)) rfl rfl rfl (o_mv tk rfl (Wk.refl _)) ?_
          refine wpo_skip rfl rfl rfl ?_
          refine wpo_skip rfl rfl rfl ?_
          refine wpo_skip rfl rfl rfl ?_
          refine wpo_skip rfl rfl rfl ?_
          refine wpo_mv (a := (eB false)) rfl rfl rfl (o_pick_f tk rfl rfl (Wk.refl _)) ?_
          refine wpo_mv (a := (eB false)) rfl rfl rfl (o_mv tk rfl (Wk.refl _)) ?_
          refine wpo_skip rfl rfl rfl ?_
          refine wpo_skip rfl rfl rfl ?_
          refine wpo_skip rfl rfl rfl ?_
          refine wpo_mv (a := (eB false)) rfl rfl rfl (o_pick_f tk rfl rfl (Wk.refl _)) ?_
          refine wpo_mv (a := (eB false)) rfl rfl rfl (o_mv tk rfl (Wk.refl _)) ?_
          refine wpo_skip rfl rfl rfl ?_
          refine wpo_skip rfl rfl rfl ?_
          refine wpo_mv (a := (eB false)) rfl rfl rfl (o_pick_f tk rfl rfl (Wk.refl _)) ?_
          refine wpo_mv (a := (eB false)) rfl rfl rfl (o_mv tk rfl (Wk.refl _)) ?_
          refine wpo_skip rfl rfl rfl ?_
          refine wpo_skip rfl rfl rfl ?_
          refine wpo_skip rfl rfl rfl ?_
          refine wpo_mv (a := (eB false)) rfl rfl rfl (o_pick_f tk rfl rfl (Wk.refl _)) ?_
          refine wpo_mv (a := (eB false)) rfl rfl rfl (o_as tk rfl (Wk.refl _)) ?_
          refine wpo_nil ?_
          refine awp_ret ?_
          obtain rfl := Option.some.inj H80
          exact ⟨_, (eB false), rfl, (.of_eq rfl), .of_eq ((enc_b td4 sz4).cut _ _ _), ((hH.noT.drop n17).drop n5)⟩
end Go.Proofs.YthjabhcbkbchjaaDoor
namespace Go.Proofs.YthjabhcbkbchjaaDoor
open Go Go.Va
set_option linter.unusedVariables false
set_option linter.unusedSimpArgs false
set_option maxRecDepth 20000
theorem butteryref18_But_app {x0 : List (BitVec 64)} {x1 : BitVec 64} {r : (List (BitVec 64))} (H : butteryref18_But x0 x1 = some r) (σ : St)  : ACall Tryd.prog 29 [((eL 1 (@eU .u64 64)) x0), ((@eU .u64 64) x1)] σ (fun a τ => a = .sl (.own σ.opn.length) 1 (r.map (@eU .u64 64)) ∧ τ = σ.more) := by
  unfold butteryref18_But at H
  refine ACall.app (fun ρ κ => cutL_enc (enc_u td48 sz48).cut ρ κ r) (acall_start tk Tryd.func29 (by decide) rfl (Nat.le_of_ble_eq_true rfl) ?_)
  have hH := Holds.init σ
  refine awp_seq ?_
  refine awp_region rfl ?_
  refine wpo_mv (a := AV.nils) rfl rfl rfl (o_as tk rfl (Wk.refl _)) ?_
  refine wpo_nil ?_
  refine awp_seq ?_
  refine awp_region rfl ?_
  refine wpo_mv (a := AV.nils) rfl rfl rfl (o_as tk rfl (Wk.refl _)) ?_
  refine wpo_nil ?_
  refine awp_seq ?_
  refine awp_seq ?_
  refine awp_region rfl ?_
  refine wpo_mv (a := (eI (0 : Int))) rfl rfl rfl (o_as tk rfl (Wk.refl _)) ?_
  refine wpo_nil ?_
  refine awp_block ?_
  refine AWP.tokN hH 5 1 rfl fun tk3 τ hH => ?_
  obtain ⟨s11, hs5, hj6⟩ := Option.bind_eq_some_iff.1 H
  refine awp_cutx 0 (fun fr τ => ∃ tk_5, WkF fr (fm [(5, (eT tk_5 1 (@eU .u64 64) s11))]) ∧ Holds σ [] [tk_5] τ) ?_ ?_
  · rintro fr τ ⟨tk_5, hfr, hH⟩
    have H35 := hj6
    refine AWP.fm [(5, (eT tk_5 1 (@eU .u64 64) s11))] hfr ?_
    refine awp_seq ?_
    refine awp_region rfl ?_
    refine wpo_mv (a := (eT tk_5 1 (@eU .u64 64) s11)) rfl rfl rfl (o_mv tk rfl (Wk.refl _)) ?_
    refine wpo_mv (a := (eT tk_5 1 (@eU .u64 64) s11)) rfl rfl rfl (o_as tk rfl (Wk.refl _)) ?_
    refine wpo_nil ?_
    refine awp_ret ?_
    obtain rfl := Option.some.inj H35
    exact ⟨_, (eT tk_5 1 (@eU .u64 64) s11), rfl, .of_eq rfl, tk_5, rfl, hH⟩
  · refine awp_loopO (body := fun s => butteryref18_But_b0 x0 x1 s.1 s.2) hs5 (fun (s : (List (BitVec 64)) × Int) fr τ => ∃ tk_5, WkF fr (fm [(0, ((eL 1 (@eU .u64 64)) x0)), (1, ((@eU .u64 64) x1)), (5, (eT tk_5 1 (@eU .u64 64) s.1)), (6, (eI s.2))]) ∧ Holds σ [] [tk_5] τ) ⟨tk3, (wkf_cons (.of_eq rfl) (wkf_cons (.of_eq rfl) (wkf_cons (.of_eq rfl) (wkf_cons (.of_eq rfl) (wkf_nil _))))), hH⟩ ?_
    rintro ⟨c1, c2⟩ fr τ y7 ⟨tk_5, hfr, hH⟩ hb9 hy10
    have H12 : butteryref18_But_b0 x0 x1 c1 c2 = some y7 := hb9
    unfold butteryref18_But_b0 at H12
    refine AWP.fm [(0, ((eL 1 (@eU .u64 64)) x0)), (1, ((@eU .u64 64) x1)), (5, (eT tk_5 1 (@eU .u64 64) c1)), (6, (eI c2))] hfr ?_
    have hH : Holds σ [] [tk_5] τ := hH
    refine awp_seq ?_
    refine awp_seq ?_
    refine awp_region rfl ?_
    refine wpo_mv (a := (eI c2)) rfl rfl rfl (o_mv tk rfl (Wk.refl _)) ?_
    refine wpo_mv (a := ((eL 1 (@eU .u64 64)) x0)) rfl rfl rfl (o_mv tk rfl (Wk.refl _)) ?_
    refine wpo_lt H12 eI rfl rfl rfl (o_len tk td41 rfl) fun v14 H13 => ?_
    refine wpo_lt H13 eB rfl rfl rfl (o_ar tk rfl rfl rfl) fun v16 H15 => ?_
    refine wpo_nil ?_
    refine awp_if H15 rfl (fun H17 => ?_) (fun H17 => ?_)
    · refine awp_skip ?_
      refine awp_seq ?_
      refine awp_block ?_
      refine awp_seq ?_
      refine awp_region rfl ?_
      refine wpo_mv (a := ((eL 1 (@eU .u64 64)) x0)) rfl rfl rfl (o_mv tk rfl (Wk.refl _)) ?_
      refine wpo_mv (a := (eI c2)) rfl rfl rfl (o_mv tk rfl (Wk.refl _)) ?_
      refine wpo_bd H17 (fun y => .fptr ((@eU .u64 64) y).cells 0) rfl rfl rfl (fun v19 hv => o_ixa tk hv td41 (enc_u td48 sz48) rfl rfl) fun v19 hv19 H18 => ?_
      refine wpo_mv (a := ((@eU .u64 64) v19)) rfl rfl rfl (o_ld_e tk (enc_u td48 sz48) rfl rfl) ?_
      refine wpo_mv (a := ((@eU .u64 64) x1)) rfl rfl rfl (o_mv tk rfl (Wk.refl _)) ?_
      refine wpo_lt H18 eB rfl rfl rfl (o_neq_u tk rfl rfl) fun v21 H20 => ?_
      refine wpo_nil ?_
      refine awp_if H20 rfl (fun H22 => ?_) (fun H22 => ?_)
      · refine awp_region rfl ?_
        refine wpo_mv (a := (eT tk_5 1 (@eU .u64 64) c1)) rfl rfl rfl (o_mv tk rfl (Wk.refl _)) ?_
        refine wpo_mv (a := ((eL 1 (@eU .u64 64)) x0)) rfl rfl rfl (o_mv tk rfl (Wk.refl _)) ?_
        refine wpo_mv (a := (eI c2)) rfl rfl rfl (o_mv tk rfl (Wk.refl _)) ?_
        refine wpo_bd H22 (fun y => .fptr ((@eU .u64 64) y).cells 0) rfl rfl rfl (fun v24 hv => o_ixa tk hv td41 (enc_u td48 sz48) rfl rfl) fun v24 hv24 H23 => ?_
        refine wpo_mv (a := ((@eU .u64 64) v24)) rfl rfl rfl (o_ld_e tk (enc_u td48 sz48) rfl rfl) ?_
        refine wpo_lt H23 (eF 1 (@eU .u64 64)) rfl rfl rfl (o_c tk false rfl (fun _ => rfl)) fun v26 H25 => ?_
        obtain ⟨v28, hv29, H27⟩ := Option.bind_eq_some_iff.1 H25
        refine wpo_a (av := fun t => eT t 1 (@eU .u64 64) v28) rfl rfl rfl (h_app tk hH 0 hv29 rfl td41 ty48 rfl (by decide) rfl (src_l td41 rfl)) fun tk30 τ hH => ?_
        refine wpo_mv (a := (eT tk30 1 (@eU .u64 64) v28)) rfl rfl rfl (o_as tk rfl (Wk.refl _)) ?_
        refine wpo_nil ?_
        refine awp_region rfl ?_
        refine wpo_mv (a := (eI c2)) rfl rfl rfl (o_mv tk rfl (Wk.refl _)) ?_
        refine wpo_lt H27 eI rfl rfl rfl (o_ar tk rfl rfl rfl) fun v32 H31 => ?_
        refine wpo_mv (a := (eI v32)) rfl rfl rfl (o_as tk rfl (Wk.refl _)) ?_
        refine wpo_nil ?_
        exact ⟨(v28, v32), inj_inl H31, tk30, (wkf_cons (.of_eq rfl) (wkf_cons (.of_eq rfl) (wkf_cons (.of_eq rfl) (wkf_cons (.of_eq rfl) (wkf_nil _))))), hH⟩
      · refine awp_skip ?_
        refine awp_region rfl ?_
        refine wpo_mv (a := (eI c2)) rfl rfl rfl (o_mv tk rfl (Wk.refl _)) ?_
        refine wpo_lt H22 eI rfl rfl rfl (o_ar tk rfl rfl rfl) fun v34 H33 => ?_
        refine wpo_mv (a := (eI v34)) rfl rfl rfl (o_as tk rfl (Wk.refl _)) ?_
        refine wpo_nil ?_
        exact ⟨(c1, v34), inj_inl H33, tk_5, (wkf_cons (.of_eq rfl) (wkf_cons (.of_eq rfl) (wkf_cons (.of_eq rfl) (wkf_cons (.of_eq rfl) (wkf_nil _))))), hH⟩
    · refine awp_exit ?_
      have hz := hy10 _ (inj_inr H17)
      subst hz
      exact ⟨⟨_, inj_inr H17⟩, tk_5, (wkf_cons (.of_eq rfl) (wkf_nil _)), hH⟩
theorem butteryref18_But_ok {x0 : List (BitVec 64)} {x1 : BitVec 64} {r : (List (BitVec 64))} (H : butteryref18_But x0 x1 = some r) (σ : St) : ACall Tryd.prog 29 [((eL 1 (@eU .u64 64)) x0), ((@eU .u64 64) x1)] σ (fun a τ => a = (eL 1 (@eU .u64 64)) r ∧ τ = σ) := (butteryref18_But_app H σ).unapp (fun ρ κ => cutL_enc (enc_u td48 sz48).cut ρ κ r)
end Go.Proofs.YthjabhcbkbchjaaDoor
namespace Go.Proofs.YthjabhcbkbchjaaDoor
open Go Go.Va
set_option linter.unusedVariables false
set_option linter.unusedSimpArgs false
set_option maxRecDepth 20000
theorem butterylaw18_AdmitBounds_ok {x0 : Int} {x1 : Int} {x2 : List butterylaw18_Ask} {r : Bool} (H : butterylaw18_AdmitBounds x0 x1 x2 = some r) (σ : St)  (hg : σ.gl = gls) : ACall Tryd.prog 8 [(eI x0), (eI x1), ((eL 3 e_butterylaw18_Ask) x2)] σ (fun a τ => a = eB r ∧ τ = σ) := by
  unfold butterylaw18_AdmitBounds at H
  refine ACall.pure (acall_start tk Tryd.func8 (by decide) rfl (Nat.le_of_ble_eq_true rfl) ?_)
  have hH := Holds.init σ
  refine awp_seq ?_
  refine awp_region rfl ?_
  refine wpo_mv (a := (eB false)) rfl rfl rfl (o_as tk rfl (Wk.refl _)) ?_
  refine wpo_nil ?_
  refine awp_seq ?_
  refine awp_seq ?_
  refine awp_region rfl ?_
  refine wpo_mv (a := ((eL 3 e_butterylaw18_Ask) x2)) rfl rfl rfl (o_mv tk rfl (Wk.refl _)) ?_
  refine wpo_lt H eI rfl rfl rfl (o_len tk td37 rfl) fun v2 H1 => ?_
  refine wpo_lt H1 eB rfl rfl rfl (o_ar tk rfl rfl rfl) fun v4 H3 => ?_
  refine wpo_nil ?_
  refine awp_if H3 rfl (fun H5 => ?_) (fun H5 => ?_)
  · refine awp_seq ?_
    refine awp_region rfl ?_
    refine wpo_bdr H5 eB rfl rfl rfl (fun v7 hv => h_callr rfl rfl .nil (butterylaw18_works_ok hv _ (hH.gl.trans hg))) fun v7 hv7 H6 => ?_
    refine wpo_mv (a := (eB v7)) rfl rfl rfl (o_as tk rfl (Wk.refl _)) ?_
    refine wpo_nil ?_
    refine awp_ret ?_
    obtain rfl := Option.some.inj H6
    exact ⟨_, (eB v7), rfl, (.of_eq rfl), .of_eq ((enc_b td4 sz4).cut _ _ _), hH.noT⟩
  · refine awp_skip ?_
    refine awp_seq ?_
    refine awp_region rfl ?_
    refine wpo_mv (a := (eI x0)) rfl rfl rfl (o_mv tk rfl (Wk.refl _)) ?_
    refine wpo_mv (a := (eI x1)) rfl rfl rfl (o_mv tk rfl (Wk.refl _)) ?_
    obtain ⟨v9, hvv9, H8⟩ := Option.bind_eq_some_iff.1 H5
    rcases hz13 : v9.1 with _ | c10
    · rw [hz13, Option.elim_none] at H8
      refine wpo_a (av := fun _ => .tup [.nilp, (eErr v9.2)]) rfl rfl rfl (h_callno0 hH hz13 rfl rfl (.cons (.of_eq rfl) (.cons (.of_eq rfl) .nil)) (admit_New_ok hvv9 _)) fun _ τ hH => ?_
      refine wpo_mv (a := (.tup [.nilp, (eErr v9.2)])) rfl rfl rfl (o_mv tk rfl (Wk.refl _)) ?_
      refine wpo_mv (a := .nilp) rfl rfl rfl (o_ext tk rfl rfl) ?_
      refine wpo_mv (a := (eErr v9.2)) rfl rfl rfl (o_ext tk rfl rfl) ?_
      refine wpo_mv (a := .nilp) rfl rfl rfl (o_as tk rfl (Wk.refl _)) ?_
      refine wpo_mv (a := (eErr v9.2)) rfl rfl rfl (o_as tk rfl (Wk.refl _)) ?_
      refine wpo_nil ?_
      refine awp_seq ?_
      refine awp_seq ?_
      obtain ⟨s14, hs16, hj17⟩ := Option.bind_eq_some_iff.1 H8
      refine awp_cutn (fun fr τ => WkF fr (fm [(0, (eI x0)), (1, (eI x1)), (2, ((eL 3 e_butterylaw18_Ask) x2)), (7, .nilp), (28, (eB true))]) ∧ Holds σ [] [] τ) ?_ ?_
      · rintro fr τ ⟨hfr, hH⟩
        have H21 := hj17
        refine AWP.fm [(0, (eI x0)), (1, (eI x1)), (2, ((eL 3 e_butterylaw18_Ask) x2)), (7, .nilp), (28, (eB true))] hfr ?_
        refine awp_true rfl ?_
        refine awp_seq ?_
        refine awp_region rfl ?_
        refine wpo_bdr H21 eB rfl rfl rfl (fun v23 hv => h_callr rfl rfl .nil (butterylaw18_works_ok hv _ (hH.gl.trans hg))) fun v23 hv23 H22 => ?_
        refine wpo_mv (a := (eB v23)) rfl rfl rfl (o_as tk rfl (Wk.refl _)) ?_
        refine wpo_nil ?_
        refine awp_ret ?_
        obtain rfl := Option.some.inj H22
        exact ⟨_, (eB v23), rfl, (.of_eq rfl), .of_eq ((enc_b td4 sz4).cut _ _ _), hH.noT⟩
      · refine awp_region rfl ?_
        refine wpo_mv (a := (eErr v9.2)) rfl rfl rfl (o_mv tk rfl (Wk.refl _)) ?_
        refine wpo_lt hs16 eB rfl rfl rfl (o_err_neq tk rfl rfl rfl) fun v19 H18 => ?_
        refine wpo_mv (a := (eB v19)) rfl rfl rfl (o_mv tk rfl (Wk.refl _)) ?_
        refine if_split H18 (fun hb H20 => ?_) (fun hb H20 => ?_)
        · subst hb
          refine wpo_skip rfl rfl rfl ?_
          refine wpo_skip rfl rfl rfl ?_
          refine wpo_mv (a := (eB true)) rfl rfl rfl (o_pick_t tk rfl rfl (Wk.refl _)) ?_
          refine wpo_nil ?_
          have e := Option.some.inj H20
          subst e
          exact ⟨(wkf_cons (.of_eq rfl) (wkf_cons (.of_eq rfl) (wkf_cons (.of_eq rfl) (wkf_cons (.of_eq rfl) (wkf_cons (.of_eq rfl) (wkf_nil _)))))), hH⟩
        · subst hb
          refine wpo_mv (a := .nilp) rfl rfl rfl (o_mv tk rfl (Wk.refl _)) ?_
          refine wpo_mv (a := (eB true)) rfl rfl rfl (o_c tk false rfl (fun _ => rfl)) ?_
          refine wpo_mv (a := (eB true)) rfl rfl rfl (o_pick_f tk rfl rfl (Wk.refl _)) ?_
          refine wpo_nil ?_
          have e := Option.some.inj H20
          subst e
          exact ⟨(wkf_cons (.of_eq rfl) (wkf_cons (.of_eq rfl) (wkf_cons (.of_eq rfl) (wkf_cons (.of_eq rfl) (wkf_cons (.of_eq rfl) (wkf_nil _)))))), hH⟩
    · rw [hz13, Option.elim_some] at H8
      refine wpo_a (av := fun id => .tup [.ref id 0, (eErr v9.2)]) rfl rfl rfl (h_callno1 hH hz13 rfl rfl (.cons (.of_eq rfl) (.cons (.of_eq rfl) .nil)) (admit_New_ok hvv9 _)) fun id11 τ ⟨hH, n12⟩ => ?_
      refine wpo_mv (a := (.tup [(.ref id11 0), (eErr v9.2)])) rfl rfl rfl (o_mv tk rfl (Wk.refl _)) ?_
      refine wpo_mv (a := (.ref id11 0)) rfl rfl rfl (o_ext tk rfl rfl) ?_
      refine wpo_mv (a := (eErr v9.2)) rfl rfl rfl (o_ext tk rfl rfl) ?_
      refine wpo_mv (a := (.ref id11 0)) rfl rfl rfl (o_as tk rfl (Wk.refl _)) ?_
      refine wpo_mv (a := (eErr v9.2)) rfl rfl rfl (o_as tk rfl (Wk.refl _)) ?_
      refine wpo_nil ?_
      refine awp_seq ?_
      refine awp_seq ?_
      obtain ⟨s24, hs26, hj27⟩ := Option.bind_eq_some_iff.1 H8
      refine awp_cutn (fun fr τ => WkF fr (fm [(0, (eI x0)), (1, (eI x1)), (2, ((eL 3 e_butterylaw18_Ask) x2)), (7, (.ref id11 0)), (28, (eB s24))]) ∧ Holds σ [(id11, (c_admit_Policy c10))] [] τ) ?_ ?_
      · rintro fr τ ⟨hfr, hH⟩
        have H31 := hj27
        refine AWP.fm [(0, (eI x0)), (1, (eI x1)), (2, ((eL 3 e_butterylaw18_Ask) x2)), (7, (.ref id11 0)), (28, (eB s24))] hfr ?_
        refine awp_if H31 rfl (fun H32 => ?_) (fun H32 => ?_)
        · refine awp_seq ?_
          refine awp_region rfl ?_
          refine wpo_bdr H32 eB rfl rfl rfl (fun v34 hv => h_callr rfl rfl .nil (butterylaw18_works_ok hv _ (hH.gl.trans hg))) fun v34 hv34 H33 => ?_
          refine wpo_mv (a := (eB v34)) rfl rfl rfl (o_as tk rfl (Wk.refl _)) ?_
          refine wpo_nil ?_
          refine awp_ret ?_
          obtain rfl := Option.some.inj H33
          exact ⟨_, (eB v34), rfl, (.of_eq rfl), .of_eq ((enc_b td4 sz4).cut _ _ _), (hH.noT.drop n12)⟩
        · refine awp_skip ?_
          refine awp_seq ?_
          refine awp_seq ?_
          refine awp_region rfl ?_
          refine wpo_mv (a := (eI (0 : Int))) rfl rfl rfl (o_as tk rfl (Wk.refl _)) ?_
          refine wpo_nil ?_
          refine awp_block ?_
          obtain ⟨o37, hs38, hj39⟩ := Option.bind_eq_some_iff.1 H32
          refine awp_cutx 0 (fun fr τ => ∃ s44 : admit_Policy, o37 = .inl s44 ∧ WkF fr (fm []) ∧ Holds σ [(id11, (c_admit_Policy s44))] [] τ) ?_ ?_
          · rintro fr τ ⟨s44, rfl, hfr, hH⟩
            have H118 := hj39
            simp only [Sum.elim_inl] at H118
            refine AWP.fm [] hfr ?_
            refine awp_seq ?_
            refine awp_region rfl ?_
            refine wpo_bdr H118 eB rfl rfl rfl (fun v120 hv => h_callr rfl rfl .nil (butterylaw18_works_ok hv _ (hH.gl.trans hg))) fun v120 hv120 H119 => ?_
            refine wpo_mv (a := (eB v120)) rfl rfl rfl (o_as tk rfl (Wk.refl _)) ?_
            refine wpo_nil ?_
            refine awp_ret ?_
            obtain rfl := Option.some.inj H119
            exact ⟨_, (eB v120), rfl, (.of_eq rfl), .of_eq ((enc_b td4 sz4).cut _ _ _), (hH.noT.drop n12)⟩
          · refine awp_loopO (body := fun s => butterylaw18_AdmitBounds_b0 x0 x1 x2 s.1 s.2) hs38 (fun (s : Int × admit_Policy) fr τ => WkF fr (fm [(0, (eI x0)), (1, (eI x1)), (2, ((eL 3 e_butterylaw18_Ask) x2)), (7, (.ref id11 0)), (9, (eI s.1))]) ∧ Holds σ [(id11, (c_admit_Policy s.2))] [] τ) ⟨(wkf_cons (.of_eq rfl) (wkf_cons (.of_eq rfl) (wkf_cons (.of_eq rfl) (wkf_cons (.of_eq rfl) (wkf_cons (.of_eq rfl) (wkf_nil _)))))), hH⟩ ?_
            rintro ⟨c35, c36⟩ fr τ y40 ⟨hfr, hH⟩ hb42 hy43
            have H45 : butterylaw18_AdmitBounds_b0 x0 x1 x2 c35 c36 = some y40 := hb42
            unfold butterylaw18_AdmitBounds_b0 at H45
            refine AWP.fm [(0, (eI x0)), (1, (eI x1)), (2, ((eL 3 e_butterylaw18_Ask) x2)), (7, (.ref id11 0)), (9, (eI c35))] hfr ?_
            have hH : Holds σ [(id11, (c_admit_Policy c36))] [] τ := hH
            refine awp_seq ?_
            refine awp_seq ?_
            refine awp_region rfl ?_
            refine wpo_mv (a := (eI c35)) rfl rfl rfl (o_mv tk rfl (Wk.refl _)) ?_
            refine wpo_mv (a := ((eL 3 e_butterylaw18_Ask) x2)) rfl rfl rfl (o_mv tk rfl (Wk.refl _)) ?_
            refine wpo_lt H45 eI rfl rfl rfl (o_len tk td37 rfl) fun v47 H46 => ?_
            refine wpo_lt H46 eB rfl rfl rfl (o_ar tk rfl rfl rfl) fun v49 H48 => ?_
            refine wpo_nil ?_
            refine awp_if H48 rfl (fun H50 => ?_) (fun H50 => ?_)
            · refine awp_skip ?_
              refine awp_seq ?_
              refine awp_block ?_
              refine awp_seq ?_
              refine awp_drawS mixed [11] rfl (by decide +kernel) rfl rfl ?_
              refine wpdS_mv (a := (.ref id11 0)) rfl rfl rfl (o_mv tk rfl (Wk.refl _)) ?_
              refine wpdS_mv (a := ((eL 3 e_butterylaw18_Ask) x2)) rfl rfl rfl (o_mv tk rfl (Wk.refl _)) ?_
              refine wpdS_mv (a := (eI c35)) rfl rfl rfl (o_mv tk rfl (Wk.refl _)) ?_
              refine wpdS_bd H50 (fun y => .fptr (e_butterylaw18_Ask y).cells 0) rfl rfl rfl (fun v52 hv => o_ixa tk hv td37 enc50 rfl rfl) fun v52 hv52 H51 => ?_
              refine wpdS_mv (a := (.fptr (c_butterylaw18_Ask v52) 0)) rfl rfl rfl (o_c tk false rfl (fun _ => rfl)) ?_
              refine wpdS_mv (a := ((@eU .u64 64) v52.Hash)) rfl rfl rfl (o_ld tk rfl rfl) ?_
              refine wpdS_mv (a := ((eL 3 e_butterylaw18_Ask) x2)) rfl rfl rfl (o_mv tk rfl (Wk.refl _)) ?_
              refine wpdS_mv (a := (eI c35)) rfl rfl rfl (o_mv tk rfl (Wk.refl _)) ?_
              refine wpdS_bd H51 (fun y => .fptr (e_butterylaw18_Ask y).cells 0) rfl rfl rfl (fun v54 hv => o_ixa tk hv td37 enc50 rfl rfl) fun v54 hv54 H53 => ?_
              refine wpdS_mv (a := (.fptr (c_butterylaw18_Ask v54) 1)) rfl rfl rfl (o_c tk false rfl (fun _ => rfl)) ?_
              refine wpdS_mv (a := ((@eU .u8 8) v54.Draw)) rfl rfl rfl (o_ld tk rfl rfl) ?_
              refine wpdS_cb H53 (fun x _ => eB x.1) rfl rfl rfl (fun v56 hv => h_call1 hH [(0, (id11, (c_admit_Policy v56.2)))] ⟨⟨_, rfl⟩, trivial⟩ rfl rfl (.cons (.of_eq rfl) (.cons (.of_eq rfl) (.cons (.of_eq rfl) .nil))) (admit_Policy_Admit_ok hv _ (hH.at_ 0 rfl))) fun v56 _ τ hv56 H55 hH => ?_
              refine wpdS_mv (a := (eB v56.1)) rfl rfl rfl (o_as tk rfl (Wk.refl _)) ?_
              refine wpdS_nil ?_
              refine awp_seq ?_
              refine awp_seq ?_
              obtain ⟨s57, hs59, hj60⟩ := Option.bind_eq_some_iff.1 H55
              refine awp_cutn (fun fr τ => WkF fr (fm [(0, (eI x0)), (1, (eI x1)), (2, ((eL 3 e_butterylaw18_Ask) x2)), (7, (.ref id11 0)), (9, (eI c35)), (61, (eB s57))]) ∧ Holds σ [(id11, (c_admit_Policy v56.2))] [] τ) ?_ ?_
              · rintro fr τ ⟨hfr, hH⟩
                have H72 := hj60
                refine AWP.fm [(0, (eI x0)), (1, (eI x1)), (2, ((eL 3 e_butterylaw18_Ask) x2)), (7, (.ref id11 0)), (9, (eI c35)), (61, (eB s57))] hfr ?_
                refine awp_if H72 rfl (fun H73 => ?_) (fun H73 => ?_)
                · refine awp_seq ?_
                  refine awp_region rfl ?_
                  refine wpo_mv (a := (eB false)) rfl rfl rfl (o_as tk rfl (Wk.refl _)) ?_
                  refine wpo_nil ?_
                  refine awp_ret ?_
                  have hz := hy43 _ (inj_inr H73)
                  refine ⟨⟨_, inj_inr H73⟩, ?_⟩
                  rw [← hz] at hj39
                  have H74 := (show some _ = some _ from hj39)
                  obtain rfl := Option.some.inj H74
                  exact ⟨_, (eB false), rfl, (.of_eq rfl), .of_eq ((enc_b td4 sz4).cut _ _ _), (hH.noT.drop n12)⟩
                · refine awp_skip ?_
                  refine awp_seq ?_
                  refine awp_region rfl ?_
                  refine wpo_mv (a := (.ref id11 0)) rfl rfl rfl (o_mv tk rfl (Wk.refl _)) ?_
                  refine wpo_bdr H73 (eL 1 (@eU .u64 64)) rfl rfl rfl (fun v76 hv => h_callr rfl rfl (.cons (.of_eq rfl) .nil) (admit_Policy_Ghosts_ok hv _ (hH.at_ 0 rfl))) fun v76 hv76 H75 => ?_
                  refine wpo_mv (a := ((eL 1 (@eU .u64 64)) v76)) rfl rfl rfl (o_as tk rfl (Wk.refl _)) ?_
                  refine wpo_nil ?_
                  refine awp_seq ?_
                  refine awp_seq ?_
                  refine awp_region rfl ?_
                  refine wpo_mv (a := ((eL 1 (@eU .u64 64)) v76)) rfl rfl rfl (o_mv tk rfl (Wk.refl _)) ?_
                  refine wpo_lt H75 eI rfl rfl rfl (o_len tk td41 rfl) fun v78 H77 => ?_
                  refine wpo_mv (a := (eI x1)) rfl rfl rfl (o_mv tk rfl (Wk.refl _)) ?_
                  refine wpo_lt H77 eB rfl rfl rfl (o_ar tk rfl rfl rfl) fun v80 H79 => ?_
                  refine wpo_nil ?_
                  refine awp_if H79 rfl (fun H81 => ?_) (fun H81 => ?_)
                  · refine awp_seq ?_
                    refine awp_region rfl ?_
                    refine wpo_mv (a := (eB false)) rfl rfl rfl (o_as tk rfl (Wk.refl _)) ?_
                    refine wpo_nil ?_
                    refine awp_ret ?_
                    have hz := hy43 _ (inj_inr H81)
                    refine ⟨⟨_, inj_inr H81⟩, ?_⟩
                    rw [← hz] at hj39
                    have H82 := (show some _ = some _ from hj39)
                    obtain rfl := Option.some.inj H82
                    exact ⟨_, (eB false), rfl, (.of_eq rfl), .of_eq ((enc_b td4 sz4).cut _ _ _), (hH.noT.drop n12)⟩
                  · refine awp_skip ?_
                    refine awp_seq ?_
                    refine awp_region rfl ?_
                    refine wpo_mv (a := (eI (0 : Int))) rfl rfl rfl (o_as tk rfl (Wk.refl _)) ?_
                    refine wpo_nil ?_
                    refine awp_block ?_
                    obtain ⟨o84, hs85, hj86⟩ := Option.bind_eq_some_iff.1 H81
                    refine awp_cutx 2 (fun fr τ => ∃ s91 : Unit, o84 = .inl s91 ∧ WkF fr (fm [(0, (eI x0)), (1, (eI x1)), (2, ((eL 3 e_butterylaw18_Ask) x2)), (7, (.ref id11 0)), (9, (eI c35))]) ∧ Holds σ [(id11, (c_admit_Policy v56.2))] [] τ) ?_ ?_
                    · rintro fr τ ⟨s91, rfl, hfr, hH⟩
                      have H115 := hj86
                      simp only [Sum.elim_inl] at H115
                      refine AWP.fm [(0, (eI x0)), (1, (eI x1)), (2, ((eL 3 e_butterylaw18_Ask) x2)), (7, (.ref id11 0)), (9, (eI c35))] hfr ?_
                      refine awp_region rfl ?_
                      refine wpo_mv (a := (eI c35)) rfl rfl rfl (o_mv tk rfl (Wk.refl _)) ?_
                      refine wpo_lt H115 eI rfl rfl rfl (o_ar tk rfl rfl rfl) fun v117 H116 => ?_
                      refine wpo_mv (a := (eI v117)) rfl rfl rfl (o_as tk rfl (Wk.refl _)) ?_
                      refine wpo_nil ?_
                      exact ⟨(v117, v56.2), inj_inl H116, (wkf_cons (.of_eq rfl) (wkf_cons (.of_eq rfl) (wkf_cons (.of_eq rfl) (wkf_cons (.of_eq rfl) (wkf_cons (.of_eq rfl) (wkf_nil _)))))), hH⟩
                    · refine awp_loopO (body := fun s => butterylaw18_AdmitBounds_b1 x0 x1 x2 c35 v56 v76 s) hs85 (fun (s : Int) fr τ => WkF fr (fm [(0, (eI x0)), (1, (eI x1)), (2, ((eL 3 e_butterylaw18_Ask) x2)), (7, (.ref id11 0)), (9, (eI c35)), (11, ((eL 1 (@eU .u64 64)) v76)), (12, (eI s))]) ∧ Holds σ [(id11, (c_admit_Policy v56.2))] [] τ) ⟨(wkf_cons (.of_eq rfl) (wkf_cons (.of_eq rfl) (wkf_cons (.of_eq rfl) (wkf_cons (.of_eq rfl) (wkf_cons (.of_eq rfl) (wkf_cons (.of_eq rfl) (wkf_cons (.of_eq rfl) (wkf_nil _)))))))), hH⟩ ?_
                      rintro c83 fr τ y87 ⟨hfr, hH⟩ hb89 hy90
                      have H92 : butterylaw18_AdmitBounds_b1 x0 x1 x2 c35 v56 v76 c83 = some y87 := hb89
                      unfold butterylaw18_AdmitBounds_b1 at H92
                      refine AWP.fm [(0, (eI x0)), (1, (eI x1)), (2, ((eL 3 e_butterylaw18_Ask) x2)), (7, (.ref id11 0)), (9, (eI c35)), (11, ((eL 1 (@eU .u64 64)) v76)), (12, (eI c83))] hfr ?_
                      have hH : Holds σ [(id11, (c_admit_Policy v56.2))] [] τ := hH
                      refine awp_seq ?_
                      refine awp_seq ?_
                      refine awp_region rfl ?_
                      refine wpo_mv (a := (eI c83)) rfl rfl rfl (o_mv tk rfl (Wk.refl _)) ?_
                      refine wpo_mv (a := ((eL 1 (@eU .u64 64)) v76)) rfl rfl rfl (o_mv tk rfl (Wk.refl _)) ?_
                      refine wpo_lt H92 eI rfl rfl rfl (o_len tk td41 rfl) fun v94 H93 => ?_
                      refine wpo_lt H93 eB rfl rfl rfl (o_ar tk rfl rfl rfl) fun v96 H95 => ?_
                      refine wpo_nil ?_
                      refine awp_if H95 rfl (fun H97 => ?_) (fun H97 => ?_)
                      · refine awp_skip ?_
                        refine awp_seq ?_
                        refine awp_block ?_
                        refine awp_seq ?_
                        refine awp_region rfl ?_
                        refine wpo_mv (a := ((eL 1 (@eU .u64 64)) v76)) rfl rfl rfl (o_mv tk rfl (Wk.refl _)) ?_
                        refine wpo_mv (a := ((eL 1 (@eU .u64 64)) v76)) rfl rfl rfl (o_mv tk rfl (Wk.refl _)) ?_
                        refine wpo_mv (a := (eI c83)) rfl rfl rfl (o_mv tk rfl (Wk.refl _)) ?_
                        refine wpo_bd H97 (fun y => .fptr ((@eU .u64 64) y).cells 0) rfl rfl rfl (fun v99 hv => o_ixa tk hv td41 (enc_u td48 sz48) rfl rfl) fun v99 hv99 H98 => ?_
                        refine wpo_mv (a := ((@eU .u64 64) v99)) rfl rfl rfl (o_ld_e tk (enc_u td48 sz48) rfl rfl) ?_
                        refine wpo_bd H98 (eL 1 (@eU .u64 64)) rfl rfl rfl (fun v101 hv => OpP.of_call rfl rfl (.cons (.of_eq rfl) (.cons (.of_eq rfl) .nil)) (butteryref18_But_ok hv)) fun v101 hv101 H100 => ?_
                        refine wpo_lt H100 eI rfl rfl rfl (o_len tk td41 rfl) fun v103 H102 => ?_
                        refine wpo_mv (a := ((eL 1 (@eU .u64 64)) v76)) rfl rfl rfl (o_mv tk rfl (Wk.refl _)) ?_
                        refine wpo_lt H102 eI rfl rfl rfl (o_len tk td41 rfl) fun v105 H104 => ?_
                        refine wpo_lt H104 eI rfl rfl rfl (o_ar tk rfl rfl rfl) fun v107 H106 => ?_
                        refine wpo_lt H106 eB rfl rfl rfl (o_ar tk rfl rfl rfl) fun v109 H108 => ?_
                        refine wpo_nil ?_
                        refine awp_if H108 rfl (fun H110 => ?_) (fun H110 => ?_)
                        · refine awp_seq ?_
                          refine awp_region rfl ?_
                          refine wpo_mv (a := (eB false)) rfl rfl rfl (o_as tk rfl (Wk.refl _)) ?_
                          refine wpo_nil ?_
                          refine awp_ret ?_
                          have hz := hy90 _ (inj_inr H110)
                          refine ⟨⟨_, inj_inr H110⟩, ?_⟩
                          rw [← hz] at hj86
                          have H111 := (show some _ = some _ from hj86)
                          have hz := hy43 _ (inj_inr H111)
                          refine ⟨⟨_, inj_inr H111⟩, ?_⟩
                          rw [← hz] at hj39
                          have H112 := (show some _ = some _ from hj39)
                          obtain rfl := Option.some.inj H112
                          exact ⟨_, (eB false), rfl, (.of_eq rfl), .of_eq ((enc_b td4 sz4).cut _ _ _), (hH.noT.drop n12)⟩
                        · refine awp_skip ?_
                          refine awp_region rfl ?_
                          refine wpo_mv (a := (eI c83)) rfl rfl rfl (o_mv tk rfl (Wk.refl _)) ?_
                          refine wpo_lt H110 eI rfl rfl rfl (o_ar tk rfl rfl rfl) fun v114 H113 => ?_
                          refine wpo_mv (a := (eI v114)) rfl rfl rfl (o_as tk rfl (Wk.refl _)) ?_
                          refine wpo_nil ?_
                          exact ⟨v114, inj_inl H113, (wkf_cons (.of_eq rfl) (wkf_cons (.of_eq rfl) (wkf_cons (.of_eq rfl) (wkf_cons (.of_eq rfl) (wkf_cons (.of_eq rfl) (wkf_cons (.of_eq rfl) (wkf_cons (.of_eq rfl) (wkf_nil _)))))))), hH⟩
                      · refine awp_exit ?_
                        have hz := hy90 _ (inj_inr H97)
                        exact ⟨⟨_, inj_inr H97⟩, (), hz.symm, (wkf_cons (.of_eq rfl) (wkf_cons (.of_eq rfl) (wkf_cons (.of_eq rfl) (wkf_cons (.of_eq rfl) (wkf_cons (.of_eq rfl) (wkf_nil _)))))), hH⟩
              · refine awp_region rfl ?_
                refine wpo_mv (a := (eI x1)) rfl rfl rfl (o_mv tk rfl (Wk.refl _)) ?_
                refine wpo_lt hs59 eB rfl rfl rfl (o_ar tk rfl rfl rfl) fun v62 H61 => ?_
                refine wpo_mv (a := (eB v62)) rfl rfl rfl (o_mv tk rfl (Wk.refl _)) ?_
                refine if_split H61 (fun hb H63 => ?_) (fun hb H63 => ?_)
                · subst hb
                  refine wpo_mv (a := (eB v56.1)) rfl rfl rfl (o_mv tk rfl (Wk.refl _)) ?_
                  refine wpo_mv (a := ((eL 3 e_butterylaw18_Ask) x2)) rfl rfl rfl (o_mv tk rfl (Wk.refl _)) ?_
                  refine wpo_mv (a := (eI c35)) rfl rfl rfl (o_mv tk rfl (Wk.refl _)) ?_
                  refine wpo_bd H63 (fun y => .fptr (e_butterylaw18_Ask y).cells 0) rfl rfl rfl (fun v65 hv => o_ixa tk hv td37 enc50 rfl rfl) fun v65 hv65 H64 => ?_
                  refine wpo_mv (a := (.fptr (c_butterylaw18_Ask v65) 1)) rfl rfl rfl (o_c tk false rfl (fun _ => rfl)) ?_
                  refine wpo_mv (a := ((@eU .u8 8) v65.Draw)) rfl rfl rfl (o_ld tk rfl rfl) ?_
                  refine wpo_lt H64 eI rfl rfl rfl (o_cv_ui tk td5 td3 (by decide) rfl) fun v67 H66 => ?_
                  refine wpo_mv (a := (eI x0)) rfl rfl rfl (o_mv tk rfl (Wk.refl _)) ?_
                  refine wpo_lt H66 eB rfl rfl rfl (o_ar tk rfl rfl rfl) fun v69 H68 => ?_
                  refine wpo_lt H68 eB rfl rfl rfl (o_bool_neq tk td4 rfl rfl) fun v71 H70 => ?_
                  refine wpo_mv (a := (eB v71)) rfl rfl rfl (o_pick_t tk rfl rfl (Wk.refl _)) ?_
                  refine wpo_nil ?_
                  have e := Option.some.inj H70
                  subst e
                  exact ⟨(wkf_cons (.of_eq rfl) (wkf_cons (.of_eq rfl) (wkf_cons (.of_eq rfl) (wkf_cons (.of_eq rfl) (wkf_cons (.of_eq rfl) (wkf_cons (.of_eq rfl) (wkf_nil _))))))), hH⟩
                · subst hb
                  refine wpo_skip rfl rfl rfl ?_
                  refine wpo_skip rfl rfl rfl ?_
                  refine wpo_skip rfl rfl rfl ?_
                  refine wpo_skip rfl rfl rfl ?_
                  refine wpo_skip rfl rfl rfl ?_
                  refine wpo_skip rfl rfl rfl ?_
                  refine wpo_skip rfl rfl rfl ?_
                  refine wpo_skip rfl rfl rfl ?_
                  refine wpo_skip rfl rfl rfl ?_
                  refine wpo_skip rfl rfl rfl ?_
                  refine wpo_mv (a := (eB false)) rfl rfl rfl (o_pick_f tk rfl rfl (Wk.refl _)) ?_
                  refine wpo_nil ?_
                  have e := Option.some.inj H63
                  subst e
                  exact ⟨(wkf_cons (.of_eq rfl) (wkf_cons (.of_eq rfl) (wkf_cons (.of_eq rfl) (wkf_cons (.of_eq rfl) (wkf_cons (.of_eq rfl) (wkf_cons (.of_eq rfl) (wkf_nil _))))))), hH⟩
            · refine awp_exit ?_
              have hz := hy43 _ (inj_inr H50)
              exact ⟨⟨_, inj_inr H50⟩, c36, hz.symm, (wkf_nil _), hH⟩
      · refine awp_region rfl ?_
        refine wpo_mv (a := (eErr v9.2)) rfl rfl rfl (o_mv tk rfl (Wk.refl _)) ?_
        refine wpo_lt hs26 eB rfl rfl rfl (o_err_neq tk rfl rfl rfl) fun v29 H28 => ?_
        refine wpo_mv (a := (eB v29)) rfl rfl rfl (o_mv tk rfl (Wk.refl _)) ?_
        refine if_split H28 (fun hb H30 => ?_) (fun hb H30 => ?_)
        · subst hb
          refine wpo_skip rfl rfl rfl ?_
          refine wpo_skip rfl rfl rfl ?_
          refine wpo_mv (a := (eB true)) rfl rfl rfl (o_pick_t tk rfl rfl (Wk.refl _)) ?_
          refine wpo_nil ?_
          have e := Option.some.inj H30
          subst e
          exact ⟨(wkf_cons (.of_eq rfl) (wkf_cons (.of_eq rfl) (wkf_cons (.of_eq rfl) (wkf_cons (.of_eq rfl) (wkf_cons (.of_eq rfl) (wkf_nil _)))))), hH⟩
        · subst hb
          refine wpo_mv (a := (.ref id11 0)) rfl rfl rfl (o_mv tk rfl (Wk.refl _)) ?_
          refine wpo_mv (a := (eB false)) rfl rfl rfl (o_c tk false rfl (fun _ => rfl)) ?_
          refine wpo_mv (a := (eB false)) rfl rfl rfl (o_pick_f tk rfl rfl (Wk.refl _)) ?_
          refine wpo_nil ?_
          have e := Option.some.inj H30
          subst e
          exact ⟨(wkf_cons (.of_eq rfl) (wkf_cons (.of_eq rfl) (wkf_cons (.of_eq rfl) (wkf_cons (.of_eq rfl) (wkf_cons (.of_eq rfl) (wkf_nil _)))))), hH⟩
end Go.Proofs.YthjabhcbkbchjaaDoor
namespace Go.Proofs.YthjabhcbkbchjaaDoor
open Go Go.Va
set_option linter.unusedVariables false
set_option linter.unusedSimpArgs false
set_option maxRecDepth 20000
noncomputable def butteryref18_Admit (x0 : butteryref18_Policy) (x1 : BitVec 64) (x2 : Int) : Option (butteryref18_Policy × Bool) :=
  (butteryref18_But x0.L x1).bind fun v7 =>
  (
    lt (decide (x0.Limit > (0 : Int))) fun v15 =>
    if v15 = true then
      lt (((({ ((⟨x0.Chance, x0.Limit, ([] : List (BitVec 64))⟩ : butteryref18_Policy) : butteryref18_Policy) with L := v7 } : butteryref18_Policy).L).length : Int)) fun v18 =>
      lt (((x0.L).length : Int)) fun v20 =>
      lt (v18 == v20) fun v22 =>
      some v22
    else
      some false
   : Option (Bool)).bind fun s10 =>
    if s10 = true then
      lt (([x1] : List (BitVec 64))) fun v26 =>
      (app 8 (({ ((⟨x0.Chance, x0.Limit, ([] : List (BitVec 64))⟩ : butteryref18_Policy) : butteryref18_Policy) with L := v7 } : butteryref18_Policy).L) v26).bind fun v28 =>
      lt (((({ ({ ((⟨x0.Chance, x0.Limit, ([] : List (BitVec 64))⟩ : butteryref18_Policy) : butteryref18_Policy) with L := v7 } : butteryref18_Policy) with L := v28 } : butteryref18_Policy).L).length : Int)) fun v33 =>
      lt (decide (v33 > x0.Limit)) fun v35 =>
      if v35 = true then
        (cutFrom (({ ({ ((⟨x0.Chance, x0.Limit, ([] : List (BitVec 64))⟩ : butteryref18_Policy) : butteryref18_Policy) with L := v7 } : butteryref18_Policy) with L := v28 } : butteryref18_Policy).L) (1 : Int)).bind fun v38 =>
        some ((({ ({ ({ ((⟨x0.Chance, x0.Limit, ([] : List (BitVec 64))⟩ : butteryref18_Policy) : butteryref18_Policy) with L := v7 } : butteryref18_Policy) with L := v28 } : butteryref18_Policy) with L := v38 } : butteryref18_Policy) : butteryref18_Policy), false)
      else
        some ((({ ({ ((⟨x0.Chance, x0.Limit, ([] : List (BitVec 64))⟩ : butteryref18_Policy) : butteryref18_Policy) with L := v7 } : butteryref18_Policy) with L := v28 } : butteryref18_Policy) : butteryref18_Policy), false)
    else
      lt (decide (x2 < x0.Chance)) fun v43 =>
      some ((({ ((⟨x0.Chance, x0.Limit, ([] : List (BitVec 64))⟩ : butteryref18_Policy) : butteryref18_Policy) with L := v7 } : butteryref18_Policy) : butteryref18_Policy), v43)
end Go.Proofs.YthjabhcbkbchjaaDoor
namespace Go.Proofs.YthjabhcbkbchjaaDoor
open Go Go.Va
set_option linter.unusedVariables false
set_option linter.unusedSimpArgs false
set_option maxRecDepth 20000
noncomputable def butteryref18_Same_b0 (x0 : List (BitVec 64)) (x1 : List (BitVec 64)) (c8 : Int) : Option ((Int) ⊕ (Unit ⊕ (Bool))) :=
  lt (((x0).length : Int)) fun v19 =>
  lt (decide (c8 < v19)) fun v21 =>
  if v21 = true then
    (ix x0 c8).bind fun v24 =>
    (ix x1 c8).bind fun v26 =>
    lt (v24 != v26) fun v28 =>
    if v28 = true then
      some (.inr (.inr false))
    else
      lt (w64 (c8 + (1 : Int))) fun v32 =>
      some (.inl v32)
  else
    some (.inr (.inl ()))
noncomputable def butteryref18_Same_l0 (x0 : List (BitVec 64)) (x1 : List (BitVec 64)) (s : Int) : Option (Unit ⊕ (Bool)) := loopO (fun s => butteryref18_Same_b0 x0 x1 s) s
noncomputable def butteryref18_Same (x0 : List (BitVec 64)) (x1 : List (BitVec 64)) : Option (Bool) :=
  lt (((x0).length : Int)) fun v2 =>
  lt (((x1).length : Int)) fun v4 =>
  lt (v2 != v4) fun v6 =>
  if v6 = true then
    some false
  else
    (butteryref18_Same_l0 x0 x1 (0 : Int)).bind fun o9 =>
      Sum.elim (fun s16 : Unit =>
        some true
        ) (fun y => some y) o9
end Go.Proofs.YthjabhcbkbchjaaDoor
namespace Go.Proofs.YthjabhcbkbchjaaDoor
open Go Go.Va
set_option linter.unusedVariables false
set_option linter.unusedSimpArgs false
set_option maxRecDepth 20000
noncomputable def butteryref18_New (x0 : Int) (x1 : Int) : Option (butteryref18_Policy × Int) :=
  (
    lt (decide (x0 < (0 : Int))) fun v8 =>
    if v8 = true then
      some true
    else
      lt (decide (x0 > (256 : Int))) fun v11 =>
      if v11 = true then
        some true
      else
        lt (decide (x1 < (0 : Int))) fun v14 =>
        if v14 = true then
          some true
        else
          lt (decide (x1 > (64 : Int))) fun v17 =>
          some v17
   : Option (Bool)).bind fun s3 =>
    if s3 = true then
      some (((⟨(0 : Int), (0 : Int), ([] : List (BitVec 64))⟩ : butteryref18_Policy) : butteryref18_Policy), (2 : Int))
    else
      some (((⟨x0, x1, ([] : List (BitVec 64))⟩ : butteryref18_Policy) : butteryref18_Policy), (0 : Int))
end Go.Proofs.YthjabhcbkbchjaaDoor
namespace Go.Va
open Go
set_option linter.unusedVariables false
set_option linter.unusedSimpArgs false
theorem shr64_nat {n m : Nat} (h : m ≤ 64) : shr64 (n : Int) m = ((n / 2 ^ m : Nat) : Int) := by
  unfold shr64
  rw [Nat.min_eq_left h]
  have : (2 : Int) ^ m = ((2 ^ m : Nat) : Int) := by simp
  rw [this, Int.fdiv_eq_ediv_of_nonneg _ (Int.natCast_nonneg _), ← Int.natCast_ediv]
theorem quo64_nat {n m : Nat} (h : n < 9223372036854775808) : quo64 (n : Int) (m : Int) = ((n / m : Nat) : Int) := by
  unfold quo64
  have := Nat.div_le_self n m
  rw [Int.tdiv_eq_ediv_of_nonneg (Int.natCast_nonneg _), ← Int.natCast_ediv]
  generalize n / m = q at *
  exact w64_eq (by omega) (by omega)
theorem tmod_nat (n m : Nat) : Int.tmod (n : Int) (m : Int) = ((n % m : Nat) : Int) := by
  rw [Int.tmod_eq_emod_of_nonneg (Int.natCast_nonneg _)]; rfl
theorem or_low (a b : Nat) (h : b < 128) : a * 128 ||| b = a * 128 + b := by
  have := Nat.two_pow_add_eq_or_of_lt (i := 7) (b := b) (by omega) a
  rw [show 2 ^ 7 * a + b = a * 128 + b by omega, show 2 ^ 7 * a = a * 128 by omega] at this
  exact this.symm
theorem or64_nat {a b : Nat} (ha : a < 9223372036854775808) (hb : b < 9223372036854775808) : or64 (a : Int) (b : Int) = ((a ||| b : Nat) : Int) := by
  have h : a ||| b < 2 ^ 63 := Nat.or_lt_two_pow (by omega) (by omega)
  show w64 ((BitVec.ofInt 64 (a : Int) ||| BitVec.ofInt 64 (b : Int) : BitVec 64).toNat : Int) = _
  rw [BitVec.toNat_or, BitVec.toNat_ofInt, BitVec.toNat_ofInt]
  have e1 : ((a : Int) % ((2 ^ 64 : Nat) : Int)).toNat = a := by omega
  have e2 : ((b : Int) % ((2 ^ 64 : Nat) : Int)).toNat = b := by omega
  rw [e1, e2, w64_eq (by omega) (by omega)]
theorem shl64_7 {a : Nat} (ha : a < 72057594037927936) : shl64 (a : Int) 7 = ((a * 128 : Nat) : Int) := by
  unfold shl64
  rw [w64_eq] <;> simp <;> omega
theorem or64_7 {a b : Nat} (ha : a < 72057594037927936) (hb : b < 128) : or64 (shl64 (a : Int) 7) (b : Int) = ((a * 128 + b : Nat) : Int) := by
  rw [shl64_7 ha, or64_nat (by omega) (by omega), or_low a b hb]
theorem byte_and (x : BitVec 8) : (x &&& 127#8).toNat = x.toNat % 128 := by
  rw [BitVec.toNat_and, show (127#8).toNat = 2 ^ 7 - 1 from rfl, Nat.and_two_pow_sub_one_eq_mod]
theorem byte_or (x : BitVec 8) : x ||| 128#8 = BitVec.ofNat 8 (x.toNat % 128 + 128) := by
  have : ∀ y : Fin 256, (BitVec.ofFin y : BitVec 8) ||| 128#8 = BitVec.ofNat 8 ((BitVec.ofFin y : BitVec 8).toNat % 128 + 128) := by decide +kernel
  exact this x.toFin
theorem byte_and' (x : BitVec 8) : x &&& 127#8 = BitVec.ofNat 8 (x.toNat % 128) := by
  apply BitVec.eq_of_toNat_eq
  rw [byte_and]; simp
  have := x.isLt
  omega
theorem byte_int (n : Nat) : BitVec.ofInt 8 (n : Int) = BitVec.ofNat 8 n := by
  apply BitVec.eq_of_toNat_eq
  simp [BitVec.toNat_ofInt]
theorem byte_hi (n : Nat) : BitVec.ofInt 8 (n : Int) ||| 128#8 = BitVec.ofNat 8 (n % 128 + 128) := by
  rw [byte_int, byte_or]; congr 1; simp
theorem byte_lo (n : Nat) : BitVec.ofInt 8 (n : Int) &&& 127#8 = BitVec.ofNat 8 (n % 128) := by
  rw [byte_int, byte_and']; congr 1; simp
/-! ### seven bits a byte -/
/-- The bytes that go on. -/
def pre (m : Nat) : List (BitVec 8) := if m = 0 then [] else pre (m / 128) ++ [BitVec.ofNat 8 (m % 128 + 128)]
termination_by m
decreasing_by omega
def num7 (n : Nat) : List (BitVec 8) := pre (n / 128) ++ [BitVec.ofNat 8 (n % 128)]
theorem pre_zero : pre 0 = [] := by rw [pre]; rfl
theorem pre_pos {m : Nat} (h : 0 < m) : pre m = pre (m / 128) ++ [BitVec.ofNat 8 (m % 128 + 128)] := by
  rw [pre, if_neg (by omega)]
theorem pre_len : ∀ (k m : Nat), m < 128 ^ k → (pre m).length ≤ k
  | 0, m, h => by
    have : m = 0 := by simpa using h
    subst this; rw [pre_zero]; simp
  | k + 1, m, h => by
    by_cases h0 : m = 0
    · subst h0; rw [pre_zero]; simp
    · rw [pre_pos (by omega)]
      have := pre_len k (m / 128) (by rw [Nat.div_lt_iff_lt_mul (by decide)]; rw [Nat.pow_succ] at h; exact h)
      simp; exact this
theorem num7_len {n : Nat} (h : n < 9223372036854775808) : (num7 n).length ≤ 9 := by
  have := pre_len 8 (n / 128) (by omega)
  simp [num7]; omega
theorem num7_small {n : Nat} (h : n < 128) : num7 n = [BitVec.ofNat 8 n] := by
  rw [num7, show n / 128 = 0 by omega, pre_zero, Nat.mod_eq_of_lt h]; rfl
/-- The same from the highest one on. -/
def seq7 (n : Nat) : Nat → List (BitVec 8)
  | 0 => []
  | c + 1 => BitVec.ofNat 8 (n / 128 ^ (c + 1) % 128 + 128) :: seq7 n c
theorem seq7_snoc (n : Nat) : ∀ c, seq7 n (c + 1) = seq7 (n / 128) c ++ [BitVec.ofNat 8 (n / 128 % 128 + 128)]
  | 0 => by simp [seq7]
  | c + 1 => by
    rw [seq7, seq7_snoc n c, seq7]
    simp only [List.cons_append]
    rw [Nat.div_div_eq_div_mul, ← Nat.pow_succ']
theorem seq7_pre : ∀ (h n : Nat), n / 128 ^ h < 128 → (∀ j, j < h → 128 ≤ n / 128 ^ j) → seq7 n h = pre (n / 128)
  | 0, n, h1, h2 => by
    rw [show n / 128 = 0 by simp at h1; omega, pre_zero]; rfl
  | h + 1, n, h1, h2 => by
    have h0 := h2 0 (by omega)
    simp at h0
    rw [seq7_snoc, pre_pos (by omega), seq7_pre h (n / 128) (by rw [Nat.div_div_eq_div_mul, ← Nat.pow_succ']; exact h1) (fun j hj => by
      rw [Nat.div_div_eq_div_mul, ← Nat.pow_succ']; exact h2 (j + 1) (by omega))]
/-- How many bytes. -/
def nlen (n : Nat) : Nat := if n < 128 then 1 else nlen (n / 128) + 1
termination_by n
decreasing_by omega
theorem nlen_lt {n : Nat} (h : n < 128) : nlen n = 1 := by rw [nlen, if_pos h]
theorem nlen_ge {n : Nat} (h : 128 ≤ n) : nlen n = nlen (n / 128) + 1 := by rw [nlen, if_neg (by omega)]
/-! ### reading -/
def up7 : Int ⊕ (Nat × Nat) → Int ⊕ (Nat × Nat)
  | .inl e => .inl e
  | .inr (m, k) => .inr (m, k + 1)
/-- What a number is that begins here, and how many bytes it has; or what is wrong first. -/
def rd7 (most : Nat) : List (BitVec 8) → Bool → Nat → Int ⊕ (Nat × Nat)
  | [], _, _ => .inl 6
  | c :: l, f, n =>
    if c = 128#8 ∧ f = true then .inl 5 else if most / 128 < n then .inl 2 else
    if 128 ≤ c.toNat then up7 (rd7 most l false (n * 128 + c.toNat % 128))
    else if most < n * 128 + c.toNat then .inl 2 else .inr (n * 128 + c.toNat, 1)
theorem rd7_le {most : Nat} : ∀ {l : List (BitVec 8)} {f : Bool} {n m k : Nat}, rd7 most l f n = .inr (m, k) → m ≤ most ∧ 1 ≤ k ∧ k ≤ l.length
  | [], f, n, m, k, h => by simp [rd7] at h
  | c :: l, f, n, m, k, h => by
    simp only [rd7] at h
    split at h
    · cases h
    · split at h
      · cases h
      · split at h
        · cases hr : rd7 most l false (n * 128 + c.toNat % 128) with
          | inl e => rw [hr] at h; cases h
          | inr p =>
            obtain ⟨m', k'⟩ := p
            rw [hr] at h
            simp only [up7, Sum.inr.injEq, Prod.mk.injEq] at h
            obtain ⟨rfl, rfl⟩ := h
            have := rd7_le hr
            simp; omega
        · split at h
          · cases h
          · simp only [Sum.inr.injEq, Prod.mk.injEq] at h
            obtain ⟨rfl, rfl⟩ := h
            simp; omega
end Go.Va
namespace Go.Proofs.YthjabhcbkbchjaaDoor
open Go Go.Va
set_option linter.unusedVariables false
set_option linter.unusedSimpArgs false
/-- A policy whose ring holds these hashes. -/
structure ast (p : admit_Policy) (L C : Int) (l : List (BitVec 64)) : Prop where
  lim : p.limit = L
  cha : p.chance = C
  l0 : 0 ≤ L
  l1 : L ≤ 64
  f0 : 0 ≤ p.first_
  f1 : p.first_ < 64
  cnt : p.count = (l.length : Int)
  le : (l.length : Int) ≤ L
  at_ : ∀ i : Nat, i < l.length → l[i]? = some (p.ring.toList.getD ((p.first_.toNat + i) % 64) 0)
  nd : l.Nodup
theorem ring_ix {p : admit_Policy} {k : Nat} (hk : k < 64) : ixA 64 p.ring.toList (k : Int) = some (p.ring.toList.getD k 0) := by
  have hl : k < p.ring.toList.length := by simp; exact hk
  rw [ixA_nat hk hl]
  rw [List.getD_eq_getElem?_getD, List.getElem?_eq_getElem hl, Option.getD_some]
theorem chk64 {k : Nat} (hk : k < 64) : chk 64 (k : Int) = some () := by unfold chk; rw [if_pos ⟨by omega, by omega⟩]
theorem idx_eq {f : Int} (h0 : 0 ≤ f) (h1 : f < 64) {i : Nat} (hi : i ≤ 64) : Int.tmod (w64 (f + (i : Int))) 64 = (((f.toNat + i) % 64 : Nat) : Int) := by
  rw [w64_eq (by omega) (by omega)]
  have e : f + (i : Int) = ((f.toNat + i : Nat) : Int) := by omega
  rw [e, show (64 : Int) = ((64 : Nat) : Int) from rfl, tmod_nat]
theorem ghosts_eq {p : admit_Policy} {L C : Int} {l : List (BitVec 64)} (h : ast p L C l) : admit_Policy_Ghosts p = some l := by
  have hle := h.le
  have hl1 := h.l1
  have k := loopO_up (body := fun s => admit_Policy_Ghosts_b0 p s.1 s.2) (fun i : Nat => (l.take i, (i : Int))) l.length (x := l) (fun i hi => by
    simp only [admit_Policy_Ghosts_b0, lt_eq, h.cnt]
    rw [if_pos (decide_eq_true (by omega)), idx_eq h.f0 h.f1 (by omega), chk64 (Nat.mod_lt _ (by omega)), ring_ix (Nat.mod_lt _ (by omega))]
    simp only [Option.bind_some]
    rw [app_eq (by simp; omega), w64_nat (by omega)]
    simp only [Option.bind_some]
    rw [List.take_add_one, h.at_ i hi]
    rfl) (by
    simp only [admit_Policy_Ghosts_b0, lt_eq, h.cnt, List.take_length]
    rw [if_neg (by rw [decide_eq_false (by omega)]; simp)])
  have k' : admit_Policy_Ghosts_l0 p ([], 0) = some l := k
  unfold admit_Policy_Ghosts
  rw [k']; rfl
theorem ghostsV_eq {p : admit_Policy} {L C : Int} {l : List (BitVec 64)} (h : ast p L C l) : admit_Policy_GhostsV p = some l := by
  rw [← ghosts_eq h]; rfl
theorem index_l (l : List (BitVec 64)) (x : BitVec 64) (hl : l.length < 9223372036854775807) : ∀ (post pre : List (BitVec 64)), l = pre ++ post → x ∉ pre → slices_Index_uint64_uint64_l0 l x (l.length : Int) (pre.length : Int) = some (if x ∈ post then .inr ((pre.length + post.findIdx (· == x) : Nat) : Int) else .inl ())
  | [], pre, hl', hp => by
    refine loopO_out ?_
    simp only [slices_Index_uint64_uint64_b0, lt_eq]
    rw [if_neg (by rw [decide_eq_false (by rw [hl']; simp)]; simp)]
    simp
  | y :: post, pre, hl', hp => by
    have hlt : pre.length < l.length := by rw [hl']; simp
    have hy : l[pre.length] = y := by simp [hl']
    by_cases hxy : x = y
    · subst hxy
      rw [if_pos List.mem_cons_self]
      refine loopO_out ?_
      simp only [slices_Index_uint64_uint64_b0, lt_eq]
      rw [if_pos (decide_eq_true (by omega)), ix_nat hlt, hy]
      simp [List.findIdx_cons]
    · have ih := index_l l x hl post (pre ++ [y]) (by rw [hl']; simp) (by simp [hp, hxy])
      have e : slices_Index_uint64_uint64_l0 l x (l.length : Int) (pre.length : Int) = slices_Index_uint64_uint64_l0 l x (l.length : Int) ((pre ++ [y]).length : Int) := by
        refine loopO_in (body := fun s => slices_Index_uint64_uint64_b0 l x (l.length : Int) s) ?_
        simp only [slices_Index_uint64_uint64_b0, lt_eq]
        rw [if_pos (decide_eq_true (by omega)), ix_nat hlt, hy]
        simp only [Option.bind_some]
        rw [if_neg (by simpa using hxy), w64_nat (by omega)]
        simp
      rw [e, ih]
      have hyx : (y == x) = false := by simpa using fun h => hxy h.symm
      by_cases hm : x ∈ post
      · rw [if_pos hm, if_pos (List.mem_cons_of_mem _ hm)]
        simp [List.findIdx_cons, hyx]
        omega
      · rw [if_neg hm, if_neg (by simp [hxy, hm])]
theorem index_eq (l : List (BitVec 64)) (x : BitVec 64) (hl : l.length < 9223372036854775807) : slices_Index_uint64_uint64 l x = some (if x ∈ l then ((l.findIdx (· == x) : Nat) : Int) else -1) := by
  have := index_l l x hl l [] rfl (by simp)
  simp only [slices_Index_uint64_uint64, lt_eq]
  rw [show (0 : Int) = (([] : List (BitVec 64)).length : Int) from rfl, this]
  split <;> simp
/-- What is asked, answered, and remembered then. -/
def aS (L C : Int) (l : List (BitVec 64)) (h : BitVec 64) (d : Nat) : Bool × List (BitVec 64) :=
  if L > 0 then (if h ∈ l then (decide ((d : Int) < C), l.filter (· != h)) else (false, (if (l.length : Int) = L then l.drop 1 else l) ++ [h])) else (decide ((d : Int) < C), l)
theorem keep_st {p : admit_Policy} {L C : Int} {l m : List (BitVec 64)} (h : ast p L C l) (hm : (m.length : Int) ≤ L) (hn : m.Nodup) : ∃ p', admit_Policy_keep p m = some p' ∧ ast p' L C m := by
  have hl1 := h.l1
  have hml : m.length ≤ 64 := by omega
  simp only [admit_Policy_keep, lt_eq, cpV, dif_pos hml, Option.bind_some]
  refine ⟨_, rfl, h.lim, h.cha, h.l0, h.l1, by simp, by simp, rfl, hm, fun i hi => ?_, hn⟩
  simp only [Int.toNat_zero, Nat.zero_add]
  rw [Nat.mod_eq_of_lt (by omega), List.getD_eq_getElem?_getD]
  simp only [Vector.toList]
  rw [List.getElem?_append_left hi, List.getElem?_eq_getElem hi, Option.getD_some]
theorem drop_st {p : admit_Policy} {L C : Int} {l : List (BitVec 64)} (h : ast p L C l) (hL : L > 0) (hf : (l.length : Int) = L) : ast { p with limit := p.limit, first_ := Int.tmod (w64 (p.first_ + 1)) 64, count := w64 (p.count - 1) } L C (l.drop 1) := by
  have hl1 := h.l1
  have f0 := h.f0
  have f1 := h.f1
  have e1 : Int.tmod (w64 (p.first_ + 1)) 64 = (((p.first_.toNat + 1) % 64 : Nat) : Int) := idx_eq (i := 1) f0 f1 (by omega)
  have e2 : w64 (p.count - 1) = ((l.drop 1).length : Int) := by
    rw [h.cnt, w64_eq (by omega) (by omega), List.length_drop]; omega
  refine ⟨h.lim, h.cha, h.l0, h.l1, ?_, ?_, e2, by rw [List.length_drop]; omega, fun i hi => ?_, h.nd.sublist (List.drop_sublist 1 l)⟩
  · simp only; rw [e1]; omega
  · simp only; rw [e1]; have := Nat.mod_lt (p.first_.toNat + 1) (show 64 > 0 by omega); omega
  · simp only
    rw [e1, Int.toNat_natCast, List.getElem?_drop, h.at_ (1 + i) (by rw [List.length_drop] at hi; omega)]
    congr 2
    omega
theorem push_st {p : admit_Policy} {L C : Int} {l : List (BitVec 64)} (h : ast p L C l) (hL : (l.length : Int) < L) (x : BitVec 64) (hx : x ∉ l) : ∃ v, updV p.ring (Int.tmod (w64 (p.first_ + p.count)) 64) (fun _ => x) = some v ∧ chk 64 (Int.tmod (w64 (p.first_ + p.count)) 64) = some () ∧ ast { p with ring := v, count := w64 (p.count + 1) } L C (l ++ [x]) := by
  have hl1 := h.l1
  have f0 := h.f0
  have f1 := h.f1
  have e1 : Int.tmod (w64 (p.first_ + p.count)) 64 = (((p.first_.toNat + l.length) % 64 : Nat) : Int) := by rw [h.cnt]; exact idx_eq f0 f1 (by omega)
  have hk : (p.first_.toNat + l.length) % 64 < 64 := Nat.mod_lt _ (by omega)
  rw [e1]
  refine ⟨p.ring.set ((p.first_.toNat + l.length) % 64) x, ?_, chk64 hk, h.lim, h.cha, h.l0, h.l1, f0, f1, ?_, by simp; omega, fun i hi => ?_, ?_⟩
  · unfold updV
    rw [dif_pos ⟨by omega, by rw [Int.toNat_natCast]; exact hk⟩]
    rfl
  · simp only; rw [h.cnt, w64_nat (by omega)]; simp
  · simp only [Vector.toList_set]
    rw [List.getD_eq_getElem?_getD, List.getElem?_set]
    simp only [List.length_append, List.length_cons, List.length_nil] at hi
    by_cases hil : i < l.length
    · rw [if_neg (by omega), List.getElem?_append_left hil, h.at_ i hil, List.getD_eq_getElem?_getD]
    · have : i = l.length := by omega
      subst this
      rw [if_pos rfl, List.getElem?_append_right (Nat.le_refl _)]
      simp [hk]
  · rw [List.nodup_append]
    refine ⟨h.nd, by simp, fun a ha b hb => ?_⟩
    simp at hb; subst hb
    exact fun e => hx (e ▸ ha)
theorem erase_filter {l : List (BitVec 64)} (h : l.Nodup) {x : BitVec 64} (hx : x ∈ l) : l.take (l.findIdx (· == x)) ++ l.drop (l.findIdx (· == x) + 1) = l.filter (· != x) := by
  induction l with
  | nil => cases hx
  | cons y l ih =>
    rw [List.nodup_cons] at h
    by_cases hy : y = x
    · subst hy
      have : l.filter (· != y) = l := List.filter_eq_self.2 fun a ha => by simp; exact fun e => h.1 (e ▸ ha)
      simp [List.findIdx_cons, this]
    · have hyx : (y == x) = false := by simpa using hy
      rcases List.mem_cons.1 hx with e | hx
      · exact absurd e.symm hy
      · simp [List.findIdx_cons, hyx, List.filter_cons, hy]
        simpa using ih h.2 hx
theorem admit_eq {p : admit_Policy} {L C : Int} {l : List (BitVec 64)} (h : ast p L C l) (x : BitVec 64) (d : BitVec 8) : ∃ p', admit_Policy_Admit p x d = some ((aS L C l x d.toNat).1, p') ∧ ast p' L C (aS L C l x d.toNat).2 := by
  have hl1 := h.l1
  have hle := h.le
  unfold admit_Policy_Admit aS
  simp only [lt_eq, h.lim]
  by_cases hL : L > 0
  · rw [if_pos (decide_eq_true hL), if_pos hL, ghostsV_eq h]
    simp only [Option.bind_some]
    rw [index_eq l x (by omega)]
    simp only [Option.bind_some]
    by_cases hx : x ∈ l
    · have hfi : l.findIdx (· == x) < l.length := List.findIdx_lt_length_of_exists ⟨x, hx, by simp⟩
      rw [if_pos hx, if_pos hx, if_neg (by rw [decide_eq_false (by omega)]; simp), w64_nat (by omega)]
      have hd : slices_Delete_uint64_uint64 l (l.findIdx (· == x) : Nat) ((l.findIdx (· == x) + 1 : Nat) : Int) = some (l.filter (· != x)) := by
        unfold slices_Delete_uint64_uint64 delO
        rw [if_pos ⟨by omega, by omega, by omega, by omega⟩, ← erase_filter h.nd hx]
        rfl
      rw [hd]
      simp only [Option.bind_some]
      obtain ⟨p', k1, k2⟩ := keep_st h (m := l.filter (· != x)) (by have := List.length_filter_le (· != x) l; omega) (h.nd.sublist (List.filter_sublist))
      rw [k1]
      simp only [Option.bind_some, Sum.elim_inl, k2.cha]
      exact ⟨p', rfl, k2⟩
    · rw [if_neg hx, if_neg hx, if_pos (by decide)]
      simp only [admit_Policy_push, lt_eq, h.cnt, h.lim]
      by_cases hf : (l.length : Int) = L
      · rw [if_pos (by simpa using hf), if_pos hf]
        have h2 := drop_st h hL hf
        rw [h.cnt, h.lim] at h2
        obtain ⟨v, k1, k2, k3⟩ := push_st h2 (by rw [List.length_drop]; omega) x (fun hm => hx (List.mem_of_mem_drop hm))
        simp only at k1 k2 k3
        simp only [Option.bind_some, k1, k2, Sum.elim_inr]
        exact ⟨_, rfl, k3⟩
      · rw [if_neg (by simpa using hf), if_neg hf]
        obtain ⟨v, k1, k2, k3⟩ := push_st h (by omega) x hx
        simp only [Option.bind_some, k1, k2, Sum.elim_inr]
        exact ⟨_, rfl, k3⟩
  · rw [if_neg (by rw [decide_eq_false hL]; simp), if_neg hL]
    simp only [Option.bind_some, Sum.elim_inl, h.cha]
    exact ⟨p, rfl, h⟩
theorem new_ok {C L : Int} (hC : ¬ (C < 0 ∨ C > 256)) (hL : ¬ (L < 0 ∨ L > 64)) : ∃ p, admit_New C L = some (some p, Err.nil) ∧ ast p L C [] := by
  simp only [not_or] at hC hL
  simp only [admit_New, lt_eq]
  rw [if_neg (by rw [decide_eq_false hC.1]; simp), decide_eq_false hC.2]
  simp only [Option.bind_some]
  rw [if_neg (by simp), if_neg (by rw [decide_eq_false hL.1]; simp), decide_eq_false hL.2]
  simp only [Option.bind_some]
  rw [if_neg (by simp)]
  exact ⟨_, rfl, rfl, rfl, by omega, by omega, by simp, by simp, rfl, by simp; omega, fun i hi => by simp at hi, by simp⟩
theorem new_no {C L : Int} (h : (C < 0 ∨ C > 256) ∨ (L < 0 ∨ L > 64)) : ∃ o a, admit_New C L = some (none, Err.fault o a 2 .nil) := by
  simp only [admit_New, lt_eq]
  by_cases h1 : C < 0
  · rw [if_pos (decide_eq_true h1)]; exact ⟨_, _, rfl⟩
  rw [if_neg (by rw [decide_eq_false h1]; simp)]
  by_cases h2 : C > 256
  · rw [decide_eq_true h2]; exact ⟨_, _, rfl⟩
  rw [decide_eq_false h2]
  simp only [Option.bind_some]
  rw [if_neg (by simp)]
  by_cases h3 : L < 0
  · rw [if_pos (decide_eq_true h3)]; exact ⟨_, _, rfl⟩
  rw [if_neg (by rw [decide_eq_false h3]; simp)]
  have h4 : L > 64 := by omega
  rw [decide_eq_true h4]; exact ⟨_, _, rfl⟩
theorem works18 : butterylaw18_works = some true := by
  obtain ⟨p, n1, s0⟩ := new_ok (C := 100) (L := 2) (by omega) (by omega)
  obtain ⟨o, a, n2⟩ := new_no (C := 257) (L := 2) (by omega)
  obtain ⟨p1, a1, s1⟩ := admit_eq s0 7#64 0#8
  obtain ⟨p2, a2, s2⟩ := admit_eq s1 7#64 99#8
  obtain ⟨p3, a3, s3⟩ := admit_eq s2 7#64 0#8
  obtain ⟨p4, a4, s4⟩ := admit_eq s3 8#64 0#8
  obtain ⟨p5, a5, s5⟩ := admit_eq s4 9#64 0#8
  obtain ⟨p6, a6, s6⟩ := admit_eq s5 7#64 0#8
  obtain ⟨p7, a7, s7⟩ := admit_eq s6 9#64 5#8
  obtain ⟨p8, a8, s8⟩ := keep_st s7 (m := []) (by simp) (by simp)
  obtain ⟨p9, a9, s9⟩ := admit_eq s8 9#64 0#8
  have g := ghosts_eq s5
  unfold butterylaw18_works butterylaw18_admitted admit_Policy_Forget
  simp only [n1, n2, Option.bind_some, Option.elim_some, Option.elim_none, lt_eq, a1, a2, a3, a4, a5, a6, a7, a8, a9, g, trouble_Of, codeOf]
  rfl
end Go.Proofs.YthjabhcbkbchjaaDoor
namespace Go.Proofs.YthjabhcbkbchjaaDoor
open Go Go.Va
set_option linter.unusedVariables false
set_option linter.unusedSimpArgs false
theorem but_eq (l : List (BitVec 64)) (x : BitVec 64) (hl : l.length ≤ 1000000) : butteryref18_But l x = some (l.filter (· != x)) := by
  have k := loopO_up (body := fun s => butteryref18_But_b0 l x s.1 s.2) (fun i : Nat => ((l.take i).filter (· != x), (i : Int))) l.length (x := l.filter (· != x)) (fun i hi => by
    simp only [butteryref18_But_b0, lt_eq]
    rw [if_pos (decide_eq_true (by omega)), ix_nat hi]
    simp only [Option.bind_some]
    have hf : ((l.take i).filter (· != x)).length ≤ i := Nat.le_trans (List.length_filter_le _ _) (by simp; omega)
    have ht : l.take (i + 1) = l.take i ++ [l[i]] := by rw [List.take_add_one, List.getElem?_eq_getElem hi]; rfl
    by_cases hx : l[i] = x
    · rw [if_neg (by simpa using hx), w64_nat (by omega), ht, List.filter_append]
      simp [hx]
    · rw [if_pos (by simpa using hx), app_eq (by simp only [List.length_cons, List.length_nil]; omega)]
      simp only [Option.bind_some]
      rw [w64_nat (by omega), ht, List.filter_append]
      simp [hx]) (by
    simp only [butteryref18_But_b0, lt_eq, List.take_length]
    rw [if_neg (by rw [decide_eq_false (by omega)]; simp)])
  have k' : butteryref18_But_l0 l x ([], 0) = some (l.filter (· != x)) := k
  unfold butteryref18_But
  rw [k']; rfl
theorem same_eq (l : List (BitVec 64)) (hl : l.length ≤ 1000000) : butteryref18_Same l l = some true := by
  have k := loopO_up (body := fun s => butteryref18_Same_b0 l l s) (fun i : Nat => (i : Int)) l.length (x := .inl ()) (fun i hi => by
    simp only [butteryref18_Same_b0, lt_eq]
    rw [if_pos (decide_eq_true (by omega)), ix_nat hi]
    simp only [Option.bind_some, bne_self_eq_false, Bool.false_eq_true, if_false]
    rw [w64_nat (by omega)]) (by
    simp only [butteryref18_Same_b0, lt_eq]
    rw [if_neg (by rw [decide_eq_false (by omega)]; simp)])
  have k' : butteryref18_Same_l0 l l 0 = some (.inl ()) := k
  simp only [butteryref18_Same, lt_eq, bne_self_eq_false, Bool.false_eq_true, if_false, k', Option.bind_some, Sum.elim_inl]
theorem filter_len {l : List (BitVec 64)} {x : BitVec 64} (h : x ∉ l) : l.filter (· != x) = l := List.filter_eq_self.2 fun a ha => by simp; exact fun e => h (e ▸ ha)
theorem filter_lt {l : List (BitVec 64)} {x : BitVec 64} (h : x ∈ l) : (l.filter (· != x)).length < l.length := by
  apply Nat.lt_of_le_of_ne (List.length_filter_le _ _)
  intro e
  have := List.length_filter_eq_length_iff.1 e x h
  simp at this
theorem refAdmit_eq (r : butteryref18_Policy) (hl : (r.L.length : Int) ≤ r.Limit) (hL : r.Limit ≤ 64) (h0 : r.Limit ≤ 0 → r.L = []) (x : BitVec 64) (d : Nat) : butteryref18_Admit r x (d : Int) = some (⟨r.Chance, r.Limit, (aS r.Limit r.Chance r.L x d).2⟩, (aS r.Limit r.Chance r.L x d).1) := by
  unfold butteryref18_Admit aS
  rw [but_eq _ _ (by omega)]
  simp only [Option.bind_some, lt_eq]
  by_cases h : r.Limit > 0
  · rw [if_pos (decide_eq_true h), if_pos h]
    simp only [Option.bind_some]
    by_cases hx : x ∈ r.L
    · have := filter_lt hx
      rw [if_neg (by simp; omega), if_pos hx]
    · rw [filter_len hx, if_pos (by simp), if_neg hx, app_eq (by simp; omega)]
      simp only [Option.bind_some]
      by_cases hf : (r.L.length : Int) = r.Limit
      · rw [if_pos (decide_eq_true (by simp; omega)), if_pos hf, show (1 : Int) = ((1 : Nat) : Int) from rfl, cutFrom_eq (by simp)]
        simp only [Option.bind_some]
        rw [List.drop_append_of_le_length (by omega)]
      · rw [if_neg (by rw [decide_eq_false (by simp; omega)]; simp), if_neg hf]
  · rw [if_neg (by rw [decide_eq_false h]; simp), if_neg h]
    simp [h0 (by omega)]
theorem refNew_ok {C L : Int} (hC : ¬ (C < 0 ∨ C > 256)) (hL : ¬ (L < 0 ∨ L > 64)) : butteryref18_New C L = some (⟨C, L, []⟩, 0) := by
  simp only [not_or] at hC hL
  simp only [butteryref18_New, lt_eq]
  rw [if_neg (by rw [decide_eq_false hC.1]; simp), if_neg (by rw [decide_eq_false hC.2]; simp), if_neg (by rw [decide_eq_false hL.1]; simp), decide_eq_false hL.2]
  rfl
theorem refNew_no {C L : Int} (h : (C < 0 ∨ C > 256) ∨ (L < 0 ∨ L > 64)) : butteryref18_New C L = some (⟨0, 0, []⟩, 2) := by
  simp only [butteryref18_New, lt_eq]
  by_cases h1 : C < 0
  · rw [if_pos (decide_eq_true h1)]; rfl
  rw [if_neg (by rw [decide_eq_false h1]; simp)]
  by_cases h2 : C > 256
  · rw [if_pos (decide_eq_true h2)]; rfl
  rw [if_neg (by rw [decide_eq_false h2]; simp)]
  by_cases h3 : L < 0
  · rw [if_pos (decide_eq_true h3)]; rfl
  rw [if_neg (by rw [decide_eq_false h3]; simp), decide_eq_true (by omega : L > 64)]; rfl
end Go.Proofs.YthjabhcbkbchjaaDoor
namespace Go.Proofs.YthjabhcbkbchjaaDoor
open Go Go.Va
set_option linter.unusedSimpArgs false
set_option linter.unusedVariables false
def wf_runtime_boundsError (x : runtime_boundsError) : Prop := (wfI .i64) x.x ∧ (wfI .i64) x.y ∧ wfT x.signed ∧ wfT x.code
theorem opens7 : Opens Tryd.prog 7 e_runtime_boundsError wf_runtime_boundsError := by
  intro H enc w fuel cs x hx
  obtain ⟨xs, m, _, _, hl, hn, hx⟩ := DataW.trod_struct Tryd.underlying7 hx
  rw [cellsOf_sz tk sz7 (by decide)] at hl
  obtain ⟨y0, w0, r0, o0⟩ := opens_f hx hn 0 (o := 0) (s := 1) rfl (opens_i64 Tryd.underlying2) rfl (cellsOf_sz tk sz2 (by decide))
  obtain ⟨y1, w1, r1, o1⟩ := opens_f hx hn 1 (o := 1) (s := 1) rfl (opens_i64 Tryd.underlying3) rfl (cellsOf_sz tk sz3 (by decide))
  obtain ⟨y2, w2, r2, o2⟩ := opens_f hx hn 2 (o := 2) (s := 1) rfl (opens_b Tryd.underlying4) rfl (cellsOf_sz tk sz4 (by decide))
  obtain ⟨y3, w3, r3, o3⟩ := opens_f hx hn 3 (o := 3) (s := 1) rfl (opens_u rfl rfl Tryd.underlying6) rfl (cellsOf_sz tk sz6 (by decide))
  refine ⟨⟨y0, y1, y2, y3⟩, ⟨w0, w1, w2, w3⟩, ?_, ?_⟩
  · have h := (rel_piece r0 (rel_piece r1 (rel_piece r2 (rel_piece r3 (rel_end hl)))))
    rw [List.drop_zero] at h
    first | exact h | (simp only [List.append_nil, List.append_assoc] at h ⊢; exact h) | (simpa [AV.cells, e_runtime_boundsError, c_runtime_boundsError] using h)
  · have h := (one_piece o0 (one_piece o1 (one_piece o2 (one_piece o3 (one_end hl)))))
    rw [List.drop_zero] at h
    exact h
theorem opens8 : Opens Tryd.prog 8 e_runtime_boundsError wf_runtime_boundsError := by
  intro H enc w fuel cs x hx
  obtain ⟨xs, m, _, _, hl, hn, hx⟩ := DataW.trod_struct Tryd.underlying8 hx
  rw [cellsOf_sz tk sz8 (by decide)] at hl
  obtain ⟨y0, w0, r0, o0⟩ := opens_f hx hn 0 (o := 0) (s := 1) rfl (opens_i64 Tryd.underlying2) rfl (cellsOf_sz tk sz2 (by decide))
  obtain ⟨y1, w1, r1, o1⟩ := opens_f hx hn 1 (o := 1) (s := 1) rfl (opens_i64 Tryd.underlying3) rfl (cellsOf_sz tk sz3 (by decide))
  obtain ⟨y2, w2, r2, o2⟩ := opens_f hx hn 2 (o := 2) (s := 1) rfl (opens_b Tryd.underlying4) rfl (cellsOf_sz tk sz4 (by decide))
  obtain ⟨y3, w3, r3, o3⟩ := opens_f hx hn 3 (o := 3) (s := 1) rfl (opens_u rfl rfl Tryd.underlying6) rfl (cellsOf_sz tk sz6 (by decide))
  refine ⟨⟨y0, y1, y2, y3⟩, ⟨w0, w1, w2, w3⟩, ?_, ?_⟩
  · have h := (rel_piece r0 (rel_piece r1 (rel_piece r2 (rel_piece r3 (rel_end hl)))))
    rw [List.drop_zero] at h
    first | exact h | (simp only [List.append_nil, List.append_assoc] at h ⊢; exact h) | (simpa [AV.cells, e_runtime_boundsError, c_runtime_boundsError] using h)
  · have h := (one_piece o0 (one_piece o1 (one_piece o2 (one_piece o3 (one_end hl)))))
    rw [List.drop_zero] at h
    exact h
def wf_runtime_errorAddressString (x : runtime_errorAddressString) : Prop := wfS x.msg ∧ wfT x.addr
theorem opens13 : Opens Tryd.prog 13 e_runtime_errorAddressString wf_runtime_errorAddressString := by
  intro H enc w fuel cs x hx
  obtain ⟨xs, m, _, _, hl, hn, hx⟩ := DataW.trod_struct Tryd.underlying13 hx
  rw [cellsOf_sz tk sz13 (by decide)] at hl
  obtain ⟨y0, w0, r0, o0⟩ := opens_f hx hn 0 (o := 0) (s := 1) rfl (opens_s Tryd.underlying9) rfl (cellsOf_sz tk sz9 (by decide))
  obtain ⟨y1, w1, r1, o1⟩ := opens_f hx hn 1 (o := 1) (s := 1) rfl (opens_u rfl rfl Tryd.underlying12) rfl (cellsOf_sz tk sz12 (by decide))
  refine ⟨⟨y0, y1⟩, ⟨w0, w1⟩, ?_, ?_⟩
  · have h := (rel_piece r0 (rel_piece r1 (rel_end hl)))
    rw [List.drop_zero] at h
    first | exact h | (simp only [List.append_nil, List.append_assoc] at h ⊢; exact h) | (simpa [AV.cells, e_runtime_errorAddressString, c_runtime_errorAddressString] using h)
  · have h := (one_piece o0 (one_piece o1 (one_end hl)))
    rw [List.drop_zero] at h
    exact h
theorem opens14 : Opens Tryd.prog 14 e_runtime_errorAddressString wf_runtime_errorAddressString := by
  intro H enc w fuel cs x hx
  obtain ⟨xs, m, _, _, hl, hn, hx⟩ := DataW.trod_struct Tryd.underlying14 hx
  rw [cellsOf_sz tk sz14 (by decide)] at hl
  obtain ⟨y0, w0, r0, o0⟩ := opens_f hx hn 0 (o := 0) (s := 1) rfl (opens_s Tryd.underlying9) rfl (cellsOf_sz tk sz9 (by decide))
  obtain ⟨y1, w1, r1, o1⟩ := opens_f hx hn 1 (o := 1) (s := 1) rfl (opens_u rfl rfl Tryd.underlying12) rfl (cellsOf_sz tk sz12 (by decide))
  refine ⟨⟨y0, y1⟩, ⟨w0, w1⟩, ?_, ?_⟩
  · have h := (rel_piece r0 (rel_piece r1 (rel_end hl)))
    rw [List.drop_zero] at h
    first | exact h | (simp only [List.append_nil, List.append_assoc] at h ⊢; exact h) | (simpa [AV.cells, e_runtime_errorAddressString, c_runtime_errorAddressString] using h)
  · have h := (one_piece o0 (one_piece o1 (one_end hl)))
    rw [List.drop_zero] at h
    exact h
def wf_butterylaw08_Op (x : butterylaw08_Op) : Prop := (wfI .i64) x.Kind ∧ (wfI .i64) x.Class ∧ (wfI .i64) x.N
theorem opens32 : Opens Tryd.prog 32 e_butterylaw08_Op wf_butterylaw08_Op := by
  intro H enc w fuel cs x hx
  obtain ⟨xs, m, _, _, hl, hn, hx⟩ := DataW.trod_struct Tryd.underlying32 hx
  rw [cellsOf_sz tk sz32 (by decide)] at hl
  obtain ⟨y0, w0, r0, o0⟩ := opens_f hx hn 0 (o := 0) (s := 1) rfl (opens_i64 Tryd.underlying3) rfl (cellsOf_sz tk sz3 (by decide))
  obtain ⟨y1, w1, r1, o1⟩ := opens_f hx hn 1 (o := 1) (s := 1) rfl (opens_i64 Tryd.underlying3) rfl (cellsOf_sz tk sz3 (by decide))
  obtain ⟨y2, w2, r2, o2⟩ := opens_f hx hn 2 (o := 2) (s := 1) rfl (opens_i64 Tryd.underlying3) rfl (cellsOf_sz tk sz3 (by decide))
  refine ⟨⟨y0, y1, y2⟩, ⟨w0, w1, w2⟩, ?_, ?_⟩
  · have h := (rel_piece r0 (rel_piece r1 (rel_piece r2 (rel_end hl))))
    rw [List.drop_zero] at h
    first | exact h | (simp only [List.append_nil, List.append_assoc] at h ⊢; exact h) | (simpa [AV.cells, e_butterylaw08_Op, c_butterylaw08_Op] using h)
  · have h := (one_piece o0 (one_piece o1 (one_piece o2 (one_end hl))))
    rw [List.drop_zero] at h
    exact h
theorem opens33 : Opens Tryd.prog 33 e_butterylaw08_Op wf_butterylaw08_Op := by
  intro H enc w fuel cs x hx
  obtain ⟨xs, m, _, _, hl, hn, hx⟩ := DataW.trod_struct Tryd.underlying33 hx
  rw [cellsOf_sz tk sz33 (by decide)] at hl
  obtain ⟨y0, w0, r0, o0⟩ := opens_f hx hn 0 (o := 0) (s := 1) rfl (opens_i64 Tryd.underlying3) rfl (cellsOf_sz tk sz3 (by decide))
  obtain ⟨y1, w1, r1, o1⟩ := opens_f hx hn 1 (o := 1) (s := 1) rfl (opens_i64 Tryd.underlying3) rfl (cellsOf_sz tk sz3 (by decide))
  obtain ⟨y2, w2, r2, o2⟩ := opens_f hx hn 2 (o := 2) (s := 1) rfl (opens_i64 Tryd.underlying3) rfl (cellsOf_sz tk sz3 (by decide))
  refine ⟨⟨y0, y1, y2⟩, ⟨w0, w1, w2⟩, ?_, ?_⟩
  · have h := (rel_piece r0 (rel_piece r1 (rel_piece r2 (rel_end hl))))
    rw [List.drop_zero] at h
    first | exact h | (simp only [List.append_nil, List.append_assoc] at h ⊢; exact h) | (simpa [AV.cells, e_butterylaw08_Op, c_butterylaw08_Op] using h)
  · have h := (one_piece o0 (one_piece o1 (one_piece o2 (one_end hl))))
    rw [List.drop_zero] at h
    exact h
def wf_butteryref18_Policy (x : butteryref18_Policy) : Prop := (wfI .i64) x.Chance ∧ (wfI .i64) x.Limit ∧ (wfL wfT) x.L
theorem opens42 : Opens Tryd.prog 42 e_butteryref18_Policy wf_butteryref18_Policy := by
  intro H enc w fuel cs x hx
  obtain ⟨xs, m, _, _, hl, hn, hx⟩ := DataW.trod_struct Tryd.underlying42 hx
  rw [cellsOf_sz tk sz42 (by decide)] at hl
  obtain ⟨y0, w0, r0, o0⟩ := opens_f hx hn 0 (o := 0) (s := 1) rfl (opens_i64 Tryd.underlying3) rfl (cellsOf_sz tk sz3 (by decide))
  obtain ⟨y1, w1, r1, o1⟩ := opens_f hx hn 1 (o := 1) (s := 1) rfl (opens_i64 Tryd.underlying3) rfl (cellsOf_sz tk sz3 (by decide))
  obtain ⟨y2, w2, r2, o2⟩ := opens_f hx hn 2 (o := 2) (s := 1) rfl (opens_l tk Tryd.underlying41 (enc_u td48 sz48) (opens_u rfl rfl Tryd.underlying48)) rfl (cellsOf_sz tk sz41 (by decide))
  refine ⟨⟨y0, y1, y2⟩, ⟨w0, w1, w2⟩, ?_, ?_⟩
  · have h := (rel_piece r0 (rel_piece r1 (rel_piece r2 (rel_end hl))))
    rw [List.drop_zero] at h
    first | exact h | (simp only [List.append_nil, List.append_assoc] at h ⊢; exact h) | (simpa [AV.cells, e_butteryref18_Policy, c_butteryref18_Policy] using h)
  · have h := (one_piece o0 (one_piece o1 (one_piece o2 (one_end hl))))
    rw [List.drop_zero] at h
    exact h
theorem opens43 : Opens Tryd.prog 43 e_butteryref18_Policy wf_butteryref18_Policy := by
  intro H enc w fuel cs x hx
  obtain ⟨xs, m, _, _, hl, hn, hx⟩ := DataW.trod_struct Tryd.underlying43 hx
  rw [cellsOf_sz tk sz43 (by decide)] at hl
  obtain ⟨y0, w0, r0, o0⟩ := opens_f hx hn 0 (o := 0) (s := 1) rfl (opens_i64 Tryd.underlying3) rfl (cellsOf_sz tk sz3 (by decide))
  obtain ⟨y1, w1, r1, o1⟩ := opens_f hx hn 1 (o := 1) (s := 1) rfl (opens_i64 Tryd.underlying3) rfl (cellsOf_sz tk sz3 (by decide))
  obtain ⟨y2, w2, r2, o2⟩ := opens_f hx hn 2 (o := 2) (s := 1) rfl (opens_l tk Tryd.underlying41 (enc_u td48 sz48) (opens_u rfl rfl Tryd.underlying48)) rfl (cellsOf_sz tk sz41 (by decide))
  refine ⟨⟨y0, y1, y2⟩, ⟨w0, w1, w2⟩, ?_, ?_⟩
  · have h := (rel_piece r0 (rel_piece r1 (rel_piece r2 (rel_end hl))))
    rw [List.drop_zero] at h
    first | exact h | (simp only [List.append_nil, List.append_assoc] at h ⊢; exact h) | (simpa [AV.cells, e_butteryref18_Policy, c_butteryref18_Policy] using h)
  · have h := (one_piece o0 (one_piece o1 (one_piece o2 (one_end hl))))
    rw [List.drop_zero] at h
    exact h
def wf_butterylaw18_Ask (x : butterylaw18_Ask) : Prop := wfT x.Hash ∧ wfT x.Draw ∧ wfT x.Forget
theorem opens49 : Opens Tryd.prog 49 e_butterylaw18_Ask wf_butterylaw18_Ask := by
  intro H enc w fuel cs x hx
  obtain ⟨xs, m, _, _, hl, hn, hx⟩ := DataW.trod_struct Tryd.underlying49 hx
  rw [cellsOf_sz tk sz49 (by decide)] at hl
  obtain ⟨y0, w0, r0, o0⟩ := opens_f hx hn 0 (o := 0) (s := 1) rfl (opens_u rfl rfl Tryd.underlying48) rfl (cellsOf_sz tk sz48 (by decide))
  obtain ⟨y1, w1, r1, o1⟩ := opens_f hx hn 1 (o := 1) (s := 1) rfl (opens_u rfl rfl Tryd.underlying5) rfl (cellsOf_sz tk sz5 (by decide))
  obtain ⟨y2, w2, r2, o2⟩ := opens_f hx hn 2 (o := 2) (s := 1) rfl (opens_b Tryd.underlying4) rfl (cellsOf_sz tk sz4 (by decide))
  refine ⟨⟨y0, y1, y2⟩, ⟨w0, w1, w2⟩, ?_, ?_⟩
  · have h := (rel_piece r0 (rel_piece r1 (rel_piece r2 (rel_end hl))))
    rw [List.drop_zero] at h
    first | exact h | (simp only [List.append_nil, List.append_assoc] at h ⊢; exact h) | (simpa [AV.cells, e_butterylaw18_Ask, c_butterylaw18_Ask] using h)
  · have h := (one_piece o0 (one_piece o1 (one_piece o2 (one_end hl))))
    rw [List.drop_zero] at h
    exact h
theorem opens50 : Opens Tryd.prog 50 e_butterylaw18_Ask wf_butterylaw18_Ask := by
  intro H enc w fuel cs x hx
  obtain ⟨xs, m, _, _, hl, hn, hx⟩ := DataW.trod_struct Tryd.underlying50 hx
  rw [cellsOf_sz tk sz50 (by decide)] at hl
  obtain ⟨y0, w0, r0, o0⟩ := opens_f hx hn 0 (o := 0) (s := 1) rfl (opens_u rfl rfl Tryd.underlying48) rfl (cellsOf_sz tk sz48 (by decide))
  obtain ⟨y1, w1, r1, o1⟩ := opens_f hx hn 1 (o := 1) (s := 1) rfl (opens_u rfl rfl Tryd.underlying5) rfl (cellsOf_sz tk sz5 (by decide))
  obtain ⟨y2, w2, r2, o2⟩ := opens_f hx hn 2 (o := 2) (s := 1) rfl (opens_b Tryd.underlying4) rfl (cellsOf_sz tk sz4 (by decide))
  refine ⟨⟨y0, y1, y2⟩, ⟨w0, w1, w2⟩, ?_, ?_⟩
  · have h := (rel_piece r0 (rel_piece r1 (rel_piece r2 (rel_end hl))))
    rw [List.drop_zero] at h
    first | exact h | (simp only [List.append_nil, List.append_assoc] at h ⊢; exact h) | (simpa [AV.cells, e_butterylaw18_Ask, c_butterylaw18_Ask] using h)
  · have h := (one_piece o0 (one_piece o1 (one_piece o2 (one_end hl))))
    rw [List.drop_zero] at h
    exact h
def wf_butteryref08_Budget (x : butteryref08_Budget) : Prop := (wfI .i64) x.Limit ∧ (wfL (wfI .i64)) x.L
theorem opens60 : Opens Tryd.prog 60 e_butteryref08_Budget wf_butteryref08_Budget := by
  intro H enc w fuel cs x hx
  obtain ⟨xs, m, _, _, hl, hn, hx⟩ := DataW.trod_struct Tryd.underlying60 hx
  rw [cellsOf_sz tk sz60 (by decide)] at hl
  obtain ⟨y0, w0, r0, o0⟩ := opens_f hx hn 0 (o := 0) (s := 1) rfl (opens_i64 Tryd.underlying3) rfl (cellsOf_sz tk sz3 (by decide))
  obtain ⟨y1, w1, r1, o1⟩ := opens_f hx hn 1 (o := 1) (s := 1) rfl (opens_l tk Tryd.underlying59 (enc_i64 td3 sz3) (opens_i64 Tryd.underlying3)) rfl (cellsOf_sz tk sz59 (by decide))
  refine ⟨⟨y0, y1⟩, ⟨w0, w1⟩, ?_, ?_⟩
  · have h := (rel_piece r0 (rel_piece r1 (rel_end hl)))
    rw [List.drop_zero] at h
    first | exact h | (simp only [List.append_nil, List.append_assoc] at h ⊢; exact h) | (simpa [AV.cells, e_butteryref08_Budget, c_butteryref08_Budget] using h)
  · have h := (one_piece o0 (one_piece o1 (one_end hl)))
    rw [List.drop_zero] at h
    exact h
theorem opens61 : Opens Tryd.prog 61 e_butteryref08_Budget wf_butteryref08_Budget := by
  intro H enc w fuel cs x hx
  obtain ⟨xs, m, _, _, hl, hn, hx⟩ := DataW.trod_struct Tryd.underlying61 hx
  rw [cellsOf_sz tk sz61 (by decide)] at hl
  obtain ⟨y0, w0, r0, o0⟩ := opens_f hx hn 0 (o := 0) (s := 1) rfl (opens_i64 Tryd.underlying3) rfl (cellsOf_sz tk sz3 (by decide))
  obtain ⟨y1, w1, r1, o1⟩ := opens_f hx hn 1 (o := 1) (s := 1) rfl (opens_l tk Tryd.underlying59 (enc_i64 td3 sz3) (opens_i64 Tryd.underlying3)) rfl (cellsOf_sz tk sz59 (by decide))
  refine ⟨⟨y0, y1⟩, ⟨w0, w1⟩, ?_, ?_⟩
  · have h := (rel_piece r0 (rel_piece r1 (rel_end hl)))
    rw [List.drop_zero] at h
    first | exact h | (simp only [List.append_nil, List.append_assoc] at h ⊢; exact h) | (simpa [AV.cells, e_butteryref08_Budget, c_butteryref08_Budget] using h)
  · have h := (one_piece o0 (one_piece o1 (one_end hl)))
    rw [List.drop_zero] at h
    exact h
def wf_reflectlite_ValueError (x : reflectlite_ValueError) : Prop := wfS x.Method ∧ wfT x.Kind
theorem opens131 : Opens Tryd.prog 131 e_reflectlite_ValueError wf_reflectlite_ValueError := by
  intro H enc w fuel cs x hx
  obtain ⟨xs, m, _, _, hl, hn, hx⟩ := DataW.trod_struct Tryd.underlying131 hx
  rw [cellsOf_sz tk sz131 (by decide)] at hl
  obtain ⟨y0, w0, r0, o0⟩ := opens_f hx hn 0 (o := 0) (s := 1) rfl (opens_s Tryd.underlying9) rfl (cellsOf_sz tk sz9 (by decide))
  obtain ⟨y1, w1, r1, o1⟩ := opens_f hx hn 1 (o := 1) (s := 1) rfl (opens_u rfl rfl Tryd.underlying96) rfl (cellsOf_sz tk sz96 (by decide))
  refine ⟨⟨y0, y1⟩, ⟨w0, w1⟩, ?_, ?_⟩
  · have h := (rel_piece r0 (rel_piece r1 (rel_end hl)))
    rw [List.drop_zero] at h
    first | exact h | (simp only [List.append_nil, List.append_assoc] at h ⊢; exact h) | (simpa [AV.cells, e_reflectlite_ValueError, c_reflectlite_ValueError] using h)
  · have h := (one_piece o0 (one_piece o1 (one_end hl)))
    rw [List.drop_zero] at h
    exact h
theorem opens132 : Opens Tryd.prog 132 e_reflectlite_ValueError wf_reflectlite_ValueError := by
  intro H enc w fuel cs x hx
  obtain ⟨xs, m, _, _, hl, hn, hx⟩ := DataW.trod_struct Tryd.underlying132 hx
  rw [cellsOf_sz tk sz132 (by decide)] at hl
  obtain ⟨y0, w0, r0, o0⟩ := opens_f hx hn 0 (o := 0) (s := 1) rfl (opens_s Tryd.underlying9) rfl (cellsOf_sz tk sz9 (by decide))
  obtain ⟨y1, w1, r1, o1⟩ := opens_f hx hn 1 (o := 1) (s := 1) rfl (opens_u rfl rfl Tryd.underlying96) rfl (cellsOf_sz tk sz96 (by decide))
  refine ⟨⟨y0, y1⟩, ⟨w0, w1⟩, ?_, ?_⟩
  · have h := (rel_piece r0 (rel_piece r1 (rel_end hl)))
    rw [List.drop_zero] at h
    first | exact h | (simp only [List.append_nil, List.append_assoc] at h ⊢; exact h) | (simpa [AV.cells, e_reflectlite_ValueError, c_reflectlite_ValueError] using h)
  · have h := (one_piece o0 (one_piece o1 (one_end hl)))
    rw [List.drop_zero] at h
    exact h
def wf_abi_Method (x : abi_Method) : Prop := (wfI .i32) x.Name ∧ (wfI .i32) x.Mtyp ∧ (wfI .i32) x.Ifn ∧ (wfI .i32) x.Tfn
theorem opens140 : Opens Tryd.prog 140 e_abi_Method wf_abi_Method := by
  intro H enc w fuel cs x hx
  obtain ⟨xs, m, _, _, hl, hn, hx⟩ := DataW.trod_struct Tryd.underlying140 hx
  rw [cellsOf_sz tk sz140 (by decide)] at hl
  obtain ⟨y0, w0, r0, o0⟩ := opens_f hx hn 0 (o := 0) (s := 1) rfl (opens_i Tryd.underlying125) rfl (cellsOf_sz tk sz125 (by decide))
  obtain ⟨y1, w1, r1, o1⟩ := opens_f hx hn 1 (o := 1) (s := 1) rfl (opens_i Tryd.underlying126) rfl (cellsOf_sz tk sz126 (by decide))
  obtain ⟨y2, w2, r2, o2⟩ := opens_f hx hn 2 (o := 2) (s := 1) rfl (opens_i Tryd.underlying139) rfl (cellsOf_sz tk sz139 (by decide))
  obtain ⟨y3, w3, r3, o3⟩ := opens_f hx hn 3 (o := 3) (s := 1) rfl (opens_i Tryd.underlying139) rfl (cellsOf_sz tk sz139 (by decide))
  refine ⟨⟨y0, y1, y2, y3⟩, ⟨w0, w1, w2, w3⟩, ?_, ?_⟩
  · have h := (rel_piece r0 (rel_piece r1 (rel_piece r2 (rel_piece r3 (rel_end hl)))))
    rw [List.drop_zero] at h
    first | exact h | (simp only [List.append_nil, List.append_assoc] at h ⊢; exact h) | (simpa [AV.cells, e_abi_Method, c_abi_Method] using h)
  · have h := (one_piece o0 (one_piece o1 (one_piece o2 (one_piece o3 (one_end hl)))))
    rw [List.drop_zero] at h
    exact h
theorem opens141 : Opens Tryd.prog 141 e_abi_Method wf_abi_Method := by
  intro H enc w fuel cs x hx
  obtain ⟨xs, m, _, _, hl, hn, hx⟩ := DataW.trod_struct Tryd.underlying141 hx
  rw [cellsOf_sz tk sz141 (by decide)] at hl
  obtain ⟨y0, w0, r0, o0⟩ := opens_f hx hn 0 (o := 0) (s := 1) rfl (opens_i Tryd.underlying125) rfl (cellsOf_sz tk sz125 (by decide))
  obtain ⟨y1, w1, r1, o1⟩ := opens_f hx hn 1 (o := 1) (s := 1) rfl (opens_i Tryd.underlying126) rfl (cellsOf_sz tk sz126 (by decide))
  obtain ⟨y2, w2, r2, o2⟩ := opens_f hx hn 2 (o := 2) (s := 1) rfl (opens_i Tryd.underlying139) rfl (cellsOf_sz tk sz139 (by decide))
  obtain ⟨y3, w3, r3, o3⟩ := opens_f hx hn 3 (o := 3) (s := 1) rfl (opens_i Tryd.underlying139) rfl (cellsOf_sz tk sz139 (by decide))
  refine ⟨⟨y0, y1, y2, y3⟩, ⟨w0, w1, w2, w3⟩, ?_, ?_⟩
  · have h := (rel_piece r0 (rel_piece r1 (rel_piece r2 (rel_piece r3 (rel_end hl)))))
    rw [List.drop_zero] at h
    first | exact h | (simp only [List.append_nil, List.append_assoc] at h ⊢; exact h) | (simpa [AV.cells, e_abi_Method, c_abi_Method] using h)
  · have h := (one_piece o0 (one_piece o1 (one_piece o2 (one_piece o3 (one_end hl)))))
    rw [List.drop_zero] at h
    exact h
end Go.Proofs.YthjabhcbkbchjaaDoor
namespace Go.Proofs.YthjabhcbkbchjaaDoor
open Go Go.Va
set_option linter.unusedVariables false
set_option linter.unusedSimpArgs false
theorem filter_one {l : List (BitVec 64)} (h : l.Nodup) {x : BitVec 64} (hx : x ∈ l) : (l.filter (· != x)).length = l.length - 1 := by
  rw [← erase_filter h hx]
  have hfi : l.findIdx (· == x) < l.length := List.findIdx_lt_length_of_exists ⟨x, hx, by simp⟩
  simp only [List.length_append, List.length_take, List.length_drop]
  omega
theorem AdmitBounds_pure (C L : Int) (l : List butterylaw18_Ask) (_ : wfI .i64 C) (_ : wfI .i64 L) (_ : wfL wf_butterylaw18_Ask l) : butterylaw18_AdmitBounds C L l = some true := by
  unfold butterylaw18_AdmitBounds
  simp only [lt_eq, works18, Option.bind_some]
  by_cases h0 : l.length > 100
  · rw [if_pos (decide_eq_true (by omega))]
  rw [if_neg (by rw [decide_eq_false (by omega)]; simp)]
  by_cases hb : (C < 0 ∨ C > 256) ∨ (L < 0 ∨ L > 64)
  · obtain ⟨o, a, hn⟩ := new_no hb
    rw [hn]
    rfl
  · simp only [not_or] at hb
    obtain ⟨p, hn, hs⟩ := new_ok (C := C) (L := L) (by omega) (by omega)
    rw [hn]
    simp only [Option.bind_some, Option.elim_some, Err.isNil, Bool.not_true, Bool.false_eq_true, if_false]
    have key := loopO_inv (body := fun s => butterylaw18_AdmitBounds_b0 C L l s.1 s.2) (fun s => ∃ (i : Nat) (p : admit_Policy) (m : List (BitVec 64)), ast p L C m ∧ s = ((i : Int), p)) (fun s => l.length - s.1.toNat) (fun y => ∃ p, y = .inl p) (fun s => by
      rintro ⟨i, p, m, hm, rfl⟩
      simp only [butterylaw18_AdmitBounds_b0, lt_eq]
      by_cases hi : i < l.length
      · left
        rw [if_pos (decide_eq_true (by omega)), ix_nat hi]
        simp only [Option.bind_some]
        obtain ⟨p', k1, k2⟩ := admit_eq hm l[i].Hash l[i].Draw
        rw [k1]
        simp only [Option.bind_some]
        have e1 : (if (L == 0) = true then some ((aS L C m l[i].Hash l[i].Draw.toNat).1 != decide ((l[i].Draw.toNat : Int) < C)) else some false) = some false := by
          by_cases hL : L = 0
          · rw [if_pos (by simpa using hL)]
            unfold aS
            rw [if_neg (by omega)]
            simp
          · rw [if_neg (by simpa using hL)]
        rw [e1]
        simp only [Option.bind_some, Bool.false_eq_true, if_false]
        rw [ghosts_eq k2]
        simp only [Option.bind_some]
        have hle := k2.le
        have hl1 := k2.l1
        have hnd := k2.nd
        generalize (aS L C m l[i].Hash l[i].Draw.toNat).2 = m' at *
        rw [if_neg (by rw [decide_eq_false (by omega)]; simp)]
        have hin : butterylaw18_AdmitBounds_l1 C L l (i : Int) ((aS L C m l[i].Hash l[i].Draw.toNat).1, p') m' (0 : Int) = some (.inl ()) := by
          refine loopO_up (body := fun s => butterylaw18_AdmitBounds_b1 C L l (i : Int) ((aS L C m l[i].Hash l[i].Draw.toNat).1, p') m' s) (fun j : Nat => (j : Int)) m'.length (x := .inl ()) (fun j hj => ?_) ?_
          · simp only [butterylaw18_AdmitBounds_b1, lt_eq]
            rw [if_pos (decide_eq_true (by omega)), ix_nat hj]
            simp only [Option.bind_some]
            rw [but_eq _ _ (by omega), Option.bind_some, filter_one hnd (List.getElem_mem hj), if_neg (by rw [w64_eq (by omega) (by omega)]; simp; omega), w64_nat (by omega)]
          · simp only [butterylaw18_AdmitBounds_b1, lt_eq]
            rw [if_neg (by rw [decide_eq_false (by omega)]; simp)]
        rw [hin]
        simp only [Option.bind_some, Sum.elim_inl]
        rw [w64_nat (by omega)]
        exact ⟨_, rfl, ⟨i + 1, p', _, k2, rfl⟩, by simp only [Int.toNat_natCast]; omega⟩
      · right
        rw [if_neg (by rw [decide_eq_false (by omega)]; simp)]
        exact ⟨_, rfl, p, rfl⟩) (s := ((0 : Int), p)) ⟨0, _, _, hs, rfl⟩
    obtain ⟨y, h3, p1, rfl⟩ := key
    have h3' : butterylaw18_AdmitBounds_l0 C L l ((0 : Int), p) = some (.inl p1) := h3
    rw [h3']; rfl
end Go.Proofs.YthjabhcbkbchjaaDoor
namespace Go.Proofs.YthjabhcbkbchjaaDoor
open Go.ChangeShapes Go.WideShapes Go.RowKit
theorem own : ownKnob Tryd.prog.godebug = none := by kernel_rfl
theorem laidEt : Tryd.prog.globalNamed "errors.errorType" = some 0 := by kernel_rfl
theorem laidRt : (Tryd.prog.cutTypes.find? (·.1 == "internal/reflectlite.rtype")).map (·.2) = some 101 := by kernel_rfl
theorem laidRow : ((List.range 143).filter fun t => Tryd.prog.rowNamed t [101, 114, 114, 111, 114]) = [29] := by kernel_rfl
theorem laidSize : Tryd.prog.types.size = 143 := by kernel_rfl
def laidL {H : Type} : List (String × DataW H) := [("errors.errorType", Rows.laid_errors_errorType)]
theorem handle_of_laid {W : World} (h : laidMetH Tryd.prog laidL W) : W.cell? ⟨0, 0, none⟩ = some (.iface 101 (.agg #[.pointer (some ⟨1, 29, none⟩)])) := by
  have h' : laidMet Tryd.prog [] W ∧ handlesMet Tryd.prog laidL W := h
  obtain ⟨name, u, ty, e1, e2, e3, e4, e5⟩ := h'.2 _ (List.mem_singleton.2 rfl)
  have en : name = [101, 114, 114, 111, 114] := (Option.some.inj e1).symm
  subst en
  obtain rfl := Option.some.inj (laidRt.symm.trans e2)
  have hm : ty ∈ (List.range 143).filter fun t => Tryd.prog.rowNamed t [101, 114, 114, 111, 114] := List.mem_filter.2 ⟨List.mem_range.2 (by rw [← laidSize]; exact e3), e4⟩
  rw [laidRow] at hm
  obtain rfl := List.mem_singleton.1 hm
  have hh : typeHandle Tryd.prog 29 = .pointer (some ⟨1, 29, none⟩) := by kernel_rfl
  rw [hh] at e5
  simpa using World.var?_cell laidEt e5 0
/-- A world that meets the condition. -/
noncomputable def laidWorld (os : Os) : World :=
  let w0 := World.holding Tryd.prog os ⟨#[], #[], []⟩
  { w0 with heap := w0.heap.modify 0 fun
      | .cells _ t frozen => .cells #[.iface 101 (.agg #[.pointer (some ⟨1, 29, none⟩)])] t frozen
      | o => o }
theorem laidWorld_met (os : Os) (args : Array Value) : laidMetH Tryd.prog laidL ((laidWorld os).forCall (fun _ _ => 0) ⟨#[], args, []⟩).memory :=
  laidMetH_of_parts (laidMet_nil _ _) (by kernel_rfl)
theorem gls_met {W : World} (h : laidMetH Tryd.prog laidL W) : ∀ p ∈ gls, W.cell? p.1 = some p.2 := by
  intro p hp
  obtain rfl := List.mem_singleton.1 hp
  exact handle_of_laid h
theorem laidOut : laidOutB Tryd.prog = true := by kernel_rfl
end Go.Proofs.YthjabhcbkbchjaaDoor
