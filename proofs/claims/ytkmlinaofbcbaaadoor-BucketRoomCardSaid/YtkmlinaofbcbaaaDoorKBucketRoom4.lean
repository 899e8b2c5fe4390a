/- THE ELDEST GOES: what is inserted without an error is the last one, all together have room in a page, those that went were the eldest, and all others stay in their order. (part 4 of 7) -/
import Derived.Test.YtkmlinaofbcbaaaDoorKBucketRoom3
namespace Go.Proofs.YtkmlinaofbcbaaaDoor
open Go Go.Va
set_option linter.unusedVariables false
set_option linter.unusedSimpArgs false
set_option maxRecDepth 20000
theorem bucket_Find_1_c_ok {x0 : api_Entry} {x1 : List (BitVec 8)} {r : Bool} (H : bucket_Find_1_c x0 x1 = some r) (σ : St) {p1 : Nat} (h1 : σ.objs[p1]? = some [eS x1]) : ACall Tryd.prog 109 [(e_api_Entry x0), (.ref p1 0)] σ (fun a τ => a = eB r ∧ τ = σ) := by
  unfold bucket_Find_1_c at H
  refine ACall.pure (acall_start tk Tryd.func109 (by decide) rfl (Nat.le_of_ble_eq_true rfl) ?_)
  have hH := Holds.init σ
  have hH := hH.bring h1 (fun _ h => by cases h)
  refine awp_seq ?_
  refine awp_region rfl ?_
  refine wpo_mv (a := (.fptr (c_api_Entry x0) 0)) rfl rfl rfl (o_boxf tk rfl (.of_eq rfl) (b := (e_api_Entry x0)) (enc24.flat _)) ?_
  refine wpo_mv (a := (eB false)) rfl rfl rfl (o_as tk rfl (Wk.refl _)) ?_
  refine wpo_nil ?_
  refine awp_seq ?_
  refine awp_region rfl ?_
  refine wpo_mv (a := (.fptr (c_api_Entry x0) 0)) rfl rfl rfl (o_c tk false rfl (fun _ => rfl)) ?_
  refine wpo_mv (a := (eS x0.Key)) rfl rfl rfl (o_ld tk rfl rfl) ?_
  refine wpo_rd (a := (eS x1)) rfl rfl rfl (h_ld tk hH 0 rfl rfl rfl) ?_
  refine wpo_lt H eB rfl rfl rfl (o_eql_s tk rfl rfl) fun v2 H1 => ?_
  refine wpo_mv (a := (eB v2)) rfl rfl rfl (o_as tk rfl (Wk.refl _)) ?_
  refine wpo_nil ?_
  refine awp_ret ?_
  obtain rfl := Option.some.inj H1
  exact ⟨_, (eB v2), rfl, (.of_eq rfl), .of_eq ((enc_b td4 sz4).cut _ _ _), (hH.noT.unbring h1)⟩
end Go.Proofs.YtkmlinaofbcbaaaDoor
namespace Go.Proofs.YtkmlinaofbcbaaaDoor
open Go Go.Va
set_option linter.unusedVariables false
set_option linter.unusedSimpArgs false
set_option maxRecDepth 20000
theorem slices_IndexFunc_api_Entry_api_Entry_bucket_Find_1_c_ok {x0 : List api_Entry} {x1 : List (BitVec 8)} {r : Int} (H : slices_IndexFunc_api_Entry_api_Entry_bucket_Find_1_c x0 x1 = some r) (σ : St) {p1 : Nat} (h1 : σ.objs[p1]? = some [eS x1]) : ACall Tryd.prog 108 [((eL 5 e_api_Entry) x0), (.fn (.func 109) [] [.ref p1 0])] σ (fun a τ => a = eI r ∧ τ = σ) := by
  unfold slices_IndexFunc_api_Entry_api_Entry_bucket_Find_1_c at H
  refine ACall.pure (acall_start tk Tryd.func108 (by decide) rfl (Nat.le_of_ble_eq_true rfl) ?_)
  have hH := Holds.init σ
  have hH := hH.bring h1 (fun _ h => by cases h)
  refine awp_seq ?_
  refine awp_region rfl ?_
  refine wpo_mv (a := (eI (0 : Int))) rfl rfl rfl (o_as tk rfl (Wk.refl _)) ?_
  refine wpo_nil ?_
  refine awp_seq ?_
  refine awp_seq ?_
  refine awp_region rfl ?_
  refine wpo_mv (a := ((eL 5 e_api_Entry) x0)) rfl rfl rfl (o_mv tk rfl (Wk.refl _)) ?_
  refine wpo_lt H eI rfl rfl rfl (o_len tk td60 rfl) fun v2 H1 => ?_
  refine wpo_mv (a := (eI (0 : Int))) rfl rfl rfl (o_mv tk rfl (Wk.refl _)) ?_
  refine wpo_nil ?_
  refine awp_block ?_
  obtain ⟨o4, hs5, hj6⟩ := Option.bind_eq_some_iff.1 H1
  refine awp_cutx 0 (fun fr τ => ∃ s11 : Unit, o4 = .inl s11 ∧ WkF fr (fm []) ∧ Holds σ [(p1, [eS x1])] [] τ) ?_ ?_
  · rintro fr τ ⟨s11, rfl, hfr, hH⟩
    have H24 := hj6
    simp only [Sum.elim_inl] at H24
    refine AWP.fm [] hfr ?_
    refine awp_seq ?_
    refine awp_region rfl ?_
    refine wpo_mv (a := (eI (-1 : Int))) rfl rfl rfl (o_as tk rfl (Wk.refl _)) ?_
    refine wpo_nil ?_
    refine awp_ret ?_
    obtain rfl := Option.some.inj H24
    exact ⟨_, (eI (-1 : Int)), rfl, (.of_eq rfl), .of_eq ((enc_i64 td3 sz3).cut _ _ _), (hH.noT.unbring h1)⟩
  · refine awp_loopO (body := fun s => slices_IndexFunc_api_Entry_api_Entry_bucket_Find_1_c_b0 x0 x1 v2 s) hs5 (fun (s : Int) fr τ => WkF fr (fm [(0, ((eL 5 e_api_Entry) x0)), (1, (.fn (.func 109) [] [(.ref p1 0)])), (7, (eI v2)), (8, (eI s))]) ∧ Holds σ [(p1, [eS x1])] [] τ) ⟨(wkf_cons (.of_eq rfl) (wkf_cons (.of_eq rfl) (wkf_cons (.of_eq rfl) (wkf_cons (.of_eq rfl) (wkf_nil _))))), hH⟩ ?_
    rintro c3 fr τ y7 ⟨hfr, hH⟩ hb9 hy10
    have H12 : slices_IndexFunc_api_Entry_api_Entry_bucket_Find_1_c_b0 x0 x1 v2 c3 = some y7 := hb9
    unfold slices_IndexFunc_api_Entry_api_Entry_bucket_Find_1_c_b0 at H12
    refine AWP.fm [(0, ((eL 5 e_api_Entry) x0)), (1, (.fn (.func 109) [] [(.ref p1 0)])), (7, (eI v2)), (8, (eI c3))] hfr ?_
    have hH : Holds σ [(p1, [eS x1])] [] τ := hH
    refine awp_seq ?_
    refine awp_region rfl ?_
    refine wpo_lt H12 eB rfl rfl rfl (o_ar tk rfl rfl rfl) fun v14 H13 => ?_
    refine wpo_nil ?_
    refine awp_seq ?_
    refine awp_if H13 rfl (fun H15 => ?_) (fun H15 => ?_)
    · refine awp_skip ?_
      refine awp_seq ?_
      refine awp_block ?_
      refine awp_seq ?_
      refine awp_region rfl ?_
      refine wpo_mv (a := (eI c3)) rfl rfl rfl (o_mv tk rfl (Wk.refl _)) ?_
      refine wpo_mv (a := (eI c3)) rfl rfl rfl (o_as tk rfl (Wk.refl _)) ?_
      refine wpo_nil ?_
      refine awp_seq ?_
      refine awp_region rfl ?_
      refine wpo_mv (a := (.fn (.func 109) [] [(.ref p1 0)])) rfl rfl rfl (o_mv tk rfl (Wk.refl _)) ?_
      refine wpo_mv (a := ((eL 5 e_api_Entry) x0)) rfl rfl rfl (o_mv tk rfl (Wk.refl _)) ?_
      refine wpo_mv (a := (eI c3)) rfl rfl rfl (o_mv tk rfl (Wk.refl _)) ?_
      refine wpo_bd H15 (fun y => .fptr (e_api_Entry y).cells 0) rfl rfl rfl (fun v17 hv => o_ixa tk hv td60 enc24 rfl rfl) fun v17 hv17 H16 => ?_
      refine wpo_mv (a := (e_api_Entry v17)) rfl rfl rfl (o_ld_e tk enc24 rfl rfl) ?_
      refine wpo_bdr H16 eB rfl rfl rfl (fun v19 hv => h_callr rfl rfl (.cons (.of_eq rfl) (.cons (.of_eq rfl) .nil)) (bucket_Find_1_c_ok hv _ (hH.at_ 0 rfl))) fun v19 hv19 H18 => ?_
      refine wpo_nil ?_
      refine awp_if H18 rfl (fun H20 => ?_) (fun H20 => ?_)
      · refine awp_seq ?_
        refine awp_region rfl ?_
        refine wpo_mv (a := (eI c3)) rfl rfl rfl (o_mv tk rfl (Wk.refl _)) ?_
        refine wpo_mv (a := (eI c3)) rfl rfl rfl (o_as tk rfl (Wk.refl _)) ?_
        refine wpo_nil ?_
        refine awp_ret ?_
        have hz := hy10 _ (inj_inr H20)
        refine ⟨⟨_, inj_inr H20⟩, ?_⟩
        rw [← hz] at hj6
        have H21 := (show some _ = some _ from hj6)
        obtain rfl := Option.some.inj H21
        exact ⟨_, (eI c3), rfl, (.of_eq rfl), .of_eq ((enc_i64 td3 sz3).cut _ _ _), (hH.noT.unbring h1)⟩
      · refine awp_skip ?_
        refine awp_region rfl ?_
        refine wpo_lt H20 eI rfl rfl rfl (o_ar tk rfl rfl rfl) fun v23 H22 => ?_
        refine wpo_mv (a := (eI v23)) rfl rfl rfl (o_mv tk rfl (Wk.refl _)) ?_
        refine wpo_nil ?_
        exact ⟨v23, inj_inl H22, (wkf_cons (.of_eq rfl) (wkf_cons (.of_eq rfl) (wkf_cons (.of_eq rfl) (wkf_cons (.of_eq rfl) (wkf_nil _))))), hH⟩
    · refine awp_exit ?_
      have hz := hy10 _ (inj_inr H15)
      exact ⟨⟨_, inj_inr H15⟩, (), hz.symm, (wkf_nil _), hH⟩
end Go.Proofs.YtkmlinaofbcbaaaDoor
namespace Go.Proofs.YtkmlinaofbcbaaaDoor
open Go Go.Va
set_option linter.unusedVariables false
set_option linter.unusedSimpArgs false
set_option maxRecDepth 20000
theorem bucket_Find_ok {x0 : List api_Entry} {x1 : List (BitVec 8)} {r : Int} (H : bucket_Find x0 x1 = some r) (σ : St)  : ACall Tryd.prog 50 [((eL 5 e_api_Entry) x0), (eS x1)] σ (fun a τ => a = eI r ∧ τ = σ) := by
  unfold bucket_Find at H
  refine ACall.pure (acall_start tk Tryd.func50 (by decide) rfl (Nat.le_of_ble_eq_true rfl) ?_)
  have hH := Holds.init σ
  refine awp_seq ?_
  refine awp_region rfl ?_
  refine wpo_a (av := fun id => .ref id 0) rfl rfl rfl (h_box tk hH rfl (.of_eq rfl) (b := (eS x1)) rfl [eS x1] rfl) fun id1 τ ⟨hH, n2⟩ => ?_
  refine wpo_mv (a := (eI (0 : Int))) rfl rfl rfl (o_as tk rfl (Wk.refl _)) ?_
  refine wpo_nil ?_
  refine awp_seq ?_
  refine awp_region rfl ?_
  refine wpo_mv (a := ((eL 5 e_api_Entry) x0)) rfl rfl rfl (o_mv tk rfl (Wk.refl _)) ?_
  refine wpo_mv (a := (.fn (.func 109) [] [(.ref id1 0)])) rfl rfl rfl (o_c tk false rfl (fun _ => rfl)) ?_
  refine wpo_bdr H eI rfl rfl rfl (fun v4 hv => h_callr rfl rfl (.cons (.of_eq rfl) (.cons (.of_eq rfl) .nil)) (slices_IndexFunc_api_Entry_api_Entry_bucket_Find_1_c_ok hv _ (hH.at_ 0 rfl))) fun v4 hv4 H3 => ?_
  refine wpo_mv (a := (eI v4)) rfl rfl rfl (o_as tk rfl (Wk.refl _)) ?_
  refine wpo_nil ?_
  refine awp_ret ?_
  obtain rfl := Option.some.inj H3
  exact ⟨_, (eI v4), rfl, (.of_eq rfl), .of_eq ((enc_i64 td3 sz3).cut _ _ _), (hH.noT.drop n2)⟩
end Go.Proofs.YtkmlinaofbcbaaaDoor
namespace Go.Proofs.YtkmlinaofbcbaaaDoor
open Go Go.Va
set_option linter.unusedVariables false
set_option linter.unusedSimpArgs false
set_option maxRecDepth 20000
theorem trouble_Wrap_ok {x0 : List (BitVec 8)} {x1 : Int} {x2 : Err} {r : Err} (H : trouble_Wrap x0 x1 x2 = some r) (σ : St)  : ACall Tryd.prog 59 [(eS x0), (eI x1), (eErr x2)] σ (fun a τ => a = eErr r ∧ τ = σ) := by
  unfold trouble_Wrap at H
  refine ACall.pure (acall_start tk Tryd.func59 (by decide) rfl (Nat.le_of_ble_eq_true rfl) ?_)
  have hH := Holds.init σ
  refine awp_seq ?_
  refine awp_region rfl ?_
  refine wpo_mv (a := (eErr Err.nil)) rfl rfl rfl (o_as tk rfl (Wk.refl _)) ?_
  refine wpo_nil ?_
  refine awp_seq ?_
  refine awp_seq ?_
  refine awp_region rfl ?_
  refine wpo_mv (a := (eErr x2)) rfl rfl rfl (o_mv tk rfl (Wk.refl _)) ?_
  refine wpo_lt H eB rfl rfl rfl (o_err_eql tk rfl rfl rfl) fun v2 H1 => ?_
  refine wpo_nil ?_
  refine awp_if H1 rfl (fun H3 => ?_) (fun H3 => ?_)
  · refine awp_seq ?_
    refine awp_region rfl ?_
    refine wpo_mv (a := (eErr Err.nil)) rfl rfl rfl (o_as tk rfl (Wk.refl _)) ?_
    refine wpo_nil ?_
    refine awp_ret ?_
    obtain rfl := Option.some.inj H3
    exact ⟨_, (eErr Err.nil), rfl, (.of_eq rfl), .of_eq (encErr.cut _ _ _), hH.noT⟩
  · refine awp_skip ?_
    refine awp_seq ?_
    refine awp_region rfl ?_
    refine wpo_mv (a := (eS x0)) rfl rfl rfl (o_mv tk rfl (Wk.refl _)) ?_
    refine wpo_mv (a := (eI x1)) rfl rfl rfl (o_mv tk rfl (Wk.refl _)) ?_
    refine wpo_mv (a := (eErr x2)) rfl rfl rfl (o_mv tk rfl (Wk.refl _)) ?_
    refine wpo_lt H3 e_trouble_fault rfl rfl rfl (o_c tk false rfl (fun _ => by generalize x2 = z0; cases z0 <;> rfl)) fun v5 H4 => ?_
    refine wpo_mv (a := (.fptr (c_trouble_fault v5) 0)) rfl rfl rfl (o_boxf tk rfl (.of_eq rfl) (b := (e_trouble_fault v5)) (enc113.flat _)) ?_
    refine wpo_mv (a := (eErr (Err.fault v5.op v5.at_ v5.code v5.under))) rfl rfl rfl (o_c tk false rfl (fun _ => rfl)) ?_
    refine wpo_mv (a := (eErr (Err.fault v5.op v5.at_ v5.code v5.under))) rfl rfl rfl (o_as tk rfl (Wk.refl _)) ?_
    refine wpo_nil ?_
    refine awp_ret ?_
    obtain rfl := Option.some.inj H4
    exact ⟨_, (eErr (Err.fault v5.op v5.at_ v5.code v5.under)), rfl, (.of_eq rfl), .of_eq (encErr.cut _ _ _), hH.noT⟩
end Go.Proofs.YtkmlinaofbcbaaaDoor
namespace Go.Proofs.YtkmlinaofbcbaaaDoor
open Go Go.Va
set_option linter.unusedVariables false
set_option linter.unusedSimpArgs false
set_option maxRecDepth 20000
theorem trouble_New_ok {x0 : List (BitVec 8)} {x1 : Int} {x2 : Int} {r : Err} (H : trouble_New x0 x1 x2 = some r) (σ : St)  : ACall Tryd.prog 71 [(eS x0), (eI x1), (eI x2)] σ (fun a τ => a = eErr r ∧ τ = σ) := by
  unfold trouble_New at H
  refine ACall.pure (acall_start tk Tryd.func71 (by decide) rfl (Nat.le_of_ble_eq_true rfl) ?_)
  have hH := Holds.init σ
  refine awp_seq ?_
  refine awp_region rfl ?_
  refine wpo_mv (a := (eErr Err.nil)) rfl rfl rfl (o_as tk rfl (Wk.refl _)) ?_
  refine wpo_nil ?_
  refine awp_seq ?_
  refine awp_seq ?_
  refine awp_region rfl ?_
  refine wpo_mv (a := (eI x2)) rfl rfl rfl (o_mv tk rfl (Wk.refl _)) ?_
  refine wpo_lt H eB rfl rfl rfl (o_ar tk rfl rfl rfl) fun v2 H1 => ?_
  refine wpo_nil ?_
  refine awp_if H1 rfl (fun H3 => ?_) (fun H3 => ?_)
  · refine awp_seq ?_
    refine awp_region rfl ?_
    refine wpo_mv (a := (eErr Err.nil)) rfl rfl rfl (o_as tk rfl (Wk.refl _)) ?_
    refine wpo_nil ?_
    refine awp_ret ?_
    obtain rfl := Option.some.inj H3
    exact ⟨_, (eErr Err.nil), rfl, (.of_eq rfl), .of_eq (encErr.cut _ _ _), hH.noT⟩
  · refine awp_skip ?_
    refine awp_seq ?_
    refine awp_region rfl ?_
    refine wpo_mv (a := (eS x0)) rfl rfl rfl (o_mv tk rfl (Wk.refl _)) ?_
    refine wpo_mv (a := (eI x1)) rfl rfl rfl (o_mv tk rfl (Wk.refl _)) ?_
    refine wpo_mv (a := (eI x2)) rfl rfl rfl (o_mv tk rfl (Wk.refl _)) ?_
    refine wpo_lt H3 e_trouble_fault rfl rfl rfl (o_c tk false rfl (fun _ => rfl)) fun v5 H4 => ?_
    refine wpo_mv (a := (.fptr (c_trouble_fault v5) 0)) rfl rfl rfl (o_boxf tk rfl (.of_eq rfl) (b := (e_trouble_fault v5)) (enc113.flat _)) ?_
    refine wpo_mv (a := (eErr (Err.fault v5.op v5.at_ v5.code v5.under))) rfl rfl rfl (o_c tk false rfl (fun _ => rfl)) ?_
    refine wpo_mv (a := (eErr (Err.fault v5.op v5.at_ v5.code v5.under))) rfl rfl rfl (o_as tk rfl (Wk.refl _)) ?_
    refine wpo_nil ?_
    refine awp_ret ?_
    obtain rfl := Option.some.inj H4
    exact ⟨_, (eErr (Err.fault v5.op v5.at_ v5.code v5.under)), rfl, (.of_eq rfl), .of_eq (encErr.cut _ _ _), hH.noT⟩
end Go.Proofs.YtkmlinaofbcbaaaDoor
namespace Go.Proofs.YtkmlinaofbcbaaaDoor
open Go Go.Va
set_option linter.unusedVariables false
set_option linter.unusedSimpArgs false
set_option maxRecDepth 20000
theorem octets_Reader_Fail_ok {x0 : octets_Reader} {x1 : Int} {r : octets_Reader} (H : octets_Reader_Fail x0 x1 = some r) (σ : St) {p0 : Nat} (h0 : σ.objs[p0]? = some (c_octets_Reader x0)) : ACall Tryd.prog 123 [(.ref p0 0), (eI x1)] σ (fun a τ => a = .tup [] ∧ τ = σ.puts [(p0, (c_octets_Reader r))]) := by
  unfold octets_Reader_Fail at H
  refine ACall.out [(p0, (c_octets_Reader r))] (by simp only [List.mem_cons, List.not_mem_nil, or_false]; rintro _ (rfl) ρ κ <;> exact c_octets_Reader_cut ρ κ _) (acall_start tk Tryd.func123 (by decide) rfl (Nat.le_of_ble_eq_true rfl) ?_)
  have hH := Holds.init σ
  have hH := hH.bring h0 (fun _ h => by cases h)
  refine awp_seq ?_
  refine awp_region rfl ?_
  refine wpo_mv (a := (.ref p0 0)) rfl rfl rfl (o_mv tk rfl (Wk.refl _)) ?_
  refine wpo_mv (a := (.ref p0 0)) rfl rfl rfl (o_c tk false rfl (fun _ => rfl)) ?_
  refine wpo_mv (a := (.ref p0 2)) rfl rfl rfl (o_c tk false rfl (fun _ => rfl)) ?_
  refine wpo_rd (a := (eI x0.code)) rfl rfl rfl (h_ld tk hH 0 rfl rfl rfl) ?_
  refine wpo_lt H eB rfl rfl rfl (o_ar tk rfl rfl rfl) fun v2 H1 => ?_
  refine wpo_nil ?_
  refine awp_if H1 rfl (fun H3 => ?_) (fun H3 => ?_)
  · refine awp_region rfl ?_
    refine wpo_mv (a := (.ref p0 0)) rfl rfl rfl (o_mv tk rfl (Wk.refl _)) ?_
    refine wpo_mv (a := (eI x1)) rfl rfl rfl (o_mv tk rfl (Wk.refl _)) ?_
    refine wpo_mv (a := (.ref p0 0)) rfl rfl rfl (o_c tk false rfl (fun _ => rfl)) ?_
    refine wpo_mv (a := (.ref p0 2)) rfl rfl rfl (o_c tk false rfl (fun _ => rfl)) ?_
    obtain ⟨c5, hc6, H4⟩ := lt_ex H3
    refine wpo_z rfl rfl (h_st tk hH 0 rfl ty33 (by simp) rfl rfl (.of_eq rfl) (b := (eI x1)) rfl rfl (Nat.le_of_ble_eq_true rfl) (c_octets_Reader c5) (by rw [← hc6]; rfl)) fun τ hH => ?_
    refine wpo_nil ?_
    obtain rfl := Option.some.inj H4
    exact ⟨_, (.tup []), rfl, (.of_eq rfl), .of_eq rfl, hH.noT⟩
  · refine awp_skip ?_
    obtain rfl := Option.some.inj H3
    exact ⟨_, (.tup []), rfl, (.of_eq rfl), .of_eq rfl, hH.noT⟩
end Go.Proofs.YtkmlinaofbcbaaaDoor
namespace Go.Proofs.YtkmlinaofbcbaaaDoor
open Go Go.Va
set_option linter.unusedVariables false
set_option linter.unusedSimpArgs false
set_option maxRecDepth 20000
theorem item_Check_1_c_ok {x0 : List (BitVec 8)} {x1 : Int} {x2 : Int} {x3 : Err} {r : Err} (H : item_Check_1_c x0 x1 x2 x3 = some r) (σ : St) {p3 : Nat} (h3 : σ.objs[p3]? = some [eErr x3]) : ACall Tryd.prog 122 [(eS x0), (eI x1), (eI x2), (.ref p3 0)] σ (fun a τ => a = .tup [] ∧ τ = σ.puts [(p3, [eErr r])]) := by
  unfold item_Check_1_c at H
  refine ACall.out [(p3, [eErr r])] (by simp only [List.mem_cons, List.not_mem_nil, or_false]; rintro _ (rfl) ρ κ <;> exact (by simp only [cutL, encErr.cut ρ κ])) (acall_start tk Tryd.func122 (by decide) rfl (Nat.le_of_ble_eq_true rfl) ?_)
  have hH := Holds.init σ
  have hH := hH.bring h3 (fun _ h => by cases h)
  refine awp_seq ?_
  obtain ⟨s1, hs3, hj4⟩ := Option.bind_eq_some_iff.1 H
  refine awp_cutn (fun fr τ => WkF fr (fm [(0, (eS x0)), (1, (eI x1)), (3, (.ref p3 0)), (17, (eB s1))]) ∧ Holds σ [(p3, [eErr x3])] [] τ) ?_ ?_
  · rintro fr τ ⟨hfr, hH⟩
    have H13 := hj4
    refine AWP.fm [(0, (eS x0)), (1, (eI x1)), (3, (.ref p3 0)), (17, (eB s1))] hfr ?_
    refine awp_if H13 rfl (fun H14 => ?_) (fun H14 => ?_)
    · refine awp_region rfl ?_
      refine wpo_mv (a := (eS x0)) rfl rfl rfl (o_mv tk rfl (Wk.refl _)) ?_
      refine wpo_mv (a := (eI x1)) rfl rfl rfl (o_mv tk rfl (Wk.refl _)) ?_
      refine wpo_bd H14 eErr rfl rfl rfl (fun v16 hv => OpP.of_call rfl rfl (.cons (.of_eq rfl) (.cons (.of_eq rfl) (.cons (.of_eq rfl) .nil))) (trouble_New_ok hv)) fun v16 hv16 H15 => ?_
      obtain ⟨c18, hc19, H17⟩ := lt_ex H15
      refine wpo_z rfl rfl (h_st tk hH 0 rfl ty30 (by simp) rfl rfl (.of_eq rfl) (b := (eErr v16)) (encErr.flat _) (by rw [show (eErr _).cells = [eErr _] from encErr.one rfl _]; rfl) (Nat.le_of_ble_eq_true rfl) [eErr c18] (by rw [← hc19, show (eErr _).cells = [eErr _] from encErr.one rfl _]; rfl)) fun τ hH => ?_
      refine wpo_nil ?_
      obtain rfl := Option.some.inj H17
      exact ⟨_, (.tup []), rfl, (.of_eq rfl), .of_eq rfl, hH.noT⟩
    · refine awp_skip ?_
      obtain rfl := Option.some.inj H14
      exact ⟨_, (.tup []), rfl, (.of_eq rfl), .of_eq rfl, hH.noT⟩
  · refine awp_region rfl ?_
    refine wpo_rd (a := (eErr x3)) rfl rfl rfl (h_ld tk hH 0 rfl rfl rfl) ?_
    refine wpo_lt hs3 eB rfl rfl rfl (o_err_eql tk rfl rfl rfl) fun v6 H5 => ?_
    refine wpo_mv (a := (eB v6)) rfl rfl rfl (o_mv tk rfl (Wk.refl _)) ?_
    refine if_split H5 (fun hb H7 => ?_) (fun hb H7 => ?_)
    · subst hb
      refine wpo_mv (a := (eI x1)) rfl rfl rfl (o_mv tk rfl (Wk.refl _)) ?_
      refine wpo_mv (a := (eI x2)) rfl rfl rfl (o_mv tk rfl (Wk.refl _)) ?_
      refine wpo_lt H7 eB rfl rfl rfl (o_ar tk rfl rfl rfl) fun v9 H8 => ?_
      refine wpo_mv (a := (eB v9)) rfl rfl rfl (o_mv tk rfl (Wk.refl _)) ?_
      refine if_split H8 (fun hb H10 => ?_) (fun hb H10 => ?_)
      · subst hb
        refine wpo_skip rfl rfl rfl ?_
        refine wpo_skip rfl rfl rfl ?_
        refine wpo_mv (a := (eB true)) rfl rfl rfl (o_pick_t tk rfl rfl (Wk.refl _)) ?_
        refine wpo_mv (a := (eB true)) rfl rfl rfl (o_pick_t tk rfl rfl (Wk.refl _)) ?_
        refine wpo_nil ?_
        have e := Option.some.inj H10
        subst e
        exact ⟨(wkf_cons (.of_eq rfl) (wkf_cons (.of_eq rfl) (wkf_cons (.of_eq rfl) (wkf_cons (.of_eq rfl) (wkf_nil _))))), hH⟩
      · subst hb
        refine wpo_mv (a := (eI x1)) rfl rfl rfl (o_mv tk rfl (Wk.refl _)) ?_
        refine wpo_lt H10 eB rfl rfl rfl (o_ar tk rfl rfl rfl) fun v12 H11 => ?_
        refine wpo_mv (a := (eB v12)) rfl rfl rfl (o_pick_f tk rfl rfl (Wk.refl _)) ?_
        refine wpo_mv (a := (eB v12)) rfl rfl rfl (o_pick_t tk rfl rfl (Wk.refl _)) ?_
        refine wpo_nil ?_
        have e := Option.some.inj H11
        subst e
        exact ⟨(wkf_cons (.of_eq rfl) (wkf_cons (.of_eq rfl) (wkf_cons (.of_eq rfl) (wkf_cons (.of_eq rfl) (wkf_nil _))))), hH⟩
    · subst hb
      refine wpo_skip rfl rfl rfl ?_
      refine wpo_skip rfl rfl rfl ?_
      refine wpo_skip rfl rfl rfl ?_
      refine wpo_skip rfl rfl rfl ?_
      refine wpo_skip rfl rfl rfl ?_
      refine wpo_skip rfl rfl rfl ?_
      refine wpo_skip rfl rfl rfl ?_
      refine wpo_mv (a := (eB false)) rfl rfl rfl (o_pick_f tk rfl rfl (Wk.refl _)) ?_
      refine wpo_nil ?_
      have e := Option.some.inj H7
      subst e
      exact ⟨(wkf_cons (.of_eq rfl) (wkf_cons (.of_eq rfl) (wkf_cons (.of_eq rfl) (wkf_cons (.of_eq rfl) (wkf_nil _))))), hH⟩
end Go.Proofs.YtkmlinaofbcbaaaDoor
namespace Go.Proofs.YtkmlinaofbcbaaaDoor
open Go Go.Va
set_option linter.unusedVariables false
set_option linter.unusedSimpArgs false
set_option maxRecDepth 20000
theorem octets_Key_ok {x0 : List (BitVec 8)} {r : Int} (H : octets_Key x0 = some r) (σ : St)  : ACall Tryd.prog 73 [(eS x0)] σ (fun a τ => a = eI r ∧ τ = σ) := by
  unfold octets_Key at H
  refine ACall.pure (acall_start tk Tryd.func73 (by decide) rfl (Nat.le_of_ble_eq_true rfl) ?_)
  have hH := Holds.init σ
  refine awp_seq ?_
  refine awp_region rfl ?_
  refine wpo_mv (a := (eI (0 : Int))) rfl rfl rfl (o_as tk rfl (Wk.refl _)) ?_
  refine wpo_nil ?_
  refine awp_seq ?_
  refine awp_seq ?_
  refine awp_region rfl ?_
  refine wpo_mv (a := (eS x0)) rfl rfl rfl (o_mv tk rfl (Wk.refl _)) ?_
  refine wpo_lt H eI rfl rfl rfl (o_len_s tk td9 rfl) fun v2 H1 => ?_
  refine wpo_mv (a := (eI v2)) rfl rfl rfl (o_as tk rfl (Wk.refl _)) ?_
  refine wpo_nil ?_
  refine awp_block ?_
  refine awp_seq ?_
  refine awp_region rfl ?_
  refine wpo_mv (a := (eI v2)) rfl rfl rfl (o_mv tk rfl (Wk.refl _)) ?_
  refine wpo_lt H1 eB rfl rfl rfl (o_ar tk rfl rfl rfl) fun v4 H3 => ?_
  refine wpo_mv (a := (eB v4)) rfl rfl rfl (o_as tk rfl (Wk.refl _)) ?_
  refine wpo_nil ?_
  refine awp_if H3 rfl (fun H5 => ?_) (fun H5 => ?_)
  · refine awp_seq ?_
    refine awp_region rfl ?_
    refine wpo_mv (a := (eI (1 : Int))) rfl rfl rfl (o_as tk rfl (Wk.refl _)) ?_
    refine wpo_nil ?_
    refine awp_ret ?_
    obtain rfl := Option.some.inj H5
    exact ⟨_, (eI (1 : Int)), rfl, (.of_eq rfl), .of_eq ((enc_i64 td33 sz33).cut _ _ _), hH.noT⟩
  · refine awp_seq ?_
    refine awp_region rfl ?_
    refine wpo_mv (a := (eI v2)) rfl rfl rfl (o_mv tk rfl (Wk.refl _)) ?_
    refine wpo_lt H5 eB rfl rfl rfl (o_ar tk rfl rfl rfl) fun v7 H6 => ?_
    refine wpo_mv (a := (eB v7)) rfl rfl rfl (o_as tk rfl (Wk.refl _)) ?_
    refine wpo_nil ?_
    refine awp_if H6 rfl (fun H8 => ?_) (fun H8 => ?_)
    · refine awp_seq ?_
      refine awp_region rfl ?_
      refine wpo_mv (a := (eI (3 : Int))) rfl rfl rfl (o_as tk rfl (Wk.refl _)) ?_
      refine wpo_nil ?_
      refine awp_ret ?_
      obtain rfl := Option.some.inj H8
      exact ⟨_, (eI (3 : Int)), rfl, (.of_eq rfl), .of_eq ((enc_i64 td33 sz33).cut _ _ _), hH.noT⟩
    · refine awp_skip ?_
      refine awp_seq ?_
      refine awp_region rfl ?_
      refine wpo_mv (a := (eI (0 : Int))) rfl rfl rfl (o_as tk rfl (Wk.refl _)) ?_
      refine wpo_nil ?_
      refine awp_ret ?_
      obtain rfl := Option.some.inj H8
      exact ⟨_, (eI (0 : Int)), rfl, (.of_eq rfl), .of_eq ((enc_i64 td33 sz33).cut _ _ _), hH.noT⟩
end Go.Proofs.YtkmlinaofbcbaaaDoor
namespace Go.Proofs.YtkmlinaofbcbaaaDoor
open Go Go.Va
set_option linter.unusedVariables false
set_option linter.unusedSimpArgs false
set_option maxRecDepth 20000
theorem item_Check_ok {x0 : api_Entry} {r : Err} (H : item_Check x0 = some r) (σ : St)  : ACall Tryd.prog 74 [(e_api_Entry x0)] σ (fun a τ => a = eErr r ∧ τ = σ) := by
  unfold item_Check at H
  refine ACall.pure (acall_start tk Tryd.func74 (by decide) rfl (Nat.le_of_ble_eq_true rfl) ?_)
  have hH := Holds.init σ
  refine awp_seq ?_
  refine awp_region rfl ?_
  refine wpo_mv (a := (.fptr (c_api_Entry x0) 0)) rfl rfl rfl (o_boxf tk rfl (.of_eq rfl) (b := (e_api_Entry x0)) (enc24.flat _)) ?_
  refine wpo_mv (a := (eErr Err.nil)) rfl rfl rfl (o_as tk rfl (Wk.refl _)) ?_
  refine wpo_nil ?_
  refine awp_seq ?_
  refine awp_seq ?_
  refine awp_region rfl ?_
  refine wpo_mv (a := (.fptr (c_api_Entry x0) 0)) rfl rfl rfl (o_c tk false rfl (fun _ => rfl)) ?_
  refine wpo_mv (a := (eS x0.Key)) rfl rfl rfl (o_ld tk rfl rfl) ?_
  refine wpo_bd H eI rfl rfl rfl (fun v2 hv => OpP.of_call rfl rfl (.cons (.of_eq rfl) .nil) (octets_Key_ok hv)) fun v2 hv2 H1 => ?_
  refine wpo_mv (a := (eI v2)) rfl rfl rfl (o_as tk rfl (Wk.refl _)) ?_
  refine wpo_nil ?_
  refine awp_seq ?_
  refine awp_region rfl ?_
  refine wpo_mv (a := (eI v2)) rfl rfl rfl (o_mv tk rfl (Wk.refl _)) ?_
  refine wpo_lt H1 eB rfl rfl rfl (o_ar tk rfl rfl rfl) fun v4 H3 => ?_
  refine wpo_nil ?_
  refine awp_if H3 rfl (fun H5 => ?_) (fun H5 => ?_)
  · refine awp_seq ?_
    refine awp_region rfl ?_
    refine wpo_mv (a := (.fptr (c_api_Entry x0) 0)) rfl rfl rfl (o_c tk false rfl (fun _ => rfl)) ?_
    refine wpo_mv (a := (eS x0.Key)) rfl rfl rfl (o_ld tk rfl rfl) ?_
    refine wpo_lt H5 eI rfl rfl rfl (o_len_s tk td9 rfl) fun v7 H6 => ?_
    refine wpo_mv (a := (eI v2)) rfl rfl rfl (o_mv tk rfl (Wk.refl _)) ?_
    refine wpo_bd H6 eErr rfl rfl rfl (fun v9 hv => OpP.of_call rfl rfl (.cons (.of_eq rfl) (.cons (.of_eq rfl) (.cons (.of_eq rfl) .nil))) (trouble_New_ok hv)) fun v9 hv9 H8 => ?_
    refine wpo_mv (a := (eErr v9)) rfl rfl rfl (o_as tk rfl (Wk.refl _)) ?_
    refine wpo_nil ?_
    refine awp_ret ?_
    obtain rfl := Option.some.inj H8
    exact ⟨_, (eErr v9), rfl, (.of_eq rfl), .of_eq (encErr.cut _ _ _), hH.noT⟩
  · refine awp_skip ?_
    refine awp_seq ?_
    refine awp_region rfl ?_
    refine wpo_a (av := fun id => .ref id 0) rfl rfl rfl (h_alloc tk hH ty30 [eErr Err.nil] rfl) fun id10 τ ⟨hH, n11⟩ => ?_
    refine wpo_nil ?_
    refine awp_seq ?_
    refine awp_region rfl ?_
    refine wpo_mv (a := (.fn (.func 122) [] [(.ref id10 0)])) rfl rfl rfl (o_c tk false rfl (fun _ => rfl)) ?_
    refine wpo_mv (a := (.fn (.func 122) [] [(.ref id10 0)])) rfl rfl rfl (o_as tk rfl (Wk.refl _)) ?_
    refine wpo_nil ?_
    refine awp_seq ?_
    refine awp_region rfl ?_
    refine wpo_mv (a := (.fn (.func 122) [] [(.ref id10 0)])) rfl rfl rfl (o_mv tk rfl (Wk.refl _)) ?_
    refine wpo_mv (a := (.fptr (c_api_Entry x0) 1)) rfl rfl rfl (o_c tk false rfl (fun _ => rfl)) ?_
    refine wpo_mv (a := (eI x0.Version)) rfl rfl rfl (o_ld tk rfl rfl) ?_
    refine wpo_cb H5 (fun x _ => .tup []) rfl rfl rfl (fun v13 hv => h_call1 hH [(0, (id10, [eErr v13]))] ⟨⟨_, rfl⟩, trivial⟩ rfl rfl (.cons (.of_eq rfl) (.cons (.of_eq rfl) (.cons (.of_eq rfl) (.cons (.of_eq rfl) .nil)))) (item_Check_1_c_ok hv _ (hH.at_ 0 rfl))) fun v13 _ τ hv13 H12 hH => ?_
    refine wpo_nil ?_
    refine awp_seq ?_
    refine awp_region rfl ?_
    refine wpo_mv (a := (.fn (.func 122) [] [(.ref id10 0)])) rfl rfl rfl (o_mv tk rfl (Wk.refl _)) ?_
    refine wpo_mv (a := (.fptr (c_api_Entry x0) 2)) rfl rfl rfl (o_c tk false rfl (fun _ => rfl)) ?_
    refine wpo_mv (a := (eI x0.AsOf)) rfl rfl rfl (o_ld tk rfl rfl) ?_
    refine wpo_mv (a := (.fptr (c_api_Entry x0) 1)) rfl rfl rfl (o_c tk false rfl (fun _ => rfl)) ?_
    refine wpo_mv (a := (eI x0.Version)) rfl rfl rfl (o_ld tk rfl rfl) ?_
    refine wpo_cb H12 (fun x _ => .tup []) rfl rfl rfl (fun v15 hv => h_call1 hH [(0, (id10, [eErr v15]))] ⟨⟨_, rfl⟩, trivial⟩ rfl rfl (.cons (.of_eq rfl) (.cons (.of_eq rfl) (.cons (.of_eq rfl) (.cons (.of_eq rfl) .nil)))) (item_Check_1_c_ok hv _ (hH.at_ 0 rfl))) fun v15 _ τ hv15 H14 hH => ?_
    refine wpo_nil ?_
    refine awp_seq ?_
    refine awp_region rfl ?_
    refine wpo_mv (a := (.fn (.func 122) [] [(.ref id10 0)])) rfl rfl rfl (o_mv tk rfl (Wk.refl _)) ?_
    refine wpo_mv (a := (.fptr (c_api_Entry x0) 3)) rfl rfl rfl (o_c tk false rfl (fun _ => rfl)) ?_
    refine wpo_mv (a := (eI x0.Ends)) rfl rfl rfl (o_ld tk rfl rfl) ?_
    refine wpo_cb H14 (fun x _ => .tup []) rfl rfl rfl (fun v17 hv => h_call1 hH [(0, (id10, [eErr v17]))] ⟨⟨_, rfl⟩, trivial⟩ rfl rfl (.cons (.of_eq rfl) (.cons (.of_eq rfl) (.cons (.of_eq rfl) (.cons (.of_eq rfl) .nil)))) (item_Check_1_c_ok hv _ (hH.at_ 0 rfl))) fun v17 _ τ hv17 H16 hH => ?_
    refine wpo_nil ?_
    refine awp_seq ?_
    refine awp_seq ?_
    obtain ⟨s18, hs20, hj21⟩ := Option.bind_eq_some_iff.1 H16
    refine awp_cutn (fun fr τ => WkF fr (fm [(1, (.fptr (c_api_Entry x0) 0)), (4, (.ref id10 0)), (38, (eB s18))]) ∧ Holds σ [(id10, [eErr v17])] [] τ) ?_ ?_
    · rintro fr τ ⟨hfr, hH⟩
      have H29 := hj21
      refine AWP.fm [(1, (.fptr (c_api_Entry x0) 0)), (4, (.ref id10 0)), (38, (eB s18))] hfr ?_
      refine awp_if H29 rfl (fun H30 => ?_) (fun H30 => ?_)
      · refine awp_region rfl ?_
        refine wpo_mv (a := (.fptr (c_api_Entry x0) 4)) rfl rfl rfl (o_c tk false rfl (fun _ => rfl)) ?_
        refine wpo_mv (a := ((eL 1 (@eU .u8 8)) x0.Value)) rfl rfl rfl (o_ld tk rfl rfl) ?_
        refine wpo_lt H30 eI rfl rfl rfl (o_len tk td22 rfl) fun v32 H31 => ?_
        refine wpo_bd H31 eErr rfl rfl rfl (fun v34 hv => OpP.of_call rfl rfl (.cons (.of_eq rfl) (.cons (.of_eq rfl) (.cons (.of_eq rfl) .nil))) (trouble_New_ok hv)) fun v34 hv34 H33 => ?_
        obtain ⟨c36, hc37, H35⟩ := lt_ex H33
        refine wpo_z rfl rfl (h_st tk hH 0 rfl ty30 (by simp) rfl rfl (.of_eq rfl) (b := (eErr v34)) (encErr.flat _) (by rw [show (eErr _).cells = [eErr _] from encErr.one rfl _]; rfl) (Nat.le_of_ble_eq_true rfl) [eErr c36] (by rw [← hc37, show (eErr _).cells = [eErr _] from encErr.one rfl _]; rfl)) fun τ hH => ?_
        refine wpo_nil ?_
        refine awp_seq ?_
        refine awp_region rfl ?_
        refine wpo_rd (a := (eErr c36)) rfl rfl rfl (h_ld tk hH 0 rfl rfl rfl) ?_
        refine wpo_mv (a := (eErr c36)) rfl rfl rfl (o_as tk rfl (Wk.refl _)) ?_
        refine wpo_nil ?_
        refine awp_ret ?_
        obtain rfl := Option.some.inj H35
        exact ⟨_, (eErr c36), rfl, (.of_eq rfl), .of_eq (encErr.cut _ _ _), (hH.noT.drop n11)⟩
      · refine awp_skip ?_
        refine awp_seq ?_
        refine awp_region rfl ?_
        refine wpo_rd (a := (eErr v17)) rfl rfl rfl (h_ld tk hH 0 rfl rfl rfl) ?_
        refine wpo_mv (a := (eErr v17)) rfl rfl rfl (o_as tk rfl (Wk.refl _)) ?_
        refine wpo_nil ?_
        refine awp_ret ?_
        obtain rfl := Option.some.inj H30
        exact ⟨_, (eErr v17), rfl, (.of_eq rfl), .of_eq (encErr.cut _ _ _), (hH.noT.drop n11)⟩
    · refine awp_region rfl ?_
      refine wpo_rd (a := (eErr v17)) rfl rfl rfl (h_ld tk hH 0 rfl rfl rfl) ?_
      refine wpo_lt hs20 eB rfl rfl rfl (o_err_eql tk rfl rfl rfl) fun v23 H22 => ?_
      refine wpo_mv (a := (eB v23)) rfl rfl rfl (o_mv tk rfl (Wk.refl _)) ?_
      refine if_split H22 (fun hb H24 => ?_) (fun hb H24 => ?_)
      · subst hb
        refine wpo_mv (a := (.fptr (c_api_Entry x0) 4)) rfl rfl rfl (o_c tk false rfl (fun _ => rfl)) ?_
        refine wpo_mv (a := ((eL 1 (@eU .u8 8)) x0.Value)) rfl rfl rfl (o_ld tk rfl rfl) ?_
        refine wpo_lt H24 eI rfl rfl rfl (o_len tk td22 rfl) fun v26 H25 => ?_
        refine wpo_lt H25 eB rfl rfl rfl (o_ar tk rfl rfl rfl) fun v28 H27 => ?_
        refine wpo_mv (a := (eB v28)) rfl rfl rfl (o_pick_t tk rfl rfl (Wk.refl _)) ?_
        refine wpo_nil ?_
        have e := Option.some.inj H27
        subst e
        exact ⟨(wkf_cons (.of_eq rfl) (wkf_cons (.of_eq rfl) (wkf_cons (.of_eq rfl) (wkf_nil _)))), hH⟩
      · subst hb
        refine wpo_skip rfl rfl rfl ?_
        refine wpo_skip rfl rfl rfl ?_
        refine wpo_skip rfl rfl rfl ?_
        refine wpo_skip rfl rfl rfl ?_
        refine wpo_mv (a := (eB false)) rfl rfl rfl (o_pick_f tk rfl rfl (Wk.refl _)) ?_
        refine wpo_nil ?_
        have e := Option.some.inj H24
        subst e
        exact ⟨(wkf_cons (.of_eq rfl) (wkf_cons (.of_eq rfl) (wkf_cons (.of_eq rfl) (wkf_nil _)))), hH⟩
end Go.Proofs.YtkmlinaofbcbaaaDoor
namespace Go.Proofs.YtkmlinaofbcbaaaDoor
open Go Go.Va
set_option linter.unusedVariables false
set_option linter.unusedSimpArgs false
set_option maxRecDepth 20000
theorem octets_Reader_Number_ok {x0 : octets_Reader} {x1 : Int} {r : Int × octets_Reader} (H : octets_Reader_Number x0 x1 = some r) (σ : St) {p0 : Nat} (h0 : σ.objs[p0]? = some (c_octets_Reader x0)) : ACall Tryd.prog 81 [(.ref p0 0), (eI x1)] σ (fun a τ => a = eI r.1 ∧ τ = σ.puts [(p0, (c_octets_Reader r.2))]) := by
  unfold octets_Reader_Number at H
  refine ACall.out [(p0, (c_octets_Reader r.2))] (by simp only [List.mem_cons, List.not_mem_nil, or_false]; rintro _ (rfl) ρ κ <;> exact c_octets_Reader_cut ρ κ _) (acall_start tk Tryd.func81 (by decide) rfl (Nat.le_of_ble_eq_true rfl) ?_)
  have hH := Holds.init σ
  have hH := hH.bring h0 (fun _ h => by cases h)
  refine awp_seq ?_
  refine awp_region rfl ?_
  refine wpo_mv (a := (eI (0 : Int))) rfl rfl rfl (o_as tk rfl (Wk.refl _)) ?_
  refine wpo_nil ?_
  refine awp_seq ?_
  refine awp_drawS mixed [] rfl (by decide +kernel) rfl rfl ?_
  refine wpdS_mv (a := (.ref p0 0)) rfl rfl rfl (o_mv tk rfl (Wk.refl _)) ?_
  refine wpdS_mv (a := (.ref p0 0)) rfl rfl rfl (o_c tk false rfl (fun _ => rfl)) ?_
  refine wpdS_mv (a := (.ref p0 1)) rfl rfl rfl (o_c tk false rfl (fun _ => rfl)) ?_
  refine wpdS_rd (a := (eI x0.at_)) rfl (by decide +kernel) rfl rfl (h_ld tk hH 0 rfl rfl rfl) ?_
  refine wpdS_mv (a := (eI (0 : Int))) rfl rfl rfl (o_as tk rfl (Wk.refl _)) ?_
  refine wpdS_mv (a := (eI x0.at_)) rfl rfl rfl (o_as tk rfl (Wk.refl _)) ?_
  refine wpdS_nil ?_
  refine awp_seq ?_
  refine awp_block ?_
  obtain ⟨o4, hs5, hj6⟩ := Option.bind_eq_some_iff.1 H
  refine awp_cutx 0 (fun fr τ => ∃ s11 : octets_Reader, o4 = .inl s11 ∧ WkF fr (fm []) ∧ Holds σ [(p0, (c_octets_Reader s11))] [] τ) ?_ ?_
  · rintro fr τ ⟨s11, rfl, hfr, hH⟩
    have H78 := hj6
    simp only [Sum.elim_inl] at H78
    refine AWP.fm [] hfr ?_
    refine awp_seq ?_
    refine awp_region rfl ?_
    refine wpo_mv (a := (eI (0 : Int))) rfl rfl rfl (o_as tk rfl (Wk.refl _)) ?_
    refine wpo_nil ?_
    refine awp_ret ?_
    obtain rfl := Option.some.inj H78
    exact ⟨_, (eI (0 : Int)), rfl, (.of_eq rfl), .of_eq ((enc_i64 td3 sz3).cut _ _ _), hH.noT⟩
  · refine awp_loopO (body := fun s => octets_Reader_Number_b0 x1 s.1 s.2.1 s.2.2) hs5 (fun (s : Int × Int × octets_Reader) fr τ => WkF fr (fm [(0, (.ref p0 0)), (1, (eI x1)), (5, (eI s.1)), (6, (eI s.2.1))]) ∧ Holds σ [(p0, (c_octets_Reader s.2.2))] [] τ) ⟨(wkf_cons (.of_eq rfl) (wkf_cons (.of_eq rfl) (wkf_cons (.of_eq rfl) (wkf_cons (.of_eq rfl) (wkf_nil _))))), hH⟩ ?_
    rintro ⟨c1, c2, c3⟩ fr τ y7 ⟨hfr, hH⟩ hb9 hy10
    have H12 : octets_Reader_Number_b0 x1 c1 c2 c3 = some y7 := hb9
    unfold octets_Reader_Number_b0 at H12
    refine AWP.fm [(0, (.ref p0 0)), (1, (eI x1)), (5, (eI c1)), (6, (eI c2))] hfr ?_
    have hH : Holds σ [(p0, (c_octets_Reader c3))] [] τ := hH
    refine awp_seq ?_
    refine awp_seq ?_
    refine awp_region rfl ?_
    refine wpo_mv (a := (.ref p0 0)) rfl rfl rfl (o_mv tk rfl (Wk.refl _)) ?_
    refine wpo_mv (a := (.ref p0 0)) rfl rfl rfl (o_c tk false rfl (fun _ => rfl)) ?_
    refine wpo_mv (a := (.ref p0 2)) rfl rfl rfl (o_c tk false rfl (fun _ => rfl)) ?_
    refine wpo_rd (a := (eI c3.code)) rfl rfl rfl (h_ld tk hH 0 rfl rfl rfl) ?_
    refine wpo_lt H12 eB rfl rfl rfl (o_ar tk rfl rfl rfl) fun v14 H13 => ?_
    refine wpo_nil ?_
    refine awp_if H13 rfl (fun H15 => ?_) (fun H15 => ?_)
    · refine awp_skip ?_
      refine awp_block ?_
      refine awp_seq ?_
      refine awp_seq ?_
      refine awp_region rfl ?_
      refine wpo_mv (a := (eI c2)) rfl rfl rfl (o_mv tk rfl (Wk.refl _)) ?_
      refine wpo_mv (a := (.ref p0 0)) rfl rfl rfl (o_mv tk rfl (Wk.refl _)) ?_
      refine wpo_mv (a := (.ref p0 0)) rfl rfl rfl (o_c tk false rfl (fun _ => rfl)) ?_
      refine wpo_mv (a := (.ref p0 0)) rfl rfl rfl (o_c tk false rfl (fun _ => rfl)) ?_
      refine wpo_rd (a := ((eL 1 (@eU .u8 8)) c3.b)) rfl rfl rfl (h_ld tk hH 0 rfl rfl rfl) ?_
      refine wpo_lt H15 eI rfl rfl rfl (o_len tk td22 rfl) fun v17 H16 => ?_
      refine wpo_lt H16 eB rfl rfl rfl (o_ar tk rfl rfl rfl) fun v19 H18 => ?_
      refine wpo_nil ?_
      refine awp_if H18 rfl (fun H20 => ?_) (fun H20 => ?_)
      · refine awp_seq ?_
        refine awp_region rfl ?_
        refine wpo_mv (a := (.ref p0 0)) rfl rfl rfl (o_mv tk rfl (Wk.refl _)) ?_
        refine wpo_cb H20 (fun x _ => .tup []) rfl rfl rfl (fun v22 hv => h_call1 hH [(0, (p0, (c_octets_Reader v22)))] ⟨⟨_, rfl⟩, trivial⟩ rfl rfl (.cons (.of_eq rfl) (.cons (.of_eq rfl) .nil)) (octets_Reader_Fail_ok hv _ (hH.at_ 0 rfl))) fun v22 _ τ hv22 H21 hH => ?_
        refine wpo_nil ?_
        refine awp_exit ?_
        have hz := hy10 _ (inj_inr H21)
        exact ⟨⟨_, inj_inr H21⟩, v22, hz.symm, (wkf_nil _), hH⟩
      · refine awp_skip ?_
        refine awp_seq ?_
        refine awp_region rfl ?_
        refine wpo_mv (a := (.ref p0 0)) rfl rfl rfl (o_mv tk rfl (Wk.refl _)) ?_
        refine wpo_mv (a := (.ref p0 0)) rfl rfl rfl (o_c tk false rfl (fun _ => rfl)) ?_
        refine wpo_mv (a := (.ref p0 0)) rfl rfl rfl (o_c tk false rfl (fun _ => rfl)) ?_
        refine wpo_rd (a := ((eL 1 (@eU .u8 8)) c3.b)) rfl rfl rfl (h_ld tk hH 0 rfl rfl rfl) ?_
        refine wpo_mv (a := (eI c2)) rfl rfl rfl (o_mv tk rfl (Wk.refl _)) ?_
        refine wpo_bd H20 (fun y => .fptr ((@eU .u8 8) y).cells 0) rfl rfl rfl (fun v24 hv => o_ixa tk hv td22 (enc_u td5 sz5) rfl rfl) fun v24 hv24 H23 => ?_
        refine wpo_mv (a := ((@eU .u8 8) v24)) rfl rfl rfl (o_ld_e tk (enc_u td5 sz5) rfl rfl) ?_
        refine wpo_mv (a := ((@eU .u8 8) v24)) rfl rfl rfl (o_as tk rfl (Wk.refl _)) ?_
        refine wpo_nil ?_
        refine awp_seq ?_
        refine awp_region rfl ?_
        refine wpo_mv (a := (eI c2)) rfl rfl rfl (o_mv tk rfl (Wk.refl _)) ?_
        refine wpo_lt H23 eI rfl rfl rfl (o_ar tk rfl rfl rfl) fun v26 H25 => ?_
        refine wpo_mv (a := (eI v26)) rfl rfl rfl (o_as tk rfl (Wk.refl _)) ?_
        refine wpo_nil ?_
        refine awp_block ?_
        refine awp_seq ?_
        obtain ⟨s27, hs29, hj30⟩ := Option.bind_eq_some_iff.1 H25
        refine awp_cutn (fun fr τ => WkF fr (fm [(0, (.ref p0 0)), (1, (eI x1)), (5, (eI c1)), (6, (eI v26)), (7, ((@eU .u8 8) v24)), (50, (eB s27))]) ∧ Holds σ [(p0, (c_octets_Reader c3))] [] τ) ?_ ?_
        · rintro fr τ ⟨hfr, hH⟩
          have H41 := hj30
          refine AWP.fm [(0, (.ref p0 0)), (1, (eI x1)), (5, (eI c1)), (6, (eI v26)), (7, ((@eU .u8 8) v24)), (50, (eB s27))] hfr ?_
          refine awp_if H41 rfl (fun H42 => ?_) (fun H42 => ?_)
          · refine awp_region rfl ?_
            refine wpo_mv (a := (.ref p0 0)) rfl rfl rfl (o_mv tk rfl (Wk.refl _)) ?_
            refine wpo_cb H42 (fun x _ => .tup []) rfl rfl rfl (fun v44 hv => h_call1 hH [(0, (p0, (c_octets_Reader v44)))] ⟨⟨_, rfl⟩, trivial⟩ rfl rfl (.cons (.of_eq rfl) (.cons (.of_eq rfl) .nil)) (octets_Reader_Fail_ok hv _ (hH.at_ 0 rfl))) fun v44 _ τ hv44 H43 hH => ?_
            refine wpo_nil ?_
            exact ⟨(c1, v26, v44), inj_inl H43, (wkf_cons (.of_eq rfl) (wkf_cons (.of_eq rfl) (wkf_cons (.of_eq rfl) (wkf_cons (.of_eq rfl) (wkf_nil _))))), hH⟩
          · refine awp_seq ?_
            refine awp_region rfl ?_
            refine wpo_mv (a := (eI c1)) rfl rfl rfl (o_mv tk rfl (Wk.refl _)) ?_
            refine wpo_mv (a := (eI x1)) rfl rfl rfl (o_mv tk rfl (Wk.refl _)) ?_
            refine wpo_lt H42 eI rfl rfl rfl (o_shr tk (y := (7 : Int)) rfl rfl rfl) fun v46 H45 => ?_
            refine wpo_lt H45 eB rfl rfl rfl (o_ar tk rfl rfl rfl) fun v48 H47 => ?_
            refine wpo_mv (a := (eB v48)) rfl rfl rfl (o_as tk rfl (Wk.refl _)) ?_
            refine wpo_nil ?_
            refine awp_if H47 rfl (fun H49 => ?_) (fun H49 => ?_)
            · refine awp_region rfl ?_
              refine wpo_mv (a := (.ref p0 0)) rfl rfl rfl (o_mv tk rfl (Wk.refl _)) ?_
              refine wpo_cb H49 (fun x _ => .tup []) rfl rfl rfl (fun v51 hv => h_call1 hH [(0, (p0, (c_octets_Reader v51)))] ⟨⟨_, rfl⟩, trivial⟩ rfl rfl (.cons (.of_eq rfl) (.cons (.of_eq rfl) .nil)) (octets_Reader_Fail_ok hv _ (hH.at_ 0 rfl))) fun v51 _ τ hv51 H50 hH => ?_
              refine wpo_nil ?_
              exact ⟨(c1, v26, v51), inj_inl H50, (wkf_cons (.of_eq rfl) (wkf_cons (.of_eq rfl) (wkf_cons (.of_eq rfl) (wkf_cons (.of_eq rfl) (wkf_nil _))))), hH⟩
            · refine awp_seq ?_
              refine awp_region rfl ?_
              refine wpo_mv (a := ((@eU .u8 8) v24)) rfl rfl rfl (o_mv tk rfl (Wk.refl _)) ?_
              refine wpo_lt H49 eB rfl rfl rfl (o_geq_u tk rfl rfl) fun v53 H52 => ?_
              refine wpo_mv (a := (eB v53)) rfl rfl rfl (o_as tk rfl (Wk.refl _)) ?_
              refine wpo_nil ?_
              refine awp_if H52 rfl (fun H54 => ?_) (fun H54 => ?_)
              · refine awp_seq ?_
                refine awp_region rfl ?_
                refine wpo_mv (a := (eI c1)) rfl rfl rfl (o_mv tk rfl (Wk.refl _)) ?_
                refine wpo_lt H54 eI rfl rfl rfl (o_shl tk (y := (7 : Int)) rfl rfl rfl) fun v56 H55 => ?_
                refine wpo_mv (a := ((@eU .u8 8) v24)) rfl rfl rfl (o_mv tk rfl (Wk.refl _)) ?_
                refine wpo_lt H55 (@eU .u8 8) rfl rfl rfl (o_and_u tk rfl rfl rfl) fun v58 H57 => ?_
                refine wpo_lt H57 eI rfl rfl rfl (o_cv_ui tk td5 td3 (by decide) rfl) fun v60 H59 => ?_
                refine wpo_lt H59 eI rfl rfl rfl (o_ar tk rfl rfl rfl) fun v62 H61 => ?_
                refine wpo_mv (a := (eI v62)) rfl rfl rfl (o_as tk rfl (Wk.refl _)) ?_
                refine wpo_nil ?_
                refine awp_exit ?_
                exact ⟨(v62, v26, c3), inj_inl H61, (wkf_cons (.of_eq rfl) (wkf_cons (.of_eq rfl) (wkf_cons (.of_eq rfl) (wkf_cons (.of_eq rfl) (wkf_nil _))))), hH⟩
              · refine awp_seq ?_
                refine awp_seq ?_
                refine awp_region rfl ?_
                refine wpo_mv (a := (eI c1)) rfl rfl rfl (o_mv tk rfl (Wk.refl _)) ?_
                refine wpo_lt H54 eI rfl rfl rfl (o_shl tk (y := (7 : Int)) rfl rfl rfl) fun v64 H63 => ?_
                refine wpo_mv (a := ((@eU .u8 8) v24)) rfl rfl rfl (o_mv tk rfl (Wk.refl _)) ?_
                refine wpo_lt H63 eI rfl rfl rfl (o_cv_ui tk td5 td3 (by decide) rfl) fun v66 H65 => ?_
                refine wpo_lt H65 eI rfl rfl rfl (o_ar tk rfl rfl rfl) fun v68 H67 => ?_
                refine wpo_mv (a := (eI v68)) rfl rfl rfl (o_as tk rfl (Wk.refl _)) ?_
                refine wpo_nil ?_
                refine awp_seq ?_
                refine awp_region rfl ?_
                refine wpo_mv (a := (eI v68)) rfl rfl rfl (o_mv tk rfl (Wk.refl _)) ?_
                refine wpo_mv (a := (eI x1)) rfl rfl rfl (o_mv tk rfl (Wk.refl _)) ?_
                refine wpo_lt H67 eB rfl rfl rfl (o_ar tk rfl rfl rfl) fun v70 H69 => ?_
                refine wpo_nil ?_
                refine awp_if H69 rfl (fun H71 => ?_) (fun H71 => ?_)
                · refine awp_seq ?_
                  refine awp_region rfl ?_
                  refine wpo_mv (a := (.ref p0 0)) rfl rfl rfl (o_mv tk rfl (Wk.refl _)) ?_
                  refine wpo_cb H71 (fun x _ => .tup []) rfl rfl rfl (fun v73 hv => h_call1 hH [(0, (p0, (c_octets_Reader v73)))] ⟨⟨_, rfl⟩, trivial⟩ rfl rfl (.cons (.of_eq rfl) (.cons (.of_eq rfl) .nil)) (octets_Reader_Fail_ok hv _ (hH.at_ 0 rfl))) fun v73 _ τ hv73 H72 hH => ?_
                  refine wpo_nil ?_
                  refine awp_exit ?_
                  exact ⟨(v68, v26, v73), inj_inl H72, (wkf_cons (.of_eq rfl) (wkf_cons (.of_eq rfl) (wkf_cons (.of_eq rfl) (wkf_cons (.of_eq rfl) (wkf_nil _))))), hH⟩
                · refine awp_skip ?_
                  refine awp_seq ?_
                  refine awp_region rfl ?_
                  refine wpo_mv (a := (.ref p0 0)) rfl rfl rfl (o_mv tk rfl (Wk.refl _)) ?_
                  refine wpo_mv (a := (eI v26)) rfl rfl rfl (o_mv tk rfl (Wk.refl _)) ?_
                  refine wpo_mv (a := (.ref p0 0)) rfl rfl rfl (o_c tk false rfl (fun _ => rfl)) ?_
                  refine wpo_mv (a := (.ref p0 1)) rfl rfl rfl (o_c tk false rfl (fun _ => rfl)) ?_
                  obtain ⟨c75, hc76, H74⟩ := lt_ex H71
                  refine wpo_z rfl rfl (h_st tk hH 0 rfl ty3 (by simp) rfl rfl (.of_eq rfl) (b := (eI v26)) rfl rfl (Nat.le_of_ble_eq_true rfl) (c_octets_Reader c75) (by rw [← hc76]; rfl)) fun τ hH => ?_
                  refine wpo_nil ?_
                  refine awp_seq ?_
                  refine awp_region rfl ?_
                  refine wpo_mv (a := (eI v68)) rfl rfl rfl (o_mv tk rfl (Wk.refl _)) ?_
                  refine wpo_mv (a := (eI v68)) rfl rfl rfl (o_as tk rfl (Wk.refl _)) ?_
                  refine wpo_nil ?_
                  refine awp_ret ?_
                  have hz := hy10 _ (inj_inr H74)
                  refine ⟨⟨_, inj_inr H74⟩, ?_⟩
                  rw [← hz] at hj6
                  have H77 := (show some _ = some _ from hj6)
                  obtain rfl := Option.some.inj H77
                  exact ⟨_, (eI v68), rfl, (.of_eq rfl), .of_eq ((enc_i64 td3 sz3).cut _ _ _), hH.noT⟩
        · refine awp_region rfl ?_
          refine wpo_mv (a := ((@eU .u8 8) v24)) rfl rfl rfl (o_mv tk rfl (Wk.refl _)) ?_
          refine wpo_lt hs29 eB rfl rfl rfl (o_eql_u tk rfl rfl) fun v32 H31 => ?_
          refine wpo_mv (a := (eB v32)) rfl rfl rfl (o_mv tk rfl (Wk.refl _)) ?_
          refine if_split H31 (fun hb H33 => ?_) (fun hb H33 => ?_)
          · subst hb
            refine wpo_mv (a := (eI c1)) rfl rfl rfl (o_mv tk rfl (Wk.refl _)) ?_
            refine wpo_lt H33 eB rfl rfl rfl (o_ar tk rfl rfl rfl) fun v35 H34 => ?_
            refine wpo_mv (a := (eB v35)) rfl rfl rfl (o_pick_t tk rfl rfl (Wk.refl _)) ?_
            refine wpo_mv (a := (eB v35)) rfl rfl rfl (o_mv tk rfl (Wk.refl _)) ?_
            refine if_split H34 (fun hb H36 => ?_) (fun hb H36 => ?_)
            · subst hb
              refine wpo_mv (a := (eI v26)) rfl rfl rfl (o_mv tk rfl (Wk.refl _)) ?_
              refine wpo_mv (a := (.ref p0 0)) rfl rfl rfl (o_mv tk rfl (Wk.refl _)) ?_
              refine wpo_mv (a := (.ref p0 0)) rfl rfl rfl (o_c tk false rfl (fun _ => rfl)) ?_
              refine wpo_mv (a := (.ref p0 1)) rfl rfl rfl (o_c tk false rfl (fun _ => rfl)) ?_
              refine wpo_rd (a := (eI c3.at_)) rfl rfl rfl (h_ld tk hH 0 rfl rfl rfl) ?_
              refine wpo_lt H36 eI rfl rfl rfl (o_ar tk rfl rfl rfl) fun v38 H37 => ?_
              refine wpo_lt H37 eB rfl rfl rfl (o_ar tk rfl rfl rfl) fun v40 H39 => ?_
              refine wpo_mv (a := (eB v40)) rfl rfl rfl (o_pick_t tk rfl rfl (Wk.refl _)) ?_
              refine wpo_mv (a := (eB v40)) rfl rfl rfl (o_as tk rfl (Wk.refl _)) ?_
              refine wpo_nil ?_
              have e := Option.some.inj H39
              subst e
              exact ⟨(wkf_cons (.of_eq rfl) (wkf_cons (.of_eq rfl) (wkf_cons (.of_eq rfl) (wkf_cons (.of_eq rfl) (wkf_cons (.of_eq rfl) (wkf_cons (.of_eq rfl) (wkf_nil _))))))), hH⟩
            · subst hb
              refine wpo_skip rfl rfl rfl ?_
              refine wpo_skip rfl rfl rfl ?_
              refine wpo_skip rfl rfl rfl ?_
              refine wpo_skip rfl rfl rfl ?_
              refine wpo_skip rfl rfl rfl ?_
              refine wpo_skip rfl rfl rfl ?_
              refine wpo_skip rfl rfl rfl ?_
              refine wpo_mv (a := (eB false)) rfl rfl rfl (o_pick_f tk rfl rfl (Wk.refl _)) ?_
              refine wpo_mv (a := (eB false)) rfl rfl rfl (o_as tk rfl (Wk.refl _)) ?_
              refine wpo_nil ?_
              have e := Option.some.inj H36
              subst e
              exact ⟨(wkf_cons (.of_eq rfl) (wkf_cons (.of_eq rfl) (wkf_cons (.of_eq rfl) (wkf_cons (.of_eq rfl) (wkf_cons (.of_eq rfl) (wkf_cons (.of_eq rfl) (wkf_nil _))))))), hH⟩
          · subst hb
            refine wpo_skip rfl rfl rfl ?_
            refine wpo_skip rfl rfl rfl ?_
            refine wpo_mv (a := (eB false)) rfl rfl rfl (o_pick_f tk rfl rfl (Wk.refl _)) ?_
            refine wpo_mv (a := (eB false)) rfl rfl rfl (o_mv tk rfl (Wk.refl _)) ?_
            refine wpo_skip rfl rfl rfl ?_
            refine wpo_skip rfl rfl rfl ?_
            refine wpo_skip rfl rfl rfl ?_
            refine wpo_skip rfl rfl rfl ?_
            refine wpo_skip rfl rfl rfl ?_
            refine wpo_skip rfl rfl rfl ?_
            refine wpo_skip rfl rfl rfl ?_
            refine wpo_mv (a := (eB false)) rfl rfl rfl (o_pick_f tk rfl rfl (Wk.refl _)) ?_
            refine wpo_mv (a := (eB false)) rfl rfl rfl (o_as tk rfl (Wk.refl _)) ?_
            refine wpo_nil ?_
            have e := Option.some.inj H33
            subst e
            exact ⟨(wkf_cons (.of_eq rfl) (wkf_cons (.of_eq rfl) (wkf_cons (.of_eq rfl) (wkf_cons (.of_eq rfl) (wkf_cons (.of_eq rfl) (wkf_cons (.of_eq rfl) (wkf_nil _))))))), hH⟩
    · refine awp_exit ?_
      have hz := hy10 _ (inj_inr H15)
      exact ⟨⟨_, inj_inr H15⟩, c3, hz.symm, (wkf_nil _), hH⟩
end Go.Proofs.YtkmlinaofbcbaaaDoor
namespace Go.Proofs.YtkmlinaofbcbaaaDoor
open Go Go.Va
set_option linter.unusedVariables false
set_option linter.unusedSimpArgs false
set_option maxRecDepth 20000
theorem octets_Reader_Code_ok {x0 : octets_Reader} {r : Int} (H : octets_Reader_Code x0 = some r) (σ : St) {p0 : Nat} (h0 : σ.objs[p0]? = some (c_octets_Reader x0)) : ACall Tryd.prog 82 [(.ref p0 0)] σ (fun a τ => a = eI r ∧ τ = σ) := by
  unfold octets_Reader_Code at H
  refine ACall.pure (acall_start tk Tryd.func82 (by decide) rfl (Nat.le_of_ble_eq_true rfl) ?_)
  have hH := Holds.init σ
  have hH := hH.bring h0 (fun _ h => by cases h)
  refine awp_seq ?_
  refine awp_region rfl ?_
  refine wpo_mv (a := (eI (0 : Int))) rfl rfl rfl (o_as tk rfl (Wk.refl _)) ?_
  refine wpo_nil ?_
  refine awp_seq ?_
  refine awp_region rfl ?_
  refine wpo_mv (a := (.ref p0 0)) rfl rfl rfl (o_mv tk rfl (Wk.refl _)) ?_
  refine wpo_mv (a := (.ref p0 0)) rfl rfl rfl (o_c tk false rfl (fun _ => rfl)) ?_
  refine wpo_mv (a := (.ref p0 2)) rfl rfl rfl (o_c tk false rfl (fun _ => rfl)) ?_
  refine wpo_rd (a := (eI x0.code)) rfl rfl rfl (h_ld tk hH 0 rfl rfl rfl) ?_
  refine wpo_mv (a := (eI x0.code)) rfl rfl rfl (o_as tk rfl (Wk.refl _)) ?_
  refine wpo_nil ?_
  refine awp_ret ?_
  obtain rfl := Option.some.inj H
  exact ⟨_, (eI x0.code), rfl, (.of_eq rfl), .of_eq ((enc_i64 td33 sz33).cut _ _ _), (hH.noT.unbring h0)⟩
end Go.Proofs.YtkmlinaofbcbaaaDoor
namespace Go.Proofs.YtkmlinaofbcbaaaDoor
open Go Go.Va
set_option linter.unusedVariables false
set_option linter.unusedSimpArgs false
set_option maxRecDepth 20000
theorem octets_Reader_Left_ok {x0 : octets_Reader} {r : Int} (H : octets_Reader_Left x0 = some r) (σ : St) {p0 : Nat} (h0 : σ.objs[p0]? = some (c_octets_Reader x0)) : ACall Tryd.prog 94 [(.ref p0 0)] σ (fun a τ => a = eI r ∧ τ = σ) := by
  unfold octets_Reader_Left at H
  refine ACall.pure (acall_start tk Tryd.func94 (by decide) rfl (Nat.le_of_ble_eq_true rfl) ?_)
  have hH := Holds.init σ
  have hH := hH.bring h0 (fun _ h => by cases h)
  refine awp_seq ?_
  refine awp_region rfl ?_
  refine wpo_mv (a := (eI (0 : Int))) rfl rfl rfl (o_as tk rfl (Wk.refl _)) ?_
  refine wpo_nil ?_
  refine awp_seq ?_
  refine awp_drawS mixed [] rfl (by decide +kernel) rfl rfl ?_
  refine wpdS_mv (a := (.ref p0 0)) rfl rfl rfl (o_mv tk rfl (Wk.refl _)) ?_
  refine wpdS_mv (a := (.ref p0 0)) rfl rfl rfl (o_c tk false rfl (fun _ => rfl)) ?_
  refine wpdS_mv (a := (.ref p0 0)) rfl rfl rfl (o_c tk false rfl (fun _ => rfl)) ?_
  refine wpdS_rd (a := ((eL 1 (@eU .u8 8)) x0.b)) rfl (by decide +kernel) rfl rfl (h_ld tk hH 0 rfl rfl rfl) ?_
  refine wpdS_lt H eI rfl rfl rfl (o_len tk td22 rfl) fun v2 H1 => ?_
  refine wpdS_mv (a := (.ref p0 0)) rfl rfl rfl (o_mv tk rfl (Wk.refl _)) ?_
  refine wpdS_mv (a := (.ref p0 0)) rfl rfl rfl (o_c tk false rfl (fun _ => rfl)) ?_
  refine wpdS_mv (a := (.ref p0 1)) rfl rfl rfl (o_c tk false rfl (fun _ => rfl)) ?_
  refine wpdS_rd (a := (eI x0.at_)) rfl (by decide +kernel) rfl rfl (h_ld tk hH 0 rfl rfl rfl) ?_
  refine wpdS_lt H1 eI rfl rfl rfl (o_ar tk rfl rfl rfl) fun v4 H3 => ?_
  refine wpdS_mv (a := (eI v4)) rfl rfl rfl (o_as tk rfl (Wk.refl _)) ?_
  refine wpdS_nil ?_
  refine awp_ret ?_
  obtain rfl := Option.some.inj H3
  exact ⟨_, (eI v4), rfl, (.of_eq rfl), .of_eq ((enc_i64 td3 sz3).cut _ _ _), (hH.noT.unbring h0)⟩
end Go.Proofs.YtkmlinaofbcbaaaDoor
namespace Go.Proofs.YtkmlinaofbcbaaaDoor
open Go Go.Va
set_option linter.unusedVariables false
set_option linter.unusedSimpArgs false
set_option maxRecDepth 20000
theorem octets_Reader_Bytes_ok {x0 : octets_Reader} {x1 : Int} {r : (List (BitVec 8)) × octets_Reader} (H : octets_Reader_Bytes x0 x1 = some r) (σ : St) {p0 : Nat} (h0 : σ.objs[p0]? = some (c_octets_Reader x0)) : ACall Tryd.prog 83 [(.ref p0 0), (eI x1)] σ (fun a τ => a = (eL 1 (@eU .u8 8)) r.1 ∧ τ = σ.puts [(p0, (c_octets_Reader r.2))]) := by
  unfold octets_Reader_Bytes at H
  refine ACall.out [(p0, (c_octets_Reader r.2))] (by simp only [List.mem_cons, List.not_mem_nil, or_false]; rintro _ (rfl) ρ κ <;> exact c_octets_Reader_cut ρ κ _) (acall_start tk Tryd.func83 (by decide) rfl (Nat.le_of_ble_eq_true rfl) ?_)
  have hH := Holds.init σ
  have hH := hH.bring h0 (fun _ h => by cases h)
  refine awp_seq ?_
  refine awp_region rfl ?_
  refine wpo_mv (a := AV.nils) rfl rfl rfl (o_as tk rfl (Wk.refl _)) ?_
  refine wpo_nil ?_
  refine awp_seq ?_
  refine awp_region rfl ?_
  refine wpo_mv (a := (.ref p0 0)) rfl rfl rfl (o_mv tk rfl (Wk.refl _)) ?_
  refine wpo_mv (a := (.ref p0 0)) rfl rfl rfl (o_c tk false rfl (fun _ => rfl)) ?_
  refine wpo_mv (a := (.ref p0 1)) rfl rfl rfl (o_c tk false rfl (fun _ => rfl)) ?_
  refine wpo_rd (a := (eI x0.at_)) rfl rfl rfl (h_ld tk hH 0 rfl rfl rfl) ?_
  refine wpo_mv (a := (eI x0.at_)) rfl rfl rfl (o_as tk rfl (Wk.refl _)) ?_
  refine wpo_nil ?_
  refine awp_seq ?_
  refine awp_region rfl ?_
  refine wpo_mv (a := (.ref p0 0)) rfl rfl rfl (o_mv tk rfl (Wk.refl _)) ?_
  refine wpo_mv (a := (eI x1)) rfl rfl rfl (o_mv tk rfl (Wk.refl _)) ?_
  refine wpo_cb H (fun x _ => eI x.1) rfl rfl rfl (fun v2 hv => h_call1 hH [(0, (p0, (c_octets_Reader v2.2)))] ⟨⟨_, rfl⟩, trivial⟩ rfl rfl (.cons (.of_eq rfl) (.cons (.of_eq rfl) .nil)) (octets_Reader_Number_ok hv _ (hH.at_ 0 rfl))) fun v2 _ τ hv2 H1 hH => ?_
  refine wpo_mv (a := (eI v2.1)) rfl rfl rfl (o_as tk rfl (Wk.refl _)) ?_
  refine wpo_nil ?_
  refine awp_seq ?_
  refine awp_seq ?_
  refine awp_region rfl ?_
  refine wpo_mv (a := (.ref p0 0)) rfl rfl rfl (o_mv tk rfl (Wk.refl _)) ?_
  refine wpo_mv (a := (.ref p0 0)) rfl rfl rfl (o_c tk false rfl (fun _ => rfl)) ?_
  refine wpo_mv (a := (.ref p0 2)) rfl rfl rfl (o_c tk false rfl (fun _ => rfl)) ?_
  refine wpo_rd (a := (eI v2.2.code)) rfl rfl rfl (h_ld tk hH 0 rfl rfl rfl) ?_
  refine wpo_lt H1 eB rfl rfl rfl (o_ar tk rfl rfl rfl) fun v4 H3 => ?_
  refine wpo_nil ?_
  refine awp_if H3 rfl (fun H5 => ?_) (fun H5 => ?_)
  · refine awp_seq ?_
    refine awp_region rfl ?_
    refine wpo_mv (a := AV.nils) rfl rfl rfl (o_as tk rfl (Wk.refl _)) ?_
    refine wpo_nil ?_
    refine awp_ret ?_
    obtain rfl := Option.some.inj H5
    exact ⟨_, ((eL 1 (@eU .u8 8)) []), rfl, (wk_nils _), .of_eq ((enc_l td22 sz22 (enc_u td5 sz5).cut).cut _ _ _), hH.noT⟩
  · refine awp_skip ?_
    refine awp_seq ?_
    refine awp_seq ?_
    refine awp_region rfl ?_
    refine wpo_mv (a := (eI v2.1)) rfl rfl rfl (o_mv tk rfl (Wk.refl _)) ?_
    refine wpo_mv (a := (.ref p0 0)) rfl rfl rfl (o_mv tk rfl (Wk.refl _)) ?_
    refine wpo_bdr H5 eI rfl rfl rfl (fun v7 hv => h_callr rfl rfl (.cons (.of_eq rfl) .nil) (octets_Reader_Left_ok hv _ (hH.at_ 0 rfl))) fun v7 hv7 H6 => ?_
    refine wpo_lt H6 eB rfl rfl rfl (o_ar tk rfl rfl rfl) fun v9 H8 => ?_
    refine wpo_nil ?_
    refine awp_if H8 rfl (fun H10 => ?_) (fun H10 => ?_)
    · refine awp_seq ?_
      refine awp_region rfl ?_
      refine wpo_mv (a := (.ref p0 0)) rfl rfl rfl (o_mv tk rfl (Wk.refl _)) ?_
      refine wpo_mv (a := (eI x0.at_)) rfl rfl rfl (o_mv tk rfl (Wk.refl _)) ?_
      refine wpo_mv (a := (.ref p0 0)) rfl rfl rfl (o_c tk false rfl (fun _ => rfl)) ?_
      refine wpo_mv (a := (.ref p0 1)) rfl rfl rfl (o_c tk false rfl (fun _ => rfl)) ?_
      obtain ⟨c12, hc13, H11⟩ := lt_ex H10
      refine wpo_z rfl rfl (h_st tk hH 0 rfl ty3 (by simp) rfl rfl (.of_eq rfl) (b := (eI x0.at_)) rfl rfl (Nat.le_of_ble_eq_true rfl) (c_octets_Reader c12) (by rw [← hc13]; rfl)) fun τ hH => ?_
      refine wpo_nil ?_
      refine awp_seq ?_
      refine awp_region rfl ?_
      refine wpo_mv (a := (.ref p0 0)) rfl rfl rfl (o_mv tk rfl (Wk.refl _)) ?_
      refine wpo_cb H11 (fun x _ => .tup []) rfl rfl rfl (fun v15 hv => h_call1 hH [(0, (p0, (c_octets_Reader v15)))] ⟨⟨_, rfl⟩, trivial⟩ rfl rfl (.cons (.of_eq rfl) (.cons (.of_eq rfl) .nil)) (octets_Reader_Fail_ok hv _ (hH.at_ 0 rfl))) fun v15 _ τ hv15 H14 hH => ?_
      refine wpo_nil ?_
      refine awp_seq ?_
      refine awp_region rfl ?_
      refine wpo_mv (a := AV.nils) rfl rfl rfl (o_as tk rfl (Wk.refl _)) ?_
      refine wpo_nil ?_
      refine awp_ret ?_
      obtain rfl := Option.some.inj H14
      exact ⟨_, ((eL 1 (@eU .u8 8)) []), rfl, (wk_nils _), .of_eq ((enc_l td22 sz22 (enc_u td5 sz5).cut).cut _ _ _), hH.noT⟩
    · refine awp_skip ?_
      refine awp_seq ?_
      refine awp_drawS mixed [16] rfl (by decide +kernel) rfl rfl ?_
      refine wpdS_mv (a := (eF 1 (@eU .u8 8) ([] : List (BitVec 8)))) rfl rfl rfl (o_c tk false rfl (fun _ => rfl)) ?_
      refine wpdS_mv (a := (.ref p0 0)) rfl rfl rfl (o_mv tk rfl (Wk.refl _)) ?_
      refine wpdS_mv (a := (.ref p0 0)) rfl rfl rfl (o_c tk false rfl (fun _ => rfl)) ?_
      refine wpdS_mv (a := (.ref p0 0)) rfl rfl rfl (o_c tk false rfl (fun _ => rfl)) ?_
      refine wpdS_rd (a := ((eL 1 (@eU .u8 8)) v2.2.b)) rfl (by decide +kernel) rfl rfl (h_ld tk hH 0 rfl rfl rfl) ?_
      refine wpdS_mv (a := (.ref p0 0)) rfl rfl rfl (o_mv tk rfl (Wk.refl _)) ?_
      refine wpdS_mv (a := (.ref p0 0)) rfl rfl rfl (o_c tk false rfl (fun _ => rfl)) ?_
      refine wpdS_mv (a := (.ref p0 1)) rfl rfl rfl (o_c tk false rfl (fun _ => rfl)) ?_
      refine wpdS_rd (a := (eI v2.2.at_)) rfl (by decide +kernel) rfl rfl (h_ld tk hH 0 rfl rfl rfl) ?_
      refine wpdS_mv (a := (.ref p0 0)) rfl rfl rfl (o_mv tk rfl (Wk.refl _)) ?_
      refine wpdS_mv (a := (.ref p0 0)) rfl rfl rfl (o_c tk false rfl (fun _ => rfl)) ?_
      refine wpdS_mv (a := (.ref p0 1)) rfl rfl rfl (o_c tk false rfl (fun _ => rfl)) ?_
      refine wpdS_rd (a := (eI v2.2.at_)) rfl (by decide +kernel) rfl rfl (h_ld tk hH 0 rfl rfl rfl) ?_
      refine wpdS_mv (a := (eI v2.1)) rfl rfl rfl (o_mv tk rfl (Wk.refl _)) ?_
      refine wpdS_lt H10 eI rfl rfl rfl (o_ar tk rfl rfl rfl) fun v17 H16 => ?_
      refine wpdS_bd H16 (eL 1 (@eU .u8 8)) rfl rfl rfl (fun v19 hv => o_cut tk hv td22 (enc_u td5 sz5) rfl rfl rfl) fun v19 hv19 H18 => ?_
      obtain ⟨v21, hv22, H20⟩ := Option.bind_eq_some_iff.1 H18
      refine wpdS_a (av := fun t => eT t 1 (@eU .u8 8) v21) rfl rfl rfl (h_app0 tk hH hv22 td22 ty5 rfl (by decide) (.inr rfl) (src_l td22 rfl)) fun tk23 τ hH => ?_
      refine wpdS_mv (a := (eT tk23 1 (@eU .u8 8) v21)) rfl rfl rfl (o_as tk rfl (Wk.refl _)) ?_
      refine wpdS_nil ?_
      refine awp_seq ?_
      refine awp_region rfl ?_
      refine wpo_mv (a := (.ref p0 0)) rfl rfl rfl (o_mv tk rfl (Wk.refl _)) ?_
      refine wpo_mv (a := (.ref p0 0)) rfl rfl rfl (o_c tk false rfl (fun _ => rfl)) ?_
      refine wpo_mv (a := (.ref p0 1)) rfl rfl rfl (o_c tk false rfl (fun _ => rfl)) ?_
      refine wpo_rd (a := (eI v2.2.at_)) rfl rfl rfl (h_ld tk hH 0 rfl rfl rfl) ?_
      refine wpo_mv (a := (eI v2.1)) rfl rfl rfl (o_mv tk rfl (Wk.refl _)) ?_
      refine wpo_lt H20 eI rfl rfl rfl (o_ar tk rfl rfl rfl) fun v25 H24 => ?_
      refine wpo_mv (a := (.ref p0 0)) rfl rfl rfl (o_c tk false rfl (fun _ => rfl)) ?_
      refine wpo_mv (a := (.ref p0 1)) rfl rfl rfl (o_c tk false rfl (fun _ => rfl)) ?_
      obtain ⟨c27, hc28, H26⟩ := lt_ex H24
      refine wpo_z rfl rfl (h_st tk hH 0 rfl ty3 (by simp) rfl rfl (.of_eq rfl) (b := (eI v25)) rfl rfl (Nat.le_of_ble_eq_true rfl) (c_octets_Reader c27) (by rw [← hc28]; rfl)) fun τ hH => ?_
      refine wpo_nil ?_
      refine awp_seq ?_
      refine awp_region rfl ?_
      refine wpo_mv (a := (eT tk23 1 (@eU .u8 8) v21)) rfl rfl rfl (o_mv tk rfl (Wk.refl _)) ?_
      refine wpo_mv (a := (eT tk23 1 (@eU .u8 8) v21)) rfl rfl rfl (o_as tk rfl (Wk.refl _)) ?_
      refine wpo_nil ?_
      refine awp_ret ?_
      obtain rfl := Option.some.inj H26
      exact ⟨_, ((eL 1 (@eU .u8 8)) v21), rfl, wk_no, .of_eq ((enc_l td22 sz22 (enc_u td5 sz5).cut).cut _ _ _), hH.noT⟩
end Go.Proofs.YtkmlinaofbcbaaaDoor
namespace Go.Proofs.YtkmlinaofbcbaaaDoor
open Go Go.Va
set_option linter.unusedVariables false
set_option linter.unusedSimpArgs false
set_option maxRecDepth 20000
theorem item_From_ok {x0 : octets_Reader} {r : api_Entry × octets_Reader} (H : item_From x0 = some r) (σ : St) {p0 : Nat} (h0 : σ.objs[p0]? = some (c_octets_Reader x0)) (hg : σ.gl = gls) : ACall Tryd.prog 126 [(.ref p0 0)] σ (fun a τ => a = e_api_Entry r.1 ∧ τ = σ.puts [(p0, (c_octets_Reader r.2))]) := by
  unfold item_From at H
  refine ACall.out [(p0, (c_octets_Reader r.2))] (by simp only [List.mem_cons, List.not_mem_nil, or_false]; rintro _ (rfl) ρ κ <;> exact c_octets_Reader_cut ρ κ _) (acall_start tk Tryd.func126 (by decide) rfl (Nat.le_of_ble_eq_true rfl) ?_)
  have hH := Holds.init σ
  have hH := hH.bring h0 (fun _ h => by cases h)
  refine awp_seq ?_
  refine awp_region rfl ?_
  refine wpo_a (av := fun id => .ref id 0) rfl rfl rfl (h_alloc tk hH ty24 [(eS z_api_Entry.Key), (eI z_api_Entry.Version), (eI z_api_Entry.AsOf), (eI z_api_Entry.Ends), AV.nils] rfl) fun id1 τ ⟨hH, n2⟩ => ?_
  refine wpo_nil ?_
  refine awp_seq ?_
  refine awp_region rfl ?_
  refine wpo_mv (a := (.ref p0 0)) rfl rfl rfl (o_mv tk rfl (Wk.refl _)) ?_
  refine wpo_cb H (fun x _ => (eL 1 (@eU .u8 8)) x.1) rfl rfl rfl (fun v4 hv => h_call1 hH [(1, (p0, (c_octets_Reader v4.2)))] ⟨⟨_, rfl⟩, trivial⟩ rfl rfl (.cons (.of_eq rfl) (.cons (.of_eq rfl) .nil)) (octets_Reader_Bytes_ok hv _ (hH.at_ 1 rfl))) fun v4 _ τ hv4 H3 hH => ?_
  refine wpo_mv (a := (eS v4.1)) rfl rfl rfl (o_b2s tk td22 td9 td5 rfl) ?_
  refine wpo_mv (a := (.agg [(eS (⟨v4.1, (0 : Int), (0 : Int), (0 : Int), ([] : List (BitVec 8))⟩ : api_Entry).Key), (eI (⟨v4.1, (0 : Int), (0 : Int), (0 : Int), ([] : List (BitVec 8))⟩ : api_Entry).Version), (eI (⟨v4.1, (0 : Int), (0 : Int), (0 : Int), ([] : List (BitVec 8))⟩ : api_Entry).AsOf), (eI (⟨v4.1, (0 : Int), (0 : Int), (0 : Int), ([] : List (BitVec 8))⟩ : api_Entry).Ends), AV.nils])) rfl rfl rfl (o_c tk false rfl (fun _ => rfl)) ?_
  refine wpo_a (av := fun id => .ref id 0) rfl rfl rfl (h_alloc tk hH ty24 [(eS z_api_Entry.Key), (eI z_api_Entry.Version), (eI z_api_Entry.AsOf), (eI z_api_Entry.Ends), AV.nils] rfl) fun id5 τ ⟨hH, n6⟩ => ?_
  refine wpo_z rfl rfl (h_st tk hH 0 rfl ty24 (by simp) rfl rfl (.of_eq rfl) (b := (.agg [(eS (⟨v4.1, (0 : Int), (0 : Int), (0 : Int), ([] : List (BitVec 8))⟩ : api_Entry).Key), (eI (⟨v4.1, (0 : Int), (0 : Int), (0 : Int), ([] : List (BitVec 8))⟩ : api_Entry).Version), (eI (⟨v4.1, (0 : Int), (0 : Int), (0 : Int), ([] : List (BitVec 8))⟩ : api_Entry).AsOf), (eI (⟨v4.1, (0 : Int), (0 : Int), (0 : Int), ([] : List (BitVec 8))⟩ : api_Entry).Ends), AV.nils])) rfl rfl (Nat.le_of_ble_eq_true rfl) [(eS ((⟨v4.1, (0 : Int), (0 : Int), (0 : Int), ([] : List (BitVec 8))⟩ : api_Entry) : api_Entry).Key), (eI ((⟨v4.1, (0 : Int), (0 : Int), (0 : Int), ([] : List (BitVec 8))⟩ : api_Entry) : api_Entry).Version), (eI ((⟨v4.1, (0 : Int), (0 : Int), (0 : Int), ([] : List (BitVec 8))⟩ : api_Entry) : api_Entry).AsOf), (eI ((⟨v4.1, (0 : Int), (0 : Int), (0 : Int), ([] : List (BitVec 8))⟩ : api_Entry) : api_Entry).Ends), AV.nils] rfl) fun τ hH => ?_
  refine wpo_nil ?_
  refine awp_seq ?_
  refine awp_region rfl ?_
  refine wpo_mv (a := (.ref p0 0)) rfl rfl rfl (o_mv tk rfl (Wk.refl _)) ?_
  refine wpo_cb H3 (fun x _ => eI x.1) rfl rfl rfl (fun v9 hv => h_call1 hH [(2, (p0, (c_octets_Reader v9.2)))] ⟨⟨_, rfl⟩, trivial⟩ rfl rfl (.cons (.of_eq rfl) (.cons (.of_eq rfl) .nil)) (octets_Reader_Number_ok hv _ (hH.at_ 2 rfl))) fun v9 _ τ hv9 H8 hH => ?_
  refine wpo_mv (a := (.ref id5 1)) rfl rfl rfl (o_c tk false rfl (fun _ => rfl)) ?_
  refine wpo_z rfl rfl (h_st tk hH 0 rfl ty3 (by simp) rfl rfl (.of_eq rfl) (b := (eI v9.1)) rfl rfl (Nat.le_of_ble_eq_true rfl) [(eS ({ ((⟨v4.1, (0 : Int), (0 : Int), (0 : Int), ([] : List (BitVec 8))⟩ : api_Entry) : api_Entry) with Version := v9.1 } : api_Entry).Key), (eI ({ ((⟨v4.1, (0 : Int), (0 : Int), (0 : Int), ([] : List (BitVec 8))⟩ : api_Entry) : api_Entry) with Version := v9.1 } : api_Entry).Version), (eI ({ ((⟨v4.1, (0 : Int), (0 : Int), (0 : Int), ([] : List (BitVec 8))⟩ : api_Entry) : api_Entry) with Version := v9.1 } : api_Entry).AsOf), (eI ({ ((⟨v4.1, (0 : Int), (0 : Int), (0 : Int), ([] : List (BitVec 8))⟩ : api_Entry) : api_Entry) with Version := v9.1 } : api_Entry).Ends), AV.nils] rfl) fun τ hH => ?_
  refine wpo_nil ?_
  refine awp_seq ?_
  refine awp_region rfl ?_
  refine wpo_mv (a := (.ref p0 0)) rfl rfl rfl (o_mv tk rfl (Wk.refl _)) ?_
  refine wpo_cb H8 (fun x _ => eI x.1) rfl rfl rfl (fun v12 hv => h_call1 hH [(2, (p0, (c_octets_Reader v12.2)))] ⟨⟨_, rfl⟩, trivial⟩ rfl rfl (.cons (.of_eq rfl) (.cons (.of_eq rfl) .nil)) (octets_Reader_Number_ok hv _ (hH.at_ 2 rfl))) fun v12 _ τ hv12 H11 hH => ?_
  refine wpo_mv (a := (.ref id5 2)) rfl rfl rfl (o_c tk false rfl (fun _ => rfl)) ?_
  refine wpo_z rfl rfl (h_st tk hH 0 rfl ty3 (by simp) rfl rfl (.of_eq rfl) (b := (eI v12.1)) rfl rfl (Nat.le_of_ble_eq_true rfl) [(eS ({ ({ ((⟨v4.1, (0 : Int), (0 : Int), (0 : Int), ([] : List (BitVec 8))⟩ : api_Entry) : api_Entry) with Version := v9.1 } : api_Entry) with AsOf := v12.1 } : api_Entry).Key), (eI ({ ({ ((⟨v4.1, (0 : Int), (0 : Int), (0 : Int), ([] : List (BitVec 8))⟩ : api_Entry) : api_Entry) with Version := v9.1 } : api_Entry) with AsOf := v12.1 } : api_Entry).Version), (eI ({ ({ ((⟨v4.1, (0 : Int), (0 : Int), (0 : Int), ([] : List (BitVec 8))⟩ : api_Entry) : api_Entry) with Version := v9.1 } : api_Entry) with AsOf := v12.1 } : api_Entry).AsOf), (eI ({ ({ ((⟨v4.1, (0 : Int), (0 : Int), (0 : Int), ([] : List (BitVec 8))⟩ : api_Entry) : api_Entry) with Version := v9.1 } : api_Entry) with AsOf := v12.1 } : api_Entry).Ends), AV.nils] rfl) fun τ hH => ?_
  refine wpo_nil ?_
  refine awp_seq ?_
  refine awp_region rfl ?_
  refine wpo_mv (a := (.ref p0 0)) rfl rfl rfl (o_mv tk rfl (Wk.refl _)) ?_
  refine wpo_cb H11 (fun x _ => eI x.1) rfl rfl rfl (fun v15 hv => h_call1 hH [(2, (p0, (c_octets_Reader v15.2)))] ⟨⟨_, rfl⟩, trivial⟩ rfl rfl (.cons (.of_eq rfl) (.cons (.of_eq rfl) .nil)) (octets_Reader_Number_ok hv _ (hH.at_ 2 rfl))) fun v15 _ τ hv15 H14 hH => ?_
  refine wpo_mv (a := (.ref id5 3)) rfl rfl rfl (o_c tk false rfl (fun _ => rfl)) ?_
  refine wpo_z rfl rfl (h_st tk hH 0 rfl ty3 (by simp) rfl rfl (.of_eq rfl) (b := (eI v15.1)) rfl rfl (Nat.le_of_ble_eq_true rfl) [(eS ({ ({ ({ ((⟨v4.1, (0 : Int), (0 : Int), (0 : Int), ([] : List (BitVec 8))⟩ : api_Entry) : api_Entry) with Version := v9.1 } : api_Entry) with AsOf := v12.1 } : api_Entry) with Ends := v15.1 } : api_Entry).Key), (eI ({ ({ ({ ((⟨v4.1, (0 : Int), (0 : Int), (0 : Int), ([] : List (BitVec 8))⟩ : api_Entry) : api_Entry) with Version := v9.1 } : api_Entry) with AsOf := v12.1 } : api_Entry) with Ends := v15.1 } : api_Entry).Version), (eI ({ ({ ({ ((⟨v4.1, (0 : Int), (0 : Int), (0 : Int), ([] : List (BitVec 8))⟩ : api_Entry) : api_Entry) with Version := v9.1 } : api_Entry) with AsOf := v12.1 } : api_Entry) with Ends := v15.1 } : api_Entry).AsOf), (eI ({ ({ ({ ((⟨v4.1, (0 : Int), (0 : Int), (0 : Int), ([] : List (BitVec 8))⟩ : api_Entry) : api_Entry) with Version := v9.1 } : api_Entry) with AsOf := v12.1 } : api_Entry) with Ends := v15.1 } : api_Entry).Ends), AV.nils] rfl) fun τ hH => ?_
  refine wpo_nil ?_
  refine awp_seq ?_
  refine awp_region rfl ?_
  refine wpo_mv (a := (.ref p0 0)) rfl rfl rfl (o_mv tk rfl (Wk.refl _)) ?_
  refine wpo_cb H14 (fun x _ => (eL 1 (@eU .u8 8)) x.1) rfl rfl rfl (fun v18 hv => h_call1 hH [(2, (p0, (c_octets_Reader v18.2)))] ⟨⟨_, rfl⟩, trivial⟩ rfl rfl (.cons (.of_eq rfl) (.cons (.of_eq rfl) .nil)) (octets_Reader_Bytes_ok hv _ (hH.at_ 2 rfl))) fun v18 _ τ hv18 H17 hH => ?_
  refine wpo_mv (a := (.ref id5 4)) rfl rfl rfl (o_c tk false rfl (fun _ => rfl)) ?_
  refine wpo_z rfl rfl (h_st tk hH 0 rfl ty22 (by simp) rfl rfl (.of_eq rfl) (b := ((eL 1 (@eU .u8 8)) v18.1)) rfl rfl (Nat.le_of_ble_eq_true rfl) (c_api_Entry ({ ({ ({ ({ ((⟨v4.1, (0 : Int), (0 : Int), (0 : Int), ([] : List (BitVec 8))⟩ : api_Entry) : api_Entry) with Version := v9.1 } : api_Entry) with AsOf := v12.1 } : api_Entry) with Ends := v15.1 } : api_Entry) with Value := v18.1 } : api_Entry)) rfl) fun τ hH => ?_
  refine wpo_nil ?_
  refine awp_seq ?_
  refine awp_seq ?_
  refine awp_region rfl ?_
  refine wpo_mv (a := (.ref p0 0)) rfl rfl rfl (o_mv tk rfl (Wk.refl _)) ?_
  refine wpo_bdr H17 eI rfl rfl rfl (fun v21 hv => h_callr rfl rfl (.cons (.of_eq rfl) .nil) (octets_Reader_Code_ok hv _ (hH.at_ 2 rfl))) fun v21 hv21 H20 => ?_
  refine wpo_lt H20 eB rfl rfl rfl (o_ar tk rfl rfl rfl) fun v23 H22 => ?_
  refine wpo_nil ?_
  obtain ⟨s24, hs26, hj27⟩ := Option.bind_eq_some_iff.1 H22
  refine awp_cutn (fun fr τ => WkF fr (fm [(0, (.ref p0 0)), (2, (.ref id1 0)), (3, (.ref id5 0))]) ∧ Holds σ [(id5, (c_api_Entry ({ ({ ({ ({ ((⟨v4.1, (0 : Int), (0 : Int), (0 : Int), ([] : List (BitVec 8))⟩ : api_Entry) : api_Entry) with Version := v9.1 } : api_Entry) with AsOf := v12.1 } : api_Entry) with Ends := v15.1 } : api_Entry) with Value := v18.1 } : api_Entry))), (id1, [(eS z_api_Entry.Key), (eI z_api_Entry.Version), (eI z_api_Entry.AsOf), (eI z_api_Entry.Ends), AV.nils]), (p0, (c_octets_Reader s24))] [] τ) ?_ ?_
  · rintro fr τ ⟨hfr, hH⟩
    have H38 := hj27
    refine AWP.fm [(0, (.ref p0 0)), (2, (.ref id1 0)), (3, (.ref id5 0))] hfr ?_
    refine awp_seq ?_
    refine awp_seq ?_
    refine awp_region rfl ?_
    refine wpo_mv (a := (.ref p0 0)) rfl rfl rfl (o_mv tk rfl (Wk.refl _)) ?_
    refine wpo_bdr H38 eI rfl rfl rfl (fun v40 hv => h_callr rfl rfl (.cons (.of_eq rfl) .nil) (octets_Reader_Code_ok hv _ (hH.at_ 2 rfl))) fun v40 hv40 H39 => ?_
    refine wpo_lt H39 eB rfl rfl rfl (o_ar tk rfl rfl rfl) fun v42 H41 => ?_
    refine wpo_nil ?_
    refine awp_if H41 rfl (fun H43 => ?_) (fun H43 => ?_)
    · refine awp_seq ?_
      refine awp_region rfl ?_
      refine wpo_mv (a := (.agg [(eS (⟨([] : List (BitVec 8)), (0 : Int), (0 : Int), (0 : Int), ([] : List (BitVec 8))⟩ : api_Entry).Key), (eI (⟨([] : List (BitVec 8)), (0 : Int), (0 : Int), (0 : Int), ([] : List (BitVec 8))⟩ : api_Entry).Version), (eI (⟨([] : List (BitVec 8)), (0 : Int), (0 : Int), (0 : Int), ([] : List (BitVec 8))⟩ : api_Entry).AsOf), (eI (⟨([] : List (BitVec 8)), (0 : Int), (0 : Int), (0 : Int), ([] : List (BitVec 8))⟩ : api_Entry).Ends), AV.nils])) rfl rfl rfl (o_c tk false rfl (fun _ => rfl)) ?_
      refine wpo_z rfl rfl (h_st tk hH 1 rfl ty24 (by simp) rfl rfl (.of_eq rfl) (b := (.agg [(eS (⟨([] : List (BitVec 8)), (0 : Int), (0 : Int), (0 : Int), ([] : List (BitVec 8))⟩ : api_Entry).Key), (eI (⟨([] : List (BitVec 8)), (0 : Int), (0 : Int), (0 : Int), ([] : List (BitVec 8))⟩ : api_Entry).Version), (eI (⟨([] : List (BitVec 8)), (0 : Int), (0 : Int), (0 : Int), ([] : List (BitVec 8))⟩ : api_Entry).AsOf), (eI (⟨([] : List (BitVec 8)), (0 : Int), (0 : Int), (0 : Int), ([] : List (BitVec 8))⟩ : api_Entry).Ends), AV.nils])) rfl rfl (Nat.le_of_ble_eq_true rfl) [(eS ((⟨([] : List (BitVec 8)), (0 : Int), (0 : Int), (0 : Int), ([] : List (BitVec 8))⟩ : api_Entry) : api_Entry).Key), (eI ((⟨([] : List (BitVec 8)), (0 : Int), (0 : Int), (0 : Int), ([] : List (BitVec 8))⟩ : api_Entry) : api_Entry).Version), (eI ((⟨([] : List (BitVec 8)), (0 : Int), (0 : Int), (0 : Int), ([] : List (BitVec 8))⟩ : api_Entry) : api_Entry).AsOf), (eI ((⟨([] : List (BitVec 8)), (0 : Int), (0 : Int), (0 : Int), ([] : List (BitVec 8))⟩ : api_Entry) : api_Entry).Ends), AV.nils] rfl) fun τ hH => ?_
      refine wpo_nil ?_
      refine awp_ret ?_
      obtain rfl := Option.some.inj H43
      exact ⟨_, (e_api_Entry ((⟨([] : List (BitVec 8)), (0 : Int), (0 : Int), (0 : Int), ([] : List (BitVec 8))⟩ : api_Entry) : api_Entry)), (ares_1 (ares_cell hH 1 rfl rfl rfl)), (wk_agg (.cons (.of_eq rfl) (.cons (.of_eq rfl) (.cons (.of_eq rfl) (.cons (.of_eq rfl) (.cons (wk_nils _) .nil)))))), .of_eq (enc24.cut _ _ _), ((hH.noT.drop n6).drop n2)⟩
    · refine awp_skip ?_
      refine awp_seq ?_
      refine awp_region rfl ?_
      refine wpo_rd (a := (e_api_Entry ({ ({ ({ ({ ((⟨v4.1, (0 : Int), (0 : Int), (0 : Int), ([] : List (BitVec 8))⟩ : api_Entry) : api_Entry) with Version := v9.1 } : api_Entry) with AsOf := v12.1 } : api_Entry) with Ends := v15.1 } : api_Entry) with Value := v18.1 } : api_Entry))) rfl rfl rfl (h_ld tk hH 0 rfl rfl rfl) ?_
      refine wpo_z rfl rfl (h_st tk hH 1 rfl ty24 (by simp) rfl rfl (.of_eq rfl) (b := (e_api_Entry ({ ({ ({ ({ ((⟨v4.1, (0 : Int), (0 : Int), (0 : Int), ([] : List (BitVec 8))⟩ : api_Entry) : api_Entry) with Version := v9.1 } : api_Entry) with AsOf := v12.1 } : api_Entry) with Ends := v15.1 } : api_Entry) with Value := v18.1 } : api_Entry))) (enc24.flat _) rfl (Nat.le_of_ble_eq_true rfl) (c_api_Entry (({ ({ ({ ({ ((⟨v4.1, (0 : Int), (0 : Int), (0 : Int), ([] : List (BitVec 8))⟩ : api_Entry) : api_Entry) with Version := v9.1 } : api_Entry) with AsOf := v12.1 } : api_Entry) with Ends := v15.1 } : api_Entry) with Value := v18.1 } : api_Entry) : api_Entry)) rfl) fun τ hH => ?_
      refine wpo_nil ?_
      refine awp_ret ?_
      obtain rfl := Option.some.inj H43
      exact ⟨_, (e_api_Entry (({ ({ ({ ({ ((⟨v4.1, (0 : Int), (0 : Int), (0 : Int), ([] : List (BitVec 8))⟩ : api_Entry) : api_Entry) with Version := v9.1 } : api_Entry) with AsOf := v12.1 } : api_Entry) with Ends := v15.1 } : api_Entry) with Value := v18.1 } : api_Entry) : api_Entry)), (ares_1 (ares_cell hH 1 rfl rfl rfl)), (.of_eq rfl), .of_eq (enc24.cut _ _ _), ((hH.noT.drop n6).drop n2)⟩
  · refine awp_if hs26 rfl (fun H28 => ?_) (fun H28 => ?_)
    · refine awp_seq ?_
      refine awp_region rfl ?_
      refine wpo_rd (a := (e_api_Entry ({ ({ ({ ({ ((⟨v4.1, (0 : Int), (0 : Int), (0 : Int), ([] : List (BitVec 8))⟩ : api_Entry) : api_Entry) with Version := v9.1 } : api_Entry) with AsOf := v12.1 } : api_Entry) with Ends := v15.1 } : api_Entry) with Value := v18.1 } : api_Entry))) rfl rfl rfl (h_ld tk hH 0 rfl rfl rfl) ?_
      refine wpo_bd H28 eErr rfl rfl rfl (fun v30 hv => OpP.of_call rfl rfl (.cons (.of_eq rfl) .nil) (item_Check_ok hv)) fun v30 hv30 H29 => ?_
      refine wpo_mv (a := (eErr v30)) rfl rfl rfl (o_as tk rfl (Wk.refl _)) ?_
      refine wpo_nil ?_
      refine awp_seq ?_
      refine awp_region rfl ?_
      refine wpo_mv (a := (eErr v30)) rfl rfl rfl (o_mv tk rfl (Wk.refl _)) ?_
      refine wpo_lt H29 eB rfl rfl rfl (o_err_neq tk rfl rfl rfl) fun v32 H31 => ?_
      refine wpo_nil ?_
      refine awp_if H31 rfl (fun H33 => ?_) (fun H33 => ?_)
      · refine awp_region rfl ?_
        refine wpo_mv (a := (.ref p0 0)) rfl rfl rfl (o_mv tk rfl (Wk.refl _)) ?_
        refine wpo_mv (a := (eErr v30)) rfl rfl rfl (o_mv tk rfl (Wk.refl _)) ?_
        refine wpo_bdr H33 eI rfl rfl rfl (fun v35 hv => h_callr rfl rfl (.cons (.of_eq rfl) .nil) (trouble_Of_ok hv _ (hH.gl.trans hg))) fun v35 hv35 H34 => ?_
        refine wpo_cb H34 (fun x _ => .tup []) rfl rfl rfl (fun v37 hv => h_call1 hH [(2, (p0, (c_octets_Reader v37)))] ⟨⟨_, rfl⟩, trivial⟩ rfl rfl (.cons (.of_eq rfl) (.cons (.of_eq rfl) .nil)) (octets_Reader_Fail_ok hv _ (hH.at_ 2 rfl))) fun v37 _ τ hv37 H36 hH => ?_
        refine wpo_nil ?_
        have e := Option.some.inj H36
        subst e
        exact ⟨(wkf_cons (.of_eq rfl) (wkf_cons (.of_eq rfl) (wkf_cons (.of_eq rfl) (wkf_nil _)))), hH⟩
      · refine awp_skip ?_
        have e := Option.some.inj H33
        subst e
        exact ⟨(wkf_cons (.of_eq rfl) (wkf_cons (.of_eq rfl) (wkf_cons (.of_eq rfl) (wkf_nil _)))), hH⟩
    · refine awp_skip ?_
      have e := Option.some.inj H28
      subst e
      exact ⟨(wkf_cons (.of_eq rfl) (wkf_cons (.of_eq rfl) (wkf_cons (.of_eq rfl) (wkf_nil _)))), hH⟩
end Go.Proofs.YtkmlinaofbcbaaaDoor
namespace Go.Proofs.YtkmlinaofbcbaaaDoor
open Go Go.Va
set_option linter.unusedVariables false
set_option linter.unusedSimpArgs false
set_option maxRecDepth 20000
theorem octets_Read_ok {x0 : List (BitVec 8)} {r : octets_Reader} (H : octets_Read x0 = some r) (σ : St)  : ACall Tryd.prog 80 [((eL 1 (@eU .u8 8)) x0)] σ (fun a τ => a = .ref σ.objs.length 0 ∧ τ = ⟨σ.objs ++ [(c_octets_Reader r)], σ.opn, σ.gl⟩) := by
  unfold octets_Read at H
  refine ACall.new (fun ρ κ => c_octets_Reader_cut ρ κ r) (acall_start tk Tryd.func80 (by decide) rfl (Nat.le_of_ble_eq_true rfl) ?_)
  have hH := Holds.init σ
  refine awp_seq ?_
  refine awp_region rfl ?_
  refine wpo_mv (a := .nilp) rfl rfl rfl (o_as tk rfl (Wk.refl _)) ?_
  refine wpo_nil ?_
  refine awp_seq ?_
  refine awp_region rfl ?_
  refine wpo_mv (a := (eF 1 (@eU .u8 8) ([] : List (BitVec 8)))) rfl rfl rfl (o_c tk false rfl (fun _ => rfl)) ?_
  refine wpo_mv (a := ((eL 1 (@eU .u8 8)) x0)) rfl rfl rfl (o_mv tk rfl (Wk.refl _)) ?_
  obtain ⟨v2, hv3, H1⟩ := Option.bind_eq_some_iff.1 H
  refine wpo_a (av := fun t => eT t 1 (@eU .u8 8) v2) rfl rfl rfl (h_app0 tk hH hv3 td22 ty5 rfl (by decide) (.inr rfl) (src_l td22 rfl)) fun tk4 τ hH => ?_
  refine wpo_lt H1 e_octets_Reader rfl rfl rfl (OpP.wk (wkf_up (t := 5) (a := ((eL 1 (@eU .u8 8)) v2)) wk_no) (o_c tk false rfl (fun _ => rfl))) fun v6 H5 => ?_
  refine wpo_a (av := fun id => .ref id 0) rfl rfl rfl (h_box tk hH rfl (.of_eq rfl) (b := (e_octets_Reader v6)) (enc170.flat _) (c_octets_Reader v6) rfl) fun id7 τ ⟨hH, n8⟩ => ?_
  refine wpo_mv (a := (.ref id7 0)) rfl rfl rfl (o_as tk rfl (Wk.refl _)) ?_
  refine wpo_nil ?_
  refine awp_ret ?_
  obtain rfl := Option.some.inj H5
  exact ⟨_, .ref id7 0, rfl, .of_eq rfl, id7, rfl, n8, hH.noT⟩
end Go.Proofs.YtkmlinaofbcbaaaDoor
namespace Go.Proofs.YtkmlinaofbcbaaaDoor
open Go Go.Va
set_option linter.unusedVariables false
set_option linter.unusedSimpArgs false
set_option maxRecDepth 20000
theorem octets_Reader_At_ok {x0 : octets_Reader} {r : Int} (H : octets_Reader_At x0 = some r) (σ : St) {p0 : Nat} (h0 : σ.objs[p0]? = some (c_octets_Reader x0)) : ACall Tryd.prog 85 [(.ref p0 0)] σ (fun a τ => a = eI r ∧ τ = σ) := by
  unfold octets_Reader_At at H
  refine ACall.pure (acall_start tk Tryd.func85 (by decide) rfl (Nat.le_of_ble_eq_true rfl) ?_)
  have hH := Holds.init σ
  have hH := hH.bring h0 (fun _ h => by cases h)
  refine awp_seq ?_
  refine awp_region rfl ?_
  refine wpo_mv (a := (eI (0 : Int))) rfl rfl rfl (o_as tk rfl (Wk.refl _)) ?_
  refine wpo_nil ?_
  refine awp_seq ?_
  refine awp_region rfl ?_
  refine wpo_mv (a := (.ref p0 0)) rfl rfl rfl (o_mv tk rfl (Wk.refl _)) ?_
  refine wpo_mv (a := (.ref p0 0)) rfl rfl rfl (o_c tk false rfl (fun _ => rfl)) ?_
  refine wpo_mv (a := (.ref p0 1)) rfl rfl rfl (o_c tk false rfl (fun _ => rfl)) ?_
  refine wpo_rd (a := (eI x0.at_)) rfl rfl rfl (h_ld tk hH 0 rfl rfl rfl) ?_
  refine wpo_mv (a := (eI x0.at_)) rfl rfl rfl (o_as tk rfl (Wk.refl _)) ?_
  refine wpo_nil ?_
  refine awp_ret ?_
  obtain rfl := Option.some.inj H
  exact ⟨_, (eI x0.at_), rfl, (.of_eq rfl), .of_eq ((enc_i64 td3 sz3).cut _ _ _), (hH.noT.unbring h0)⟩
end Go.Proofs.YtkmlinaofbcbaaaDoor
namespace Go.Proofs.YtkmlinaofbcbaaaDoor
open Go Go.Va
set_option linter.unusedVariables false
set_option linter.unusedSimpArgs false
set_option maxRecDepth 20000
theorem item_Read_ok {x0 : List (BitVec 8)} {r : (List api_Entry) × Err} (H : item_Read x0 = some r) (σ : St)  (hg : σ.gl = gls) : ACall Tryd.prog 96 [((eL 1 (@eU .u8 8)) x0)] σ (fun a τ => a = .tup [(eL 5 e_api_Entry) r.1, eErr r.2] ∧ τ = σ) := by
  unfold item_Read at H
  refine ACall.pure (acall_start tk Tryd.func96 (by decide) rfl (Nat.le_of_ble_eq_true rfl) ?_)
  have hH := Holds.init σ
  refine awp_seq ?_
  refine awp_region rfl ?_
  refine wpo_mv (a := AV.nils) rfl rfl rfl (o_as tk rfl (Wk.refl _)) ?_
  refine wpo_mv (a := (eErr Err.nil)) rfl rfl rfl (o_as tk rfl (Wk.refl _)) ?_
  refine wpo_nil ?_
  refine awp_seq ?_
  refine awp_region rfl ?_
  refine wpo_mv (a := ((eL 1 (@eU .u8 8)) x0)) rfl rfl rfl (o_mv tk rfl (Wk.refl _)) ?_
  refine wpo_cb H (fun _ id => .ref id 0) rfl rfl rfl (fun v2 hv => h_calln hH (c_octets_Reader v2) rfl rfl (.cons (.of_eq rfl) .nil) (octets_Read_ok hv _)) fun v2 id3 τ hv2 H1 ⟨hH, n4⟩ => ?_
  refine wpo_mv (a := (.ref id3 0)) rfl rfl rfl (o_as tk rfl (Wk.refl _)) ?_
  refine wpo_nil ?_
  refine awp_seq ?_
  refine awp_region rfl ?_
  refine wpo_mv (a := AV.nils) rfl rfl rfl (o_as tk rfl (Wk.refl _)) ?_
  refine wpo_nil ?_
  refine awp_seq ?_
  refine awp_block ?_
  refine AWP.tokN hH 5 5 rfl fun tk7 τ hH => ?_
  obtain ⟨o8, hs9, hj10⟩ := Option.bind_eq_some_iff.1 H1
  refine awp_cutx 0 (fun fr τ => ∃ s15 : (List api_Entry) × octets_Reader, o8 = .inl s15 ∧ ∃ tk_5, WkF fr (fm [(5, (eT tk_5 5 e_api_Entry s15.1))]) ∧ Holds σ [(id3, (c_octets_Reader s15.2))] [tk_5] τ) ?_ ?_
  · rintro fr τ ⟨s15, rfl, tk_5, hfr, hH⟩
    have H59 := hj10
    simp only [Sum.elim_inl] at H59
    refine AWP.fm [(5, (eT tk_5 5 e_api_Entry s15.1))] hfr ?_
    refine awp_seq ?_
    refine awp_region rfl ?_
    refine wpo_mv (a := (eT tk_5 5 e_api_Entry s15.1)) rfl rfl rfl (o_mv tk rfl (Wk.refl _)) ?_
    refine wpo_mv (a := (eT tk_5 5 e_api_Entry s15.1)) rfl rfl rfl (o_as tk rfl (Wk.refl _)) ?_
    refine wpo_mv (a := (eErr Err.nil)) rfl rfl rfl (o_as tk rfl (Wk.refl _)) ?_
    refine wpo_nil ?_
    refine awp_ret ?_
    obtain rfl := Option.some.inj H59
    exact ⟨_, (.tup [((eL 5 e_api_Entry) s15.1), (eErr Err.nil)]), rfl, (wk_tup (.cons wk_no (.cons (.of_eq rfl) .nil))), .of_eq (by simp only [cutAV, cutL, (enc_l td60 sz60 enc24.cut).cut _ _ _, encErr.cut _ _ _]), (hH.noT.drop n4)⟩
  · refine awp_loopO (body := fun s => item_Read_b0 s.1 s.2) hs9 (fun (s : (List api_Entry) × octets_Reader) fr τ => ∃ tk_5, WkF fr (fm [(4, (.ref id3 0)), (5, (eT tk_5 5 e_api_Entry s.1))]) ∧ Holds σ [(id3, (c_octets_Reader s.2))] [tk_5] τ) ⟨tk7, (wkf_cons (.of_eq rfl) (wkf_cons (.of_eq rfl) (wkf_nil _))), hH⟩ ?_
    rintro ⟨c5, c6⟩ fr τ y11 ⟨tk_5, hfr, hH⟩ hb13 hy14
    have H16 : item_Read_b0 c5 c6 = some y11 := hb13
    unfold item_Read_b0 at H16
    refine AWP.fm [(4, (.ref id3 0)), (5, (eT tk_5 5 e_api_Entry c5))] hfr ?_
    have hH : Holds σ [(id3, (c_octets_Reader c6))] [tk_5] τ := hH
    refine awp_seq ?_
    refine awp_seq ?_
    obtain ⟨s17, hs19, hj20⟩ := Option.bind_eq_some_iff.1 H16
    refine awp_cutn (fun fr τ => ∃ tk_5, WkF fr (fm [(4, (.ref id3 0)), (5, (eT tk_5 5 e_api_Entry c5)), (17, (eB s17))]) ∧ Holds σ [(id3, (c_octets_Reader c6))] [tk_5] τ) ?_ ?_
    · rintro fr τ ⟨tk_5, hfr, hH⟩
      have H30 := hj20
      refine AWP.fm [(4, (.ref id3 0)), (5, (eT tk_5 5 e_api_Entry c5)), (17, (eB s17))] hfr ?_
      refine awp_if H30 rfl (fun H31 => ?_) (fun H31 => ?_)
      · refine awp_skip ?_
        refine awp_block ?_
        refine awp_seq ?_
        refine awp_region rfl ?_
        refine wpo_mv (a := (.ref id3 0)) rfl rfl rfl (o_mv tk rfl (Wk.refl _)) ?_
        refine wpo_bdr H31 eI rfl rfl rfl (fun v33 hv => h_callr rfl rfl (.cons (.of_eq rfl) .nil) (octets_Reader_At_ok hv _ (hH.at_ 0 rfl))) fun v33 hv33 H32 => ?_
        refine wpo_mv (a := (eI v33)) rfl rfl rfl (o_as tk rfl (Wk.refl _)) ?_
        refine wpo_nil ?_
        refine awp_seq ?_
        refine awp_region rfl ?_
        refine wpo_mv (a := (.ref id3 0)) rfl rfl rfl (o_mv tk rfl (Wk.refl _)) ?_
        refine wpo_cb H32 (fun x _ => e_api_Entry x.1) rfl rfl rfl (fun v35 hv => h_call1 hH [(0, (id3, (c_octets_Reader v35.2)))] ⟨⟨_, rfl⟩, trivial⟩ rfl rfl (.cons (.of_eq rfl) .nil) (item_From_ok hv _ (hH.at_ 0 rfl) (hH.gl.trans hg))) fun v35 _ τ hv35 H34 hH => ?_
        refine wpo_a (av := fun id => .ref id 0) rfl rfl rfl (h_alloc tk hH ty24 [(eS z_api_Entry.Key), (eI z_api_Entry.Version), (eI z_api_Entry.AsOf), (eI z_api_Entry.Ends), AV.nils] rfl) fun id36 τ ⟨hH, n37⟩ => ?_
        refine wpo_z rfl rfl (h_st tk hH 0 rfl ty24 (by simp) rfl rfl (.of_eq rfl) (b := (e_api_Entry v35.1)) (enc24.flat _) rfl (Nat.le_of_ble_eq_true rfl) (c_api_Entry (v35.1 : api_Entry)) rfl) fun τ hH => ?_
        refine wpo_nil ?_
        refine awp_seq ?_
        refine awp_seq ?_
        refine awp_region rfl ?_
        refine wpo_mv (a := (.ref id3 0)) rfl rfl rfl (o_mv tk rfl (Wk.refl _)) ?_
        refine wpo_bdr H34 eI rfl rfl rfl (fun v40 hv => h_callr rfl rfl (.cons (.of_eq rfl) .nil) (octets_Reader_Code_ok hv _ (hH.at_ 1 rfl))) fun v40 hv40 H39 => ?_
        refine wpo_lt H39 eB rfl rfl rfl (o_ar tk rfl rfl rfl) fun v42 H41 => ?_
        refine wpo_nil ?_
        refine awp_if H41 rfl (fun H43 => ?_) (fun H43 => ?_)
        · refine awp_seq ?_
          refine awp_region rfl ?_
          refine wpo_mv (a := (eT tk_5 5 e_api_Entry c5)) rfl rfl rfl (o_mv tk rfl (Wk.refl _)) ?_
          refine wpo_lt H43 eI rfl rfl rfl (o_len tk td60 rfl) fun v45 H44 => ?_
          refine wpo_mv (a := (eI v33)) rfl rfl rfl (o_mv tk rfl (Wk.refl _)) ?_
          refine wpo_mv (a := (.ref id3 0)) rfl rfl rfl (o_mv tk rfl (Wk.refl _)) ?_
          refine wpo_bdr H44 eI rfl rfl rfl (fun v47 hv => h_callr rfl rfl (.cons (.of_eq rfl) .nil) (octets_Reader_Code_ok hv _ (hH.at_ 1 rfl))) fun v47 hv47 H46 => ?_
          refine wpo_bd H46 eErr rfl rfl rfl (fun v49 hv => OpP.of_call rfl rfl (.cons (.of_eq rfl) (.cons (.of_eq rfl) (.cons (.of_eq rfl) .nil))) (trouble_New_ok hv)) fun v49 hv49 H48 => ?_
          refine wpo_bd H48 eErr rfl rfl rfl (fun v51 hv => OpP.of_call rfl rfl (.cons (.of_eq rfl) (.cons (.of_eq rfl) (.cons (.of_eq rfl) .nil))) (trouble_Wrap_ok hv)) fun v51 hv51 H50 => ?_
          refine wpo_mv (a := AV.nils) rfl rfl rfl (o_as tk rfl (Wk.refl _)) ?_
          refine wpo_mv (a := (eErr v51)) rfl rfl rfl (o_as tk rfl (Wk.refl _)) ?_
          refine wpo_nil ?_
          refine awp_ret ?_
          have hz := hy14 _ (inj_inr H50)
          refine ⟨⟨_, inj_inr H50⟩, ?_⟩
          rw [← hz] at hj10
          have H52 := (show some _ = some _ from hj10)
          obtain rfl := Option.some.inj H52
          exact ⟨_, (.tup [((eL 5 e_api_Entry) []), (eErr v51)]), rfl, (wk_tup (.cons (wk_nils _) (.cons (.of_eq rfl) .nil))), .of_eq (by simp only [cutAV, cutL, (enc_l td60 sz60 enc24.cut).cut _ _ _, encErr.cut _ _ _]), ((hH.noT.drop n37).drop n4)⟩
        · refine awp_skip ?_
          refine awp_region rfl ?_
          refine wpo_mv (a := (eT tk_5 5 e_api_Entry c5)) rfl rfl rfl (o_mv tk rfl (Wk.refl _)) ?_
          refine wpo_rd (a := (e_api_Entry (v35.1 : api_Entry))) rfl rfl rfl (h_ld tk hH 0 rfl rfl rfl) ?_
          refine wpo_lt H43 (eF 5 e_api_Entry) rfl rfl rfl (o_c tk false rfl (fun _ => rfl)) fun v54 H53 => ?_
          obtain ⟨v56, hv57, H55⟩ := Option.bind_eq_some_iff.1 H53
          refine wpo_a (av := fun t => eT t 5 e_api_Entry v56) rfl rfl rfl (h_app tk hH 0 hv57 rfl td60 ty24 rfl (by decide) rfl (src_l td60 rfl)) fun tk58 τ hH => ?_
          refine wpo_mv (a := (eT tk58 5 e_api_Entry v56)) rfl rfl rfl (o_as tk rfl (Wk.refl _)) ?_
          refine wpo_nil ?_
          exact ⟨(v56, v35.2), inj_inl H55, tk58, (wkf_cons (.of_eq rfl) (wkf_cons (.of_eq rfl) (wkf_nil _))), (hH.drop n37)⟩
      · refine awp_exit ?_
        have hz := hy14 _ (inj_inr H31)
        exact ⟨⟨_, inj_inr H31⟩, (c5, c6), hz.symm, tk_5, (wkf_cons (.of_eq rfl) (wkf_nil _)), hH⟩
    · refine awp_region rfl ?_
      refine wpo_mv (a := (.ref id3 0)) rfl rfl rfl (o_mv tk rfl (Wk.refl _)) ?_
      refine wpo_bdr hs19 eI rfl rfl rfl (fun v22 hv => h_callr rfl rfl (.cons (.of_eq rfl) .nil) (octets_Reader_Code_ok hv _ (hH.at_ 0 rfl))) fun v22 hv22 H21 => ?_
      refine wpo_lt H21 eB rfl rfl rfl (o_ar tk rfl rfl rfl) fun v24 H23 => ?_
      refine wpo_mv (a := (eB v24)) rfl rfl rfl (o_mv tk rfl (Wk.refl _)) ?_
      refine if_split H23 (fun hb H25 => ?_) (fun hb H25 => ?_)
      · subst hb
        refine wpo_mv (a := (.ref id3 0)) rfl rfl rfl (o_mv tk rfl (Wk.refl _)) ?_
        refine wpo_bdr H25 eI rfl rfl rfl (fun v27 hv => h_callr rfl rfl (.cons (.of_eq rfl) .nil) (octets_Reader_Left_ok hv _ (hH.at_ 0 rfl))) fun v27 hv27 H26 => ?_
        refine wpo_lt H26 eB rfl rfl rfl (o_ar tk rfl rfl rfl) fun v29 H28 => ?_
        refine wpo_mv (a := (eB v29)) rfl rfl rfl (o_pick_t tk rfl rfl (Wk.refl _)) ?_
        refine wpo_nil ?_
        have e := Option.some.inj H28
        subst e
        exact ⟨tk_5, (wkf_cons (.of_eq rfl) (wkf_cons (.of_eq rfl) (wkf_cons (.of_eq rfl) (wkf_nil _)))), hH⟩
      · subst hb
        refine wpo_skip rfl rfl rfl ?_
        refine wpo_skip rfl rfl rfl ?_
        refine wpo_skip rfl rfl rfl ?_
        refine wpo_mv (a := (eB false)) rfl rfl rfl (o_pick_f tk rfl rfl (Wk.refl _)) ?_
        refine wpo_nil ?_
        have e := Option.some.inj H25
        subst e
        exact ⟨tk_5, (wkf_cons (.of_eq rfl) (wkf_cons (.of_eq rfl) (wkf_cons (.of_eq rfl) (wkf_nil _)))), hH⟩
end Go.Proofs.YtkmlinaofbcbaaaDoor
namespace Go.Proofs.YtkmlinaofbcbaaaDoor
open Go Go.Va
set_option linter.unusedVariables false
set_option linter.unusedSimpArgs false
set_option maxRecDepth 20000
theorem bucket_Read_ok {x0 : List (BitVec 8)} {r : (List api_Entry) × Err} (H : bucket_Read x0 = some r) (σ : St)  (hg : σ.gl = gls) : ACall Tryd.prog 40 [((eL 1 (@eU .u8 8)) x0)] σ (fun a τ => a = .tup [(eL 5 e_api_Entry) r.1, eErr r.2] ∧ τ = σ) := by
  unfold bucket_Read at H
  refine ACall.pure (acall_start tk Tryd.func40 (by decide) rfl (Nat.le_of_ble_eq_true rfl) ?_)
  have hH := Holds.init σ
  refine awp_seq ?_
  refine awp_region rfl ?_
  refine wpo_mv (a := AV.nils) rfl rfl rfl (o_as tk rfl (Wk.refl _)) ?_
  refine wpo_mv (a := (eErr Err.nil)) rfl rfl rfl (o_as tk rfl (Wk.refl _)) ?_
  refine wpo_nil ?_
  refine awp_seq ?_
  refine awp_region rfl ?_
  refine wpo_mv (a := ((eL 1 (@eU .u8 8)) x0)) rfl rfl rfl (o_mv tk rfl (Wk.refl _)) ?_
  refine wpo_bdr H (fun r => .tup [(eL 5 e_api_Entry) r.1, eErr r.2]) rfl rfl rfl (fun v2 hv => h_callr rfl rfl (.cons (.of_eq rfl) .nil) (item_Read_ok hv _ (hH.gl.trans hg))) fun v2 hv2 H1 => ?_
  refine wpo_mv (a := (.tup [((eL 5 e_api_Entry) v2.1), (eErr v2.2)])) rfl rfl rfl (o_mv tk rfl (Wk.refl _)) ?_
  refine wpo_mv (a := ((eL 5 e_api_Entry) v2.1)) rfl rfl rfl (o_ext tk rfl rfl) ?_
  refine wpo_mv (a := (eErr v2.2)) rfl rfl rfl (o_ext tk rfl rfl) ?_
  refine wpo_mv (a := ((eL 5 e_api_Entry) v2.1)) rfl rfl rfl (o_as tk rfl (Wk.refl _)) ?_
  refine wpo_mv (a := (eErr v2.2)) rfl rfl rfl (o_as tk rfl (Wk.refl _)) ?_
  refine wpo_nil ?_
  refine awp_seq ?_
  refine awp_seq ?_
  refine awp_region rfl ?_
  refine wpo_mv (a := (eErr v2.2)) rfl rfl rfl (o_mv tk rfl (Wk.refl _)) ?_
  refine wpo_lt H1 eB rfl rfl rfl (o_err_neq tk rfl rfl rfl) fun v4 H3 => ?_
  refine wpo_nil ?_
  refine awp_if H3 rfl (fun H5 => ?_) (fun H5 => ?_)
  · refine awp_seq ?_
    refine awp_region rfl ?_
    refine wpo_mv (a := ((eL 1 (@eU .u8 8)) x0)) rfl rfl rfl (o_mv tk rfl (Wk.refl _)) ?_
    refine wpo_lt H5 eI rfl rfl rfl (o_len tk td22 rfl) fun v7 H6 => ?_
    refine wpo_mv (a := (eErr v2.2)) rfl rfl rfl (o_mv tk rfl (Wk.refl _)) ?_
    refine wpo_bd H6 eErr rfl rfl rfl (fun v9 hv => OpP.of_call rfl rfl (.cons (.of_eq rfl) (.cons (.of_eq rfl) (.cons (.of_eq rfl) .nil))) (trouble_Wrap_ok hv)) fun v9 hv9 H8 => ?_
    refine wpo_mv (a := AV.nils) rfl rfl rfl (o_as tk rfl (Wk.refl _)) ?_
    refine wpo_mv (a := (eErr v9)) rfl rfl rfl (o_as tk rfl (Wk.refl _)) ?_
    refine wpo_nil ?_
    refine awp_ret ?_
    obtain rfl := Option.some.inj H8
    exact ⟨_, (.tup [((eL 5 e_api_Entry) []), (eErr v9)]), rfl, (wk_tup (.cons (wk_nils _) (.cons (.of_eq rfl) .nil))), .of_eq (by simp only [cutAV, cutL, (enc_l td60 sz60 enc24.cut).cut _ _ _, encErr.cut _ _ _]), hH.noT⟩
  · refine awp_skip ?_
    refine awp_seq ?_
    refine awp_seq ?_
    refine awp_region rfl ?_
    refine wpo_mv (a := ((eL 5 e_api_Entry) v2.1)) rfl rfl rfl (o_mv tk rfl (Wk.refl _)) ?_
    refine wpo_lt H5 eI rfl rfl rfl (o_len tk td60 rfl) fun v11 H10 => ?_
    refine wpo_mv (a := (eI (0 : Int))) rfl rfl rfl (o_mv tk rfl (Wk.refl _)) ?_
    refine wpo_nil ?_
    refine awp_block ?_
    obtain ⟨o13, hs14, hj15⟩ := Option.bind_eq_some_iff.1 H10
    refine awp_cutx 0 (fun fr τ => ∃ s20 : Unit, o13 = .inl s20 ∧ WkF fr (fm [(4, ((eL 5 e_api_Entry) v2.1))]) ∧ Holds σ [] [] τ) ?_ ?_
    · rintro fr τ ⟨s20, rfl, hfr, hH⟩
      have H42 := hj15
      simp only [Sum.elim_inl] at H42
      refine AWP.fm [(4, ((eL 5 e_api_Entry) v2.1))] hfr ?_
      refine awp_seq ?_
      refine awp_region rfl ?_
      refine wpo_mv (a := ((eL 5 e_api_Entry) v2.1)) rfl rfl rfl (o_mv tk rfl (Wk.refl _)) ?_
      refine wpo_mv (a := ((eL 5 e_api_Entry) v2.1)) rfl rfl rfl (o_as tk rfl (Wk.refl _)) ?_
      refine wpo_mv (a := (eErr Err.nil)) rfl rfl rfl (o_as tk rfl (Wk.refl _)) ?_
      refine wpo_nil ?_
      refine awp_ret ?_
      obtain rfl := Option.some.inj H42
      exact ⟨_, (.tup [((eL 5 e_api_Entry) v2.1), (eErr Err.nil)]), rfl, (wk_tup (.cons (.of_eq rfl) (.cons (.of_eq rfl) .nil))), .of_eq (by simp only [cutAV, cutL, (enc_l td60 sz60 enc24.cut).cut _ _ _, encErr.cut _ _ _]), hH.noT⟩
    · refine awp_loopO (body := fun s => bucket_Read_b0 v2 v11 s) hs14 (fun (s : Int) fr τ => WkF fr (fm [(4, ((eL 5 e_api_Entry) v2.1)), (19, ((eL 5 e_api_Entry) v2.1)), (20, (eI v11)), (21, (eI s))]) ∧ Holds σ [] [] τ) ⟨(wkf_cons (.of_eq rfl) (wkf_cons (.of_eq rfl) (wkf_cons (.of_eq rfl) (wkf_cons (.of_eq rfl) (wkf_nil _))))), hH⟩ ?_
      rintro c12 fr τ y16 ⟨hfr, hH⟩ hb18 hy19
      have H21 : bucket_Read_b0 v2 v11 c12 = some y16 := hb18
      unfold bucket_Read_b0 at H21
      refine AWP.fm [(4, ((eL 5 e_api_Entry) v2.1)), (19, ((eL 5 e_api_Entry) v2.1)), (20, (eI v11)), (21, (eI c12))] hfr ?_
      have hH : Holds σ [] [] τ := hH
      refine awp_seq ?_
      refine awp_region rfl ?_
      refine wpo_lt H21 eB rfl rfl rfl (o_ar tk rfl rfl rfl) fun v23 H22 => ?_
      refine wpo_nil ?_
      refine awp_seq ?_
      refine awp_if H22 rfl (fun H24 => ?_) (fun H24 => ?_)
      · refine awp_skip ?_
        refine awp_seq ?_
        refine awp_block ?_
        refine awp_seq ?_
        refine awp_region rfl ?_
        refine wpo_mv (a := (eI c12)) rfl rfl rfl (o_mv tk rfl (Wk.refl _)) ?_
        refine wpo_bd H24 (fun y => .fptr (e_api_Entry y).cells 0) rfl rfl rfl (fun v26 hv => o_ixa tk hv td60 enc24 rfl rfl) fun v26 hv26 H25 => ?_
        refine wpo_mv (a := (e_api_Entry v26)) rfl rfl rfl (o_ld_e tk enc24 rfl rfl) ?_
        refine wpo_a (av := fun id => .ref id 0) rfl rfl rfl (h_alloc tk hH ty24 [(eS z_api_Entry.Key), (eI z_api_Entry.Version), (eI z_api_Entry.AsOf), (eI z_api_Entry.Ends), AV.nils] rfl) fun id27 τ ⟨hH, n28⟩ => ?_
        refine wpo_mv (a := (eI c12)) rfl rfl rfl (o_as tk rfl (Wk.refl _)) ?_
        refine wpo_z rfl rfl (h_st tk hH 0 rfl ty24 (by simp) rfl rfl (.of_eq rfl) (b := (e_api_Entry v26)) (enc24.flat _) rfl (Nat.le_of_ble_eq_true rfl) (c_api_Entry (v26 : api_Entry)) rfl) fun τ hH => ?_
        refine wpo_nil ?_
        refine awp_seq ?_
        refine awp_drawS mixed [] rfl (by decide +kernel) rfl rfl ?_
        refine wpdS_mv (a := ((eL 5 e_api_Entry) v2.1)) rfl rfl rfl (o_mv tk rfl (Wk.refl _)) ?_
        refine wpdS_mv (a := (eI c12)) rfl rfl rfl (o_mv tk rfl (Wk.refl _)) ?_
        refine wpdS_bd H25 (eL 5 e_api_Entry) rfl rfl rfl (fun v31 hv => o_cutTo tk hv td60 enc24 rfl rfl) fun v31 hv31 H30 => ?_
        refine wpdS_mv (a := (.ref id27 0)) rfl rfl rfl (o_c tk false rfl (fun _ => rfl)) ?_
        refine wpdS_rd (a := (eS (v26 : api_Entry).Key)) rfl (by decide +kernel) rfl rfl (h_ld tk hH 0 rfl rfl rfl) ?_
        refine wpdS_bd H30 eI rfl rfl rfl (fun v33 hv => OpP.of_call rfl rfl (.cons (.of_eq rfl) (.cons (.of_eq rfl) .nil)) (bucket_Find_ok hv)) fun v33 hv33 H32 => ?_
        refine wpdS_lt H32 eB rfl rfl rfl (o_ar tk rfl rfl rfl) fun v35 H34 => ?_
        refine wpdS_nil ?_
        refine awp_if H34 rfl (fun H36 => ?_) (fun H36 => ?_)
        · refine awp_seq ?_
          refine awp_region rfl ?_
          refine wpo_mv (a := (eI c12)) rfl rfl rfl (o_mv tk rfl (Wk.refl _)) ?_
          refine wpo_bd H36 eErr rfl rfl rfl (fun v38 hv => OpP.of_call rfl rfl (.cons (.of_eq rfl) (.cons (.of_eq rfl) (.cons (.of_eq rfl) .nil))) (trouble_New_ok hv)) fun v38 hv38 H37 => ?_
          refine wpo_mv (a := AV.nils) rfl rfl rfl (o_as tk rfl (Wk.refl _)) ?_
          refine wpo_mv (a := (eErr v38)) rfl rfl rfl (o_as tk rfl (Wk.refl _)) ?_
          refine wpo_nil ?_
          refine awp_ret ?_
          have hz := hy19 _ (inj_inr H37)
          refine ⟨⟨_, inj_inr H37⟩, ?_⟩
          rw [← hz] at hj15
          have H39 := (show some _ = some _ from hj15)
          obtain rfl := Option.some.inj H39
          exact ⟨_, (.tup [((eL 5 e_api_Entry) []), (eErr v38)]), rfl, (wk_tup (.cons (wk_nils _) (.cons (.of_eq rfl) .nil))), .of_eq (by simp only [cutAV, cutL, (enc_l td60 sz60 enc24.cut).cut _ _ _, encErr.cut _ _ _]), (hH.noT.drop n28)⟩
        · refine awp_skip ?_
          refine awp_region rfl ?_
          refine wpo_lt H36 eI rfl rfl rfl (o_ar tk rfl rfl rfl) fun v41 H40 => ?_
          refine wpo_mv (a := (eI v41)) rfl rfl rfl (o_mv tk rfl (Wk.refl _)) ?_
          refine wpo_nil ?_
          exact ⟨v41, inj_inl H40, (wkf_cons (.of_eq rfl) (wkf_cons (.of_eq rfl) (wkf_cons (.of_eq rfl) (wkf_cons (.of_eq rfl) (wkf_nil _))))), (hH.drop n28)⟩
      · refine awp_exit ?_
        have hz := hy19 _ (inj_inr H24)
        exact ⟨⟨_, inj_inr H24⟩, (), hz.symm, (wkf_cons (.of_eq rfl) (wkf_nil _)), hH⟩
end Go.Proofs.YtkmlinaofbcbaaaDoor
namespace Go.Proofs.YtkmlinaofbcbaaaDoor
open Go Go.Va
set_option linter.unusedVariables false
set_option linter.unusedSimpArgs false
set_option maxRecDepth 20000
theorem octets_Put_app {x0 : List (BitVec 8)} {x1 : List Int} {r : (List (BitVec 8))} (H : octets_Put x0 x1 = some r) (σ : St)  : ACall Tryd.prog 60 [((eL 1 (@eU .u8 8)) x0), ((eL 1 eI) x1)] σ (fun a τ => a = .sl (.own σ.opn.length) 1 (r.map (@eU .u8 8)) ∧ τ = σ.more) := by
  unfold octets_Put at H
  refine ACall.app (fun ρ κ => cutL_enc (enc_u td5 sz5).cut ρ κ r) (acall_start tk Tryd.func60 (by decide) rfl (Nat.le_of_ble_eq_true rfl) ?_)
  have hH := Holds.init σ
  refine awp_seq ?_
  refine awp_region rfl ?_
  refine wpo_mv (a := AV.nils) rfl rfl rfl (o_as tk rfl (Wk.refl _)) ?_
  refine wpo_nil ?_
  refine awp_seq ?_
  refine awp_region rfl ?_
  refine wpo_mv (a := (eF 1 (@eU .u8 8) ([] : List (BitVec 8)))) rfl rfl rfl (o_c tk false rfl (fun _ => rfl)) ?_
  refine wpo_mv (a := ((eL 1 (@eU .u8 8)) x0)) rfl rfl rfl (o_mv tk rfl (Wk.refl _)) ?_
  obtain ⟨v2, hv3, H1⟩ := Option.bind_eq_some_iff.1 H
  refine wpo_a (av := fun t => eT t 1 (@eU .u8 8) v2) rfl rfl rfl (h_app0 tk hH hv3 td22 ty5 rfl (by decide) (.inr rfl) (src_l td22 rfl)) fun tk4 τ hH => ?_
  refine wpo_mv (a := (eT tk4 1 (@eU .u8 8) v2)) rfl rfl rfl (o_as tk rfl (Wk.refl _)) ?_
  refine wpo_nil ?_
  refine awp_seq ?_
  refine awp_seq ?_
  refine awp_region rfl ?_
  refine wpo_mv (a := ((eL 1 eI) x1)) rfl rfl rfl (o_mv tk rfl (Wk.refl _)) ?_
  refine wpo_lt H1 eI rfl rfl rfl (o_len tk td51 rfl) fun v6 H5 => ?_
  refine wpo_mv (a := (eI (0 : Int))) rfl rfl rfl (o_mv tk rfl (Wk.refl _)) ?_
  refine wpo_nil ?_
  refine awp_block ?_
  obtain ⟨s16, hs10, hj11⟩ := Option.bind_eq_some_iff.1 H5
  refine awp_cutx 0 (fun fr τ => ∃ tk_5, WkF fr (fm [(5, (eT tk_5 1 (@eU .u8 8) s16))]) ∧ Holds σ [] [tk_5] τ) ?_ ?_
  · rintro fr τ ⟨tk_5, hfr, hH⟩
    have H86 := hj11
    refine AWP.fm [(5, (eT tk_5 1 (@eU .u8 8) s16))] hfr ?_
    refine awp_seq ?_
    refine awp_region rfl ?_
    refine wpo_mv (a := (eT tk_5 1 (@eU .u8 8) s16)) rfl rfl rfl (o_mv tk rfl (Wk.refl _)) ?_
    refine wpo_mv (a := (eT tk_5 1 (@eU .u8 8) s16)) rfl rfl rfl (o_as tk rfl (Wk.refl _)) ?_
    refine wpo_nil ?_
    refine awp_ret ?_
    obtain rfl := Option.some.inj H86
    exact ⟨_, (eT tk_5 1 (@eU .u8 8) s16), rfl, .of_eq rfl, tk_5, rfl, hH⟩
  · refine awp_loopO (body := fun s => octets_Put_b0 x1 v6 s.1 s.2) hs10 (fun (s : (List (BitVec 8)) × Int) fr τ => ∃ tk_5, WkF fr (fm [(5, (eT tk_5 1 (@eU .u8 8) s.1)), (12, ((eL 1 eI) x1)), (13, (eI v6)), (14, (eI s.2))]) ∧ Holds σ [] [tk_5] τ) ⟨tk4, (wkf_cons (.of_eq rfl) (wkf_cons (.of_eq rfl) (wkf_cons (.of_eq rfl) (wkf_cons (.of_eq rfl) (wkf_nil _))))), hH⟩ ?_
    rintro ⟨c7, c8⟩ fr τ y12 ⟨tk_5, hfr, hH⟩ hb14 hy15
    have H17 : octets_Put_b0 x1 v6 c7 c8 = some y12 := hb14
    unfold octets_Put_b0 at H17
    refine AWP.fm [(5, (eT tk_5 1 (@eU .u8 8) c7)), (12, ((eL 1 eI) x1)), (13, (eI v6)), (14, (eI c8))] hfr ?_
    have hH : Holds σ [] [tk_5] τ := hH
    refine awp_seq ?_
    refine awp_region rfl ?_
    refine wpo_lt H17 eB rfl rfl rfl (o_ar tk rfl rfl rfl) fun v19 H18 => ?_
    refine wpo_nil ?_
    refine awp_seq ?_
    refine awp_if H18 rfl (fun H20 => ?_) (fun H20 => ?_)
    · refine awp_skip ?_
      refine awp_seq ?_
      refine awp_block ?_
      refine awp_seq ?_
      refine awp_region rfl ?_
      refine wpo_bd H20 (fun y => .fptr (eI y).cells 0) rfl rfl rfl (fun v22 hv => o_ixa tk hv td51 (enc_i64 td3 sz3) rfl rfl) fun v22 hv22 H21 => ?_
      refine wpo_mv (a := (eI v22)) rfl rfl rfl (o_ld_e tk (enc_i64 td3 sz3) rfl rfl) ?_
      refine wpo_mv (a := (eI v22)) rfl rfl rfl (o_as tk rfl (Wk.refl _)) ?_
      refine wpo_nil ?_
      refine awp_seq ?_
      refine awp_region rfl ?_
      refine wpo_mv (a := (eI (0 : Int))) rfl rfl rfl (o_as tk rfl (Wk.refl _)) ?_
      refine wpo_nil ?_
      refine awp_seq ?_
      refine awp_block ?_
      obtain ⟨s31, hs25, hj26⟩ := Option.bind_eq_some_iff.1 H21
      refine awp_cutx 2 (fun fr τ => ∃ tk_5, WkF fr (fm [(5, (eT tk_5 1 (@eU .u8 8) c7)), (7, (eI v22)), (8, (eI s31)), (12, ((eL 1 eI) x1)), (13, (eI v6)), (14, (eI c8))]) ∧ Holds σ [] [tk_5] τ) ?_ ?_
      · rintro fr τ ⟨tk_5, hfr, hH⟩
        have H42 := hj26
        refine AWP.fm [(5, (eT tk_5 1 (@eU .u8 8) c7)), (7, (eI v22)), (8, (eI s31)), (12, ((eL 1 eI) x1)), (13, (eI v6)), (14, (eI c8))] hfr ?_
        refine awp_seq ?_
        refine awp_block ?_
        obtain ⟨s52, hs46, hj47⟩ := Option.bind_eq_some_iff.1 H42
        refine awp_cutx 4 (fun fr τ => ∃ tk_5, WkF fr (fm [(5, (eT tk_5 1 (@eU .u8 8) s52)), (7, (eI v22)), (12, ((eL 1 eI) x1)), (13, (eI v6)), (14, (eI c8))]) ∧ Holds σ [] [tk_5] τ) ?_ ?_
        · rintro fr τ ⟨tk_5, hfr, hH⟩
          have H73 := hj47
          refine AWP.fm [(5, (eT tk_5 1 (@eU .u8 8) s52)), (7, (eI v22)), (12, ((eL 1 eI) x1)), (13, (eI v6)), (14, (eI c8))] hfr ?_
          refine awp_region rfl ?_
          refine wpo_mv (a := (eT tk_5 1 (@eU .u8 8) s52)) rfl rfl rfl (o_mv tk rfl (Wk.refl _)) ?_
          refine wpo_mv (a := (eI v22)) rfl rfl rfl (o_mv tk rfl (Wk.refl _)) ?_
          refine wpo_lt H73 (@eU .u8 8) rfl rfl rfl (o_cv_iu tk td3 td5 rfl rfl) fun v75 H74 => ?_
          refine wpo_lt H74 (@eU .u8 8) rfl rfl rfl (o_and_u tk rfl rfl rfl) fun v77 H76 => ?_
          refine wpo_lt H76 (eF 1 (@eU .u8 8)) rfl rfl rfl (o_c tk false rfl (fun _ => rfl)) fun v79 H78 => ?_
          obtain ⟨v81, hv82, H80⟩ := Option.bind_eq_some_iff.1 H78
          refine wpo_a (av := fun t => eT t 1 (@eU .u8 8) v81) rfl rfl rfl (h_app tk hH 0 hv82 rfl td22 ty5 rfl (by decide) rfl (src_l td22 rfl)) fun tk83 τ hH => ?_
          refine wpo_mv (a := (eT tk83 1 (@eU .u8 8) v81)) rfl rfl rfl (o_as tk rfl (Wk.refl _)) ?_
          refine wpo_nil ?_
          refine awp_region rfl ?_
          refine wpo_lt H80 eI rfl rfl rfl (o_ar tk rfl rfl rfl) fun v85 H84 => ?_
          refine wpo_mv (a := (eI v85)) rfl rfl rfl (o_mv tk rfl (Wk.refl _)) ?_
          refine wpo_nil ?_
          exact ⟨(v81, v85), inj_inl H84, tk83, (wkf_cons (.of_eq rfl) (wkf_cons (.of_eq rfl) (wkf_cons (.of_eq rfl) (wkf_cons (.of_eq rfl) (wkf_nil _))))), hH⟩
        · refine awp_loopO (body := fun s => octets_Put_b2 x1 v6 c8 v22 s.1 s.2) hs46 (fun (s : (List (BitVec 8)) × Int) fr τ => ∃ tk_5, WkF fr (fm [(5, (eT tk_5 1 (@eU .u8 8) s.1)), (7, (eI v22)), (8, (eI s.2)), (12, ((eL 1 eI) x1)), (13, (eI v6)), (14, (eI c8))]) ∧ Holds σ [] [tk_5] τ) ⟨tk_5, (wkf_cons (.of_eq rfl) (wkf_cons (.of_eq rfl) (wkf_cons (.of_eq rfl) (wkf_cons (.of_eq rfl) (wkf_cons (.of_eq rfl) (wkf_cons (.of_eq rfl) (wkf_nil _))))))), hH⟩ ?_
          rintro ⟨c43, c44⟩ fr τ y48 ⟨tk_5, hfr, hH⟩ hb50 hy51
          have H53 : octets_Put_b2 x1 v6 c8 v22 c43 c44 = some y48 := hb50
          unfold octets_Put_b2 at H53
          refine AWP.fm [(5, (eT tk_5 1 (@eU .u8 8) c43)), (7, (eI v22)), (8, (eI c44)), (12, ((eL 1 eI) x1)), (13, (eI v6)), (14, (eI c8))] hfr ?_
          have hH : Holds σ [] [tk_5] τ := hH
          refine awp_seq ?_
          refine awp_seq ?_
          refine awp_region rfl ?_
          refine wpo_mv (a := (eI c44)) rfl rfl rfl (o_mv tk rfl (Wk.refl _)) ?_
          refine wpo_lt H53 eB rfl rfl rfl (o_ar tk rfl rfl rfl) fun v55 H54 => ?_
          refine wpo_nil ?_
          refine awp_if H54 rfl (fun H56 => ?_) (fun H56 => ?_)
          · refine awp_skip ?_
            refine awp_seq ?_
            refine awp_block ?_
            refine awp_region rfl ?_
            refine wpo_mv (a := (eT tk_5 1 (@eU .u8 8) c43)) rfl rfl rfl (o_mv tk rfl (Wk.refl _)) ?_
            refine wpo_mv (a := (eI v22)) rfl rfl rfl (o_mv tk rfl (Wk.refl _)) ?_
            refine wpo_mv (a := (eI c44)) rfl rfl rfl (o_mv tk rfl (Wk.refl _)) ?_
            refine wpo_lt H56 eI rfl rfl rfl (o_ar tk rfl rfl rfl) fun v58 H57 => ?_
            refine wpo_bd H57 eI rfl rfl rfl (fun v60 hv => om_shr tk hv rfl rfl) fun v60 hv60 H59 => ?_
            refine wpo_lt H59 (@eU .u8 8) rfl rfl rfl (o_cv_iu tk td3 td5 rfl rfl) fun v62 H61 => ?_
            refine wpo_lt H61 (@eU .u8 8) rfl rfl rfl (o_or_u tk rfl rfl rfl) fun v64 H63 => ?_
            refine wpo_lt H63 (eF 1 (@eU .u8 8)) rfl rfl rfl (o_c tk false rfl (fun _ => rfl)) fun v66 H65 => ?_
            obtain ⟨v68, hv69, H67⟩ := Option.bind_eq_some_iff.1 H65
            refine wpo_a (av := fun t => eT t 1 (@eU .u8 8) v68) rfl rfl rfl (h_app tk hH 0 hv69 rfl td22 ty5 rfl (by decide) rfl (src_l td22 rfl)) fun tk70 τ hH => ?_
            refine wpo_mv (a := (eT tk70 1 (@eU .u8 8) v68)) rfl rfl rfl (o_as tk rfl (Wk.refl _)) ?_
            refine wpo_nil ?_
            refine awp_region rfl ?_
            refine wpo_mv (a := (eI c44)) rfl rfl rfl (o_mv tk rfl (Wk.refl _)) ?_
            refine wpo_lt H67 eI rfl rfl rfl (o_ar tk rfl rfl rfl) fun v72 H71 => ?_
            refine wpo_mv (a := (eI v72)) rfl rfl rfl (o_as tk rfl (Wk.refl _)) ?_
            refine wpo_nil ?_
            exact ⟨(v68, v72), inj_inl H71, tk70, (wkf_cons (.of_eq rfl) (wkf_cons (.of_eq rfl) (wkf_cons (.of_eq rfl) (wkf_cons (.of_eq rfl) (wkf_cons (.of_eq rfl) (wkf_cons (.of_eq rfl) (wkf_nil _))))))), hH⟩
          · refine awp_exit ?_
            have hz := hy51 _ (inj_inr H56)
            subst hz
            exact ⟨⟨_, inj_inr H56⟩, tk_5, (wkf_cons (.of_eq rfl) (wkf_cons (.of_eq rfl) (wkf_cons (.of_eq rfl) (wkf_cons (.of_eq rfl) (wkf_cons (.of_eq rfl) (wkf_nil _)))))), hH⟩
      · refine awp_loopO (body := fun s => octets_Put_b1 x1 v6 c7 c8 v22 s) hs25 (fun (s : Int) fr τ => ∃ tk_5, WkF fr (fm [(5, (eT tk_5 1 (@eU .u8 8) c7)), (7, (eI v22)), (8, (eI s)), (12, ((eL 1 eI) x1)), (13, (eI v6)), (14, (eI c8))]) ∧ Holds σ [] [tk_5] τ) ⟨tk_5, (wkf_cons (.of_eq rfl) (wkf_cons (.of_eq rfl) (wkf_cons (.of_eq rfl) (wkf_cons (.of_eq rfl) (wkf_cons (.of_eq rfl) (wkf_cons (.of_eq rfl) (wkf_nil _))))))), hH⟩ ?_
        rintro c23 fr τ y27 ⟨tk_5, hfr, hH⟩ hb29 hy30
        have H32 : octets_Put_b1 x1 v6 c7 c8 v22 c23 = some y27 := hb29
        unfold octets_Put_b1 at H32
        refine AWP.fm [(5, (eT tk_5 1 (@eU .u8 8) c7)), (7, (eI v22)), (8, (eI c23)), (12, ((eL 1 eI) x1)), (13, (eI v6)), (14, (eI c8))] hfr ?_
        have hH : Holds σ [] [tk_5] τ := hH
        refine awp_seq ?_
        refine awp_seq ?_
        refine awp_region rfl ?_
        refine wpo_mv (a := (eI v22)) rfl rfl rfl (o_mv tk rfl (Wk.refl _)) ?_
        refine wpo_mv (a := (eI c23)) rfl rfl rfl (o_mv tk rfl (Wk.refl _)) ?_
        refine wpo_lt H32 eI rfl rfl rfl (o_ar tk rfl rfl rfl) fun v34 H33 => ?_
        refine wpo_bd H33 eI rfl rfl rfl (fun v36 hv => om_shr tk hv rfl rfl) fun v36 hv36 H35 => ?_
        refine wpo_lt H35 eB rfl rfl rfl (o_ar tk rfl rfl rfl) fun v38 H37 => ?_
        refine wpo_nil ?_
        refine awp_if H37 rfl (fun H39 => ?_) (fun H39 => ?_)
        · refine awp_skip ?_
          refine awp_block ?_
          refine awp_region rfl ?_
          refine wpo_mv (a := (eI c23)) rfl rfl rfl (o_mv tk rfl (Wk.refl _)) ?_
          refine wpo_lt H39 eI rfl rfl rfl (o_ar tk rfl rfl rfl) fun v41 H40 => ?_
          refine wpo_mv (a := (eI v41)) rfl rfl rfl (o_as tk rfl (Wk.refl _)) ?_
          refine wpo_nil ?_
          exact ⟨v41, inj_inl H40, tk_5, (wkf_cons (.of_eq rfl) (wkf_cons (.of_eq rfl) (wkf_cons (.of_eq rfl) (wkf_cons (.of_eq rfl) (wkf_cons (.of_eq rfl) (wkf_cons (.of_eq rfl) (wkf_nil _))))))), hH⟩
        · refine awp_exit ?_
          have hz := hy30 _ (inj_inr H39)
          subst hz
          exact ⟨⟨_, inj_inr H39⟩, tk_5, (wkf_cons (.of_eq rfl) (wkf_cons (.of_eq rfl) (wkf_cons (.of_eq rfl) (wkf_cons (.of_eq rfl) (wkf_cons (.of_eq rfl) (wkf_cons (.of_eq rfl) (wkf_nil _))))))), hH⟩
    · refine awp_exit ?_
      have hz := hy15 _ (inj_inr H20)
      subst hz
      exact ⟨⟨_, inj_inr H20⟩, tk_5, (wkf_cons (.of_eq rfl) (wkf_nil _)), hH⟩
theorem octets_Put_ok {x0 : List (BitVec 8)} {x1 : List Int} {r : (List (BitVec 8))} (H : octets_Put x0 x1 = some r) (σ : St) : ACall Tryd.prog 60 [((eL 1 (@eU .u8 8)) x0), ((eL 1 eI) x1)] σ (fun a τ => a = (eL 1 (@eU .u8 8)) r ∧ τ = σ) := (octets_Put_app H σ).unapp (fun ρ κ => cutL_enc (enc_u td5 sz5).cut ρ κ r)
end Go.Proofs.YtkmlinaofbcbaaaDoor
namespace Go.Proofs.YtkmlinaofbcbaaaDoor
open Go Go.Va
set_option linter.unusedVariables false
set_option linter.unusedSimpArgs false
set_option maxRecDepth 20000
theorem octets_Bytes_app {x0 : List (BitVec 8)} {x1 : List (BitVec 8)} {r : (List (BitVec 8))} (H : octets_Bytes x0 x1 = some r) (σ : St)  : ACall Tryd.prog 62 [((eL 1 (@eU .u8 8)) x0), ((eL 1 (@eU .u8 8)) x1)] σ (fun a τ => a = .sl (.own σ.opn.length) 1 (r.map (@eU .u8 8)) ∧ τ = σ.more) := by
  unfold octets_Bytes at H
  refine ACall.app (fun ρ κ => cutL_enc (enc_u td5 sz5).cut ρ κ r) (acall_start tk Tryd.func62 (by decide) rfl (Nat.le_of_ble_eq_true rfl) ?_)
  have hH := Holds.init σ
  refine awp_seq ?_
  refine awp_region rfl ?_
  refine wpo_mv (a := AV.nils) rfl rfl rfl (o_as tk rfl (Wk.refl _)) ?_
  refine wpo_nil ?_
  refine awp_seq ?_
  refine awp_region rfl ?_
  refine wpo_mv (a := ((eL 1 (@eU .u8 8)) x0)) rfl rfl rfl (o_mv tk rfl (Wk.refl _)) ?_
  refine wpo_mv (a := ((eL 1 (@eU .u8 8)) x1)) rfl rfl rfl (o_mv tk rfl (Wk.refl _)) ?_
  refine wpo_lt H eI rfl rfl rfl (o_len tk td22 rfl) fun v2 H1 => ?_
  refine wpo_lt H1 (eF 1 eI) rfl rfl rfl (o_c tk false rfl (fun _ => rfl)) fun v4 H3 => ?_
  refine wpo_cb H3 (fun x t => eT t 1 (@eU .u8 8) x) rfl rfl rfl (fun v6 hv => h_calla hH rfl rfl (.cons (.of_eq rfl) (.cons wk_no .nil)) (octets_Put_app hv _)) fun v6 tk7 τ hv6 H5 hH => ?_
  refine wpo_mv (a := ((eL 1 (@eU .u8 8)) x1)) rfl rfl rfl (o_mv tk rfl (Wk.refl _)) ?_
  obtain ⟨v9, hv10, H8⟩ := Option.bind_eq_some_iff.1 H5
  refine wpo_a (av := fun t => eT t 1 (@eU .u8 8) v9) rfl rfl rfl (h_app tk hH 0 hv10 rfl td22 ty5 rfl (by decide) rfl (src_l td22 rfl)) fun tk11 τ hH => ?_
  refine wpo_mv (a := (eT tk11 1 (@eU .u8 8) v9)) rfl rfl rfl (o_as tk rfl (Wk.refl _)) ?_
  refine wpo_nil ?_
  refine awp_ret ?_
  obtain rfl := Option.some.inj H8
  exact ⟨_, (eT tk11 1 (@eU .u8 8) v9), rfl, .of_eq rfl, tk11, rfl, hH⟩
theorem octets_Bytes_ok {x0 : List (BitVec 8)} {x1 : List (BitVec 8)} {r : (List (BitVec 8))} (H : octets_Bytes x0 x1 = some r) (σ : St) : ACall Tryd.prog 62 [((eL 1 (@eU .u8 8)) x0), ((eL 1 (@eU .u8 8)) x1)] σ (fun a τ => a = (eL 1 (@eU .u8 8)) r ∧ τ = σ) := (octets_Bytes_app H σ).unapp (fun ρ κ => cutL_enc (enc_u td5 sz5).cut ρ κ r)
end Go.Proofs.YtkmlinaofbcbaaaDoor
namespace Go.Proofs.YtkmlinaofbcbaaaDoor
open Go Go.Va
set_option linter.unusedVariables false
set_option linter.unusedSimpArgs false
set_option maxRecDepth 20000
theorem item_Put_app {x0 : List (BitVec 8)} {x1 : api_Entry} {r : (List (BitVec 8))} (H : item_Put x0 x1 = some r) (σ : St)  : ACall Tryd.prog 103 [((eL 1 (@eU .u8 8)) x0), (e_api_Entry x1)] σ (fun a τ => a = .sl (.own σ.opn.length) 1 (r.map (@eU .u8 8)) ∧ τ = σ.more) := by
  unfold item_Put at H
  refine ACall.app (fun ρ κ => cutL_enc (enc_u td5 sz5).cut ρ κ r) (acall_start tk Tryd.func103 (by decide) rfl (Nat.le_of_ble_eq_true rfl) ?_)
  have hH := Holds.init σ
  refine awp_seq ?_
  refine awp_region rfl ?_
  refine wpo_mv (a := (.fptr (c_api_Entry x1) 0)) rfl rfl rfl (o_boxf tk rfl (.of_eq rfl) (b := (e_api_Entry x1)) (enc24.flat _)) ?_
  refine wpo_mv (a := AV.nils) rfl rfl rfl (o_as tk rfl (Wk.refl _)) ?_
  refine wpo_nil ?_
  refine awp_seq ?_
  refine awp_region rfl ?_
  refine wpo_mv (a := ((eL 1 (@eU .u8 8)) x0)) rfl rfl rfl (o_mv tk rfl (Wk.refl _)) ?_
  refine wpo_mv (a := (.fptr (c_api_Entry x1) 0)) rfl rfl rfl (o_c tk false rfl (fun _ => rfl)) ?_
  refine wpo_mv (a := (eS x1.Key)) rfl rfl rfl (o_ld tk rfl rfl) ?_
  refine wpo_bd H (eL 1 (@eU .u8 8)) rfl rfl rfl (fun v2 hv => o_s2b tk hv td9 td22 td5 rfl) fun v2 hv2 H1 => ?_
  refine wpo_bd H1 (eL 1 (@eU .u8 8)) rfl rfl rfl (fun v4 hv => OpP.of_call rfl rfl (.cons (.of_eq rfl) (.cons (.of_eq rfl) .nil)) (octets_Bytes_ok hv)) fun v4 hv4 H3 => ?_
  refine wpo_mv (a := ((eL 1 (@eU .u8 8)) v4)) rfl rfl rfl (o_as tk rfl (Wk.refl _)) ?_
  refine wpo_nil ?_
  refine awp_seq ?_
  refine awp_drawS mixed [11] rfl (by decide +kernel) rfl rfl ?_
  refine wpdS_mv (a := ((eL 1 (@eU .u8 8)) v4)) rfl rfl rfl (o_mv tk rfl (Wk.refl _)) ?_
  refine wpdS_mv (a := (.fptr (c_api_Entry x1) 1)) rfl rfl rfl (o_c tk false rfl (fun _ => rfl)) ?_
  refine wpdS_mv (a := (eI x1.Version)) rfl rfl rfl (o_ld tk rfl rfl) ?_
  refine wpdS_mv (a := (.fptr (c_api_Entry x1) 2)) rfl rfl rfl (o_c tk false rfl (fun _ => rfl)) ?_
  refine wpdS_mv (a := (eI x1.AsOf)) rfl rfl rfl (o_ld tk rfl rfl) ?_
  refine wpdS_mv (a := (.fptr (c_api_Entry x1) 3)) rfl rfl rfl (o_c tk false rfl (fun _ => rfl)) ?_
  refine wpdS_mv (a := (eI x1.Ends)) rfl rfl rfl (o_ld tk rfl rfl) ?_
  refine wpdS_lt H3 (eF 1 eI) rfl rfl rfl (o_c tk false rfl (fun _ => rfl)) fun v6 H5 => ?_
  refine wpdS_bd H5 (eL 1 (@eU .u8 8)) rfl rfl rfl (fun v8 hv => OpP.of_call rfl rfl (.cons (.of_eq rfl) (.cons wk_no .nil)) (octets_Put_ok hv)) fun v8 hv8 H7 => ?_
  refine wpdS_mv (a := (.fptr (c_api_Entry x1) 4)) rfl rfl rfl (o_c tk false rfl (fun _ => rfl)) ?_
  refine wpdS_mv (a := ((eL 1 (@eU .u8 8)) x1.Value)) rfl rfl rfl (o_ld tk rfl rfl) ?_
  refine wpdS_cb H7 (fun x t => eT t 1 (@eU .u8 8) x) rfl rfl rfl (fun v10 hv => h_calla hH rfl rfl (.cons (.of_eq rfl) (.cons (.of_eq rfl) .nil)) (octets_Bytes_app hv _)) fun v10 tk11 τ hv10 H9 hH => ?_
  refine wpdS_mv (a := (eT tk11 1 (@eU .u8 8) v10)) rfl rfl rfl (o_as tk rfl (Wk.refl _)) ?_
  refine wpdS_nil ?_
  refine awp_ret ?_
  obtain rfl := Option.some.inj H9
  exact ⟨_, (eT tk11 1 (@eU .u8 8) v10), rfl, .of_eq rfl, tk11, rfl, hH⟩
theorem item_Put_ok {x0 : List (BitVec 8)} {x1 : api_Entry} {r : (List (BitVec 8))} (H : item_Put x0 x1 = some r) (σ : St) : ACall Tryd.prog 103 [((eL 1 (@eU .u8 8)) x0), (e_api_Entry x1)] σ (fun a τ => a = (eL 1 (@eU .u8 8)) r ∧ τ = σ) := (item_Put_app H σ).unapp (fun ρ κ => cutL_enc (enc_u td5 sz5).cut ρ κ r)
end Go.Proofs.YtkmlinaofbcbaaaDoor
namespace Go.Proofs.YtkmlinaofbcbaaaDoor
open Go Go.Va
set_option linter.unusedVariables false
set_option linter.unusedSimpArgs false
set_option maxRecDepth 20000
theorem item_All_app {x0 : List api_Entry} {r : (List (BitVec 8))} (H : item_All x0 = some r) (σ : St)  : ACall Tryd.prog 43 [((eL 5 e_api_Entry) x0)] σ (fun a τ => a = .sl (.own σ.opn.length) 1 (r.map (@eU .u8 8)) ∧ τ = σ.more) := by
  unfold item_All at H
  refine ACall.app (fun ρ κ => cutL_enc (enc_u td5 sz5).cut ρ κ r) (acall_start tk Tryd.func43 (by decide) rfl (Nat.le_of_ble_eq_true rfl) ?_)
  have hH := Holds.init σ
  refine awp_seq ?_
  refine awp_region rfl ?_
  refine wpo_mv (a := AV.nils) rfl rfl rfl (o_as tk rfl (Wk.refl _)) ?_
  refine wpo_nil ?_
  refine awp_seq ?_
  refine awp_region rfl ?_
  refine wpo_mv (a := AV.nils) rfl rfl rfl (o_as tk rfl (Wk.refl _)) ?_
  refine wpo_nil ?_
  refine awp_seq ?_
  refine awp_seq ?_
  refine awp_region rfl ?_
  refine wpo_mv (a := ((eL 5 e_api_Entry) x0)) rfl rfl rfl (o_mv tk rfl (Wk.refl _)) ?_
  refine wpo_lt H eI rfl rfl rfl (o_len tk td60 rfl) fun v2 H1 => ?_
  refine wpo_mv (a := (eI (0 : Int))) rfl rfl rfl (o_mv tk rfl (Wk.refl _)) ?_
  refine wpo_nil ?_
  refine awp_block ?_
  refine AWP.tokN hH 3 1 rfl fun tk5 τ hH => ?_
  obtain ⟨s13, hs7, hj8⟩ := Option.bind_eq_some_iff.1 H1
  refine awp_cutx 0 (fun fr τ => ∃ tk_3, WkF fr (fm [(3, (eT tk_3 1 (@eU .u8 8) s13))]) ∧ Holds σ [] [tk_3] τ) ?_ ?_
  · rintro fr τ ⟨tk_3, hfr, hH⟩
    have H28 := hj8
    refine AWP.fm [(3, (eT tk_3 1 (@eU .u8 8) s13))] hfr ?_
    refine awp_seq ?_
    refine awp_region rfl ?_
    refine wpo_mv (a := (eT tk_3 1 (@eU .u8 8) s13)) rfl rfl rfl (o_mv tk rfl (Wk.refl _)) ?_
    refine wpo_mv (a := (eT tk_3 1 (@eU .u8 8) s13)) rfl rfl rfl (o_as tk rfl (Wk.refl _)) ?_
    refine wpo_nil ?_
    refine awp_ret ?_
    obtain rfl := Option.some.inj H28
    exact ⟨_, (eT tk_3 1 (@eU .u8 8) s13), rfl, .of_eq rfl, tk_3, rfl, hH⟩
  · refine awp_loopO (body := fun s => item_All_b0 x0 v2 s.1 s.2) hs7 (fun (s : (List (BitVec 8)) × Int) fr τ => ∃ tk_3, WkF fr (fm [(3, (eT tk_3 1 (@eU .u8 8) s.1)), (6, ((eL 5 e_api_Entry) x0)), (7, (eI v2)), (8, (eI s.2))]) ∧ Holds σ [] [tk_3] τ) ⟨tk5, (wkf_cons (.of_eq rfl) (wkf_cons (.of_eq rfl) (wkf_cons (.of_eq rfl) (wkf_cons (.of_eq rfl) (wkf_nil _))))), hH⟩ ?_
    rintro ⟨c3, c4⟩ fr τ y9 ⟨tk_3, hfr, hH⟩ hb11 hy12
    have H14 : item_All_b0 x0 v2 c3 c4 = some y9 := hb11
    unfold item_All_b0 at H14
    refine AWP.fm [(3, (eT tk_3 1 (@eU .u8 8) c3)), (6, ((eL 5 e_api_Entry) x0)), (7, (eI v2)), (8, (eI c4))] hfr ?_
    have hH : Holds σ [] [tk_3] τ := hH
    refine awp_seq ?_
    refine awp_region rfl ?_
    refine wpo_lt H14 eB rfl rfl rfl (o_ar tk rfl rfl rfl) fun v16 H15 => ?_
    refine wpo_nil ?_
    refine awp_seq ?_
    refine awp_if H15 rfl (fun H17 => ?_) (fun H17 => ?_)
    · refine awp_skip ?_
      refine awp_seq ?_
      refine awp_block ?_
      refine awp_seq ?_
      refine awp_region rfl ?_
      refine wpo_bd H17 (fun y => .fptr (e_api_Entry y).cells 0) rfl rfl rfl (fun v19 hv => o_ixa tk hv td60 enc24 rfl rfl) fun v19 hv19 H18 => ?_
      refine wpo_mv (a := (e_api_Entry v19)) rfl rfl rfl (o_ld_e tk enc24 rfl rfl) ?_
      refine wpo_a (av := fun id => .ref id 0) rfl rfl rfl (h_alloc tk hH ty24 [(eS z_api_Entry.Key), (eI z_api_Entry.Version), (eI z_api_Entry.AsOf), (eI z_api_Entry.Ends), AV.nils] rfl) fun id20 τ ⟨hH, n21⟩ => ?_
      refine wpo_z rfl rfl (h_st tk hH 0 rfl ty24 (by simp) rfl rfl (.of_eq rfl) (b := (e_api_Entry v19)) (enc24.flat _) rfl (Nat.le_of_ble_eq_true rfl) (c_api_Entry (v19 : api_Entry)) rfl) fun τ hH => ?_
      refine wpo_nil ?_
      refine awp_region rfl ?_
      refine wpo_mv (a := (eT tk_3 1 (@eU .u8 8) c3)) rfl rfl rfl (o_mv tk rfl (Wk.refl _)) ?_
      refine wpo_rd (a := (e_api_Entry (v19 : api_Entry))) rfl rfl rfl (h_ld tk hH 0 rfl rfl rfl) ?_
      refine wpo_cb H18 (fun x t => eT t 1 (@eU .u8 8) x) rfl rfl rfl (fun v24 hv => h_calla hH rfl rfl (.cons wk_no (.cons (.of_eq rfl) .nil)) (item_Put_app hv _)) fun v24 tk25 τ hv24 H23 hH => ?_
      refine wpo_mv (a := (eT tk25 1 (@eU .u8 8) v24)) rfl rfl rfl (o_as tk rfl (Wk.refl _)) ?_
      refine wpo_nil ?_
      refine awp_region rfl ?_
      refine wpo_lt H23 eI rfl rfl rfl (o_ar tk rfl rfl rfl) fun v27 H26 => ?_
      refine wpo_mv (a := (eI v27)) rfl rfl rfl (o_mv tk rfl (Wk.refl _)) ?_
      refine wpo_nil ?_
      exact ⟨(v24, v27), inj_inl H26, tk25, (wkf_cons (.of_eq rfl) (wkf_cons (.of_eq rfl) (wkf_cons (.of_eq rfl) (wkf_cons (.of_eq rfl) (wkf_nil _))))), ((hH.drop n21).sub (.cons_cons _ (.cons _ .slnil)))⟩
    · refine awp_exit ?_
      have hz := hy12 _ (inj_inr H17)
      subst hz
      exact ⟨⟨_, inj_inr H17⟩, tk_3, (wkf_cons (.of_eq rfl) (wkf_nil _)), hH⟩
theorem item_All_ok {x0 : List api_Entry} {r : (List (BitVec 8))} (H : item_All x0 = some r) (σ : St) : ACall Tryd.prog 43 [((eL 5 e_api_Entry) x0)] σ (fun a τ => a = (eL 1 (@eU .u8 8)) r ∧ τ = σ) := (item_All_app H σ).unapp (fun ρ κ => cutL_enc (enc_u td5 sz5).cut ρ κ r)
end Go.Proofs.YtkmlinaofbcbaaaDoor
namespace Go.Proofs.YtkmlinaofbcbaaaDoor
open Go Go.Va
set_option linter.unusedVariables false
set_option linter.unusedSimpArgs false
set_option maxRecDepth 20000
theorem item_Copy_ok {x0 : api_Entry} {r : api_Entry} (H : item_Copy x0 = some r) (σ : St)  : ACall Tryd.prog 104 [(e_api_Entry x0)] σ (fun a τ => a = e_api_Entry r ∧ τ = σ) := by
  unfold item_Copy at H
  refine ACall.pure (acall_start tk Tryd.func104 (by decide) rfl (Nat.le_of_ble_eq_true rfl) ?_)
  have hH := Holds.init σ
  refine awp_seq ?_
  refine awp_region rfl ?_
  refine wpo_a (av := fun id => .ref id 0) rfl rfl rfl (h_box tk hH rfl (.of_eq rfl) (b := (e_api_Entry x0)) (enc24.flat _) (c_api_Entry x0) rfl) fun id1 τ ⟨hH, n2⟩ => ?_
  refine wpo_a (av := fun id => .ref id 0) rfl rfl rfl (h_alloc tk hH ty24 [(eS z_api_Entry.Key), (eI z_api_Entry.Version), (eI z_api_Entry.AsOf), (eI z_api_Entry.Ends), AV.nils] rfl) fun id3 τ ⟨hH, n4⟩ => ?_
  refine wpo_nil ?_
  refine awp_seq ?_
  refine awp_region rfl ?_
  refine wpo_mv (a := (eF 1 (@eU .u8 8) ([] : List (BitVec 8)))) rfl rfl rfl (o_c tk false rfl (fun _ => rfl)) ?_
  refine wpo_mv (a := (.ref id1 4)) rfl rfl rfl (o_c tk false rfl (fun _ => rfl)) ?_
  refine wpo_rd (a := ((eL 1 (@eU .u8 8)) x0.Value)) rfl rfl rfl (h_ld tk hH 1 rfl rfl rfl) ?_
  obtain ⟨v6, hv7, H5⟩ := Option.bind_eq_some_iff.1 H
  refine wpo_a (av := fun t => eT t 1 (@eU .u8 8) v6) rfl rfl rfl (h_app0 tk hH hv7 td22 ty5 rfl (by decide) (.inr rfl) (src_l td22 rfl)) fun tk8 τ hH => ?_
  refine wpo_mv (a := (.ref id1 4)) rfl rfl rfl (o_c tk false rfl (fun _ => rfl)) ?_
  obtain ⟨c10, hc11, H9⟩ := lt_ex H5
  refine wpo_z rfl rfl (h_st (y := (eT tk8 1 (@eU .u8 8) v6)) tk hH 1 rfl ty22 (by simp) rfl rfl wk_no (b := ((eL 1 (@eU .u8 8)) v6)) rfl rfl (Nat.le_of_ble_eq_true rfl) (c_api_Entry c10) (by rw [← hc11]; rfl)) fun τ hH => ?_
  refine wpo_nil ?_
  refine awp_seq ?_
  refine awp_region rfl ?_
  refine wpo_rd (a := (e_api_Entry c10)) rfl rfl rfl (h_ld tk hH 1 rfl rfl rfl) ?_
  refine wpo_z rfl rfl (h_st tk hH 0 rfl ty24 (by simp) rfl rfl (.of_eq rfl) (b := (e_api_Entry c10)) (enc24.flat _) rfl (Nat.le_of_ble_eq_true rfl) (c_api_Entry (c10 : api_Entry)) rfl) fun τ hH => ?_
  refine wpo_nil ?_
  refine awp_ret ?_
  obtain rfl := Option.some.inj H9
  exact ⟨_, (e_api_Entry (c10 : api_Entry)), (ares_1 (ares_cell hH 0 rfl rfl rfl)), (.of_eq rfl), .of_eq (enc24.cut _ _ _), ((hH.noT.drop n4).drop n2)⟩
end Go.Proofs.YtkmlinaofbcbaaaDoor
namespace Go.Proofs.YtkmlinaofbcbaaaDoor
open Go Go.Va
set_option linter.unusedVariables false
set_option linter.unusedSimpArgs false
set_option maxRecDepth 20000
theorem slices_Clone_api_Entry_api_Entry_ok {x0 : List api_Entry} {r : (List api_Entry)} (H : slices_Clone_api_Entry_api_Entry x0 = some r) (σ : St)  : ACall Tryd.prog 105 [((eL 5 e_api_Entry) x0)] σ (fun a τ => a = (eL 5 e_api_Entry) r ∧ τ = σ) := by
  unfold slices_Clone_api_Entry_api_Entry at H
  refine ACall.pure (acall_start tk Tryd.func105 (by decide) rfl (Nat.le_of_ble_eq_true rfl) ?_)
  have hH := Holds.init σ
  refine awp_seq ?_
  refine awp_region rfl ?_
  refine wpo_mv (a := AV.nils) rfl rfl rfl (o_as tk rfl (Wk.refl _)) ?_
  refine wpo_nil ?_
  refine awp_seq ?_
  refine awp_seq ?_
  refine awp_region rfl ?_
  refine wpo_mv (a := ((eL 5 e_api_Entry) x0)) rfl rfl rfl (o_mv tk rfl (Wk.refl _)) ?_
  refine wpo_nilq rfl rfl rfl (o_nilq tk td60 rfl rfl) fun b1 hb2 => ?_
  refine wpo_nil ?_
  refine awp_nilif (b := b1) rfl (fun hb2_ => ?_) ?_
  · have hx4 := List.map_eq_nil_iff.1 (hb2 hb2_)
    have H3 : (some []) = some _ := Eq.trans (by simp [hx4, app]) H
    refine awp_seq ?_
    refine awp_region rfl ?_
    refine wpo_mv (a := AV.nils) rfl rfl rfl (o_as tk rfl (Wk.refl _)) ?_
    refine wpo_nil ?_
    refine awp_ret ?_
    obtain rfl := Option.some.inj H3
    exact ⟨_, ((eL 5 e_api_Entry) []), rfl, (wk_nils _), .of_eq ((enc_l td60 sz60 enc24.cut).cut _ _ _), hH.noT⟩
  · refine awp_skip ?_
    refine awp_seq ?_
    refine awp_region rfl ?_
    refine wpo_mv (a := (eF 5 e_api_Entry ([] : List api_Entry))) rfl rfl rfl (o_c tk false rfl (fun _ => rfl)) ?_
    refine wpo_mv (a := ((eL 5 e_api_Entry) x0)) rfl rfl rfl (o_mv tk rfl (Wk.refl _)) ?_
    obtain ⟨v6, hv7, H5⟩ := Option.bind_eq_some_iff.1 H
    refine wpo_a (av := fun t => eT t 5 e_api_Entry v6) rfl rfl rfl (h_app0 tk hH hv7 td60 ty24 rfl (by decide) (.inr rfl) (src_l td60 rfl)) fun tk8 τ hH => ?_
    refine wpo_mv (a := (eT tk8 5 e_api_Entry v6)) rfl rfl rfl (o_as tk rfl (Wk.refl _)) ?_
    refine wpo_nil ?_
    refine awp_ret ?_
    obtain rfl := Option.some.inj H5
    exact ⟨_, ((eL 5 e_api_Entry) v6), rfl, wk_no, .of_eq ((enc_l td60 sz60 enc24.cut).cut _ _ _), hH.noT⟩
end Go.Proofs.YtkmlinaofbcbaaaDoor
namespace Go.Proofs.YtkmlinaofbcbaaaDoor
open Go Go.Va
set_option linter.unusedVariables false
set_option linter.unusedSimpArgs false
set_option maxRecDepth 20000
theorem slices_Clone_api_Entry_api_EntryV_vec {x0 : List api_Entry} {r : (List api_Entry)} (H : slices_Clone_api_Entry_api_EntryV x0 = some r) (σ : St)  : ACall Tryd.prog 105 [((eL 5 e_api_Entry) x0)] σ (fun a τ => a = .vec σ.objs.length 5 (r).length ∧ τ = ⟨σ.objs ++ [cL e_api_Entry r], σ.opn, σ.gl⟩) := by
  unfold slices_Clone_api_Entry_api_EntryV at H
  refine ACall.vec (fun ρ κ => cut_cL enc24.cut ρ κ r) (acall_start tk Tryd.func105 (by decide) rfl (Nat.le_of_ble_eq_true rfl) ?_)
  have hH := Holds.init σ
  refine awp_seq ?_
  refine awp_region rfl ?_
  refine wpo_mv (a := AV.nils) rfl rfl rfl (o_as tk rfl (Wk.refl _)) ?_
  refine wpo_nil ?_
  refine awp_seq ?_
  refine awp_seq ?_
  refine awp_region rfl ?_
  refine wpo_mv (a := ((eL 5 e_api_Entry) x0)) rfl rfl rfl (o_mv tk rfl (Wk.refl _)) ?_
  refine wpo_nilq rfl rfl rfl (o_nilq tk td60 rfl rfl) fun b1 hb2 => ?_
  refine wpo_nil ?_
  refine awp_nilif (b := b1) rfl (fun hb2_ => ?_) ?_
  · have hx4 := List.map_eq_nil_iff.1 (hb2 hb2_)
    have H3 : (some ([] : List api_Entry)) = some _ := Eq.trans (by simp [hx4, app]) H
    refine awp_seq ?_
    refine awp_region rfl ?_
    refine wpo_mv (a := AV.nils) rfl rfl rfl (o_as tk rfl (Wk.refl _)) ?_
    refine wpo_nil ?_
    refine AWP.vecN hH 2 5 (.inl rfl) fun id5 τ (hH : Holds σ [(id5, (cL e_api_Entry ([] : List api_Entry)))] [] τ) n6 => ?_
    refine awp_ret ?_
    obtain rfl := Option.some.inj H3
    exact ⟨_, .vec id5 5 (([] : List api_Entry)).length, rfl, (.of_eq rfl), id5, rfl, n6, hH.noT⟩
  · refine awp_skip ?_
    refine awp_seq ?_
    refine awp_region rfl ?_
    refine wpo_mv (a := (eF 5 e_api_Entry ([] : List api_Entry))) rfl rfl rfl (o_c tk false rfl (fun _ => rfl)) ?_
    refine wpo_mv (a := ((eL 5 e_api_Entry) x0)) rfl rfl rfl (o_mv tk rfl (Wk.refl _)) ?_
    obtain ⟨v8, hv9, H7⟩ := Option.bind_eq_some_iff.1 H
    refine wpo_a (av := fun b => .vec b 5 (v8).length) rfl rfl rfl (h_appV0 tk hH hv9 enc24 td60 ty24 rfl (by decide) (by simp) (.inr rfl) (srv_l enc24 td60 rfl)) fun id10 τ ⟨hH, n11⟩ => ?_
    refine wpo_mv (a := (.vec id10 5 (v8).length)) rfl rfl rfl (o_as tk rfl (Wk.refl _)) ?_
    refine wpo_nil ?_
    refine awp_ret ?_
    obtain rfl := Option.some.inj H7
    exact ⟨_, .vec id10 5 (v8).length, rfl, (.of_eq rfl), id10, rfl, n11, hH.noT⟩
end Go.Proofs.YtkmlinaofbcbaaaDoor
namespace Go.Proofs.YtkmlinaofbcbaaaDoor
open Go Go.Va
set_option linter.unusedVariables false
set_option linter.unusedSimpArgs false
set_option maxRecDepth 20000
theorem slices_Delete_api_Entry_api_Entry_ok {x0 : List api_Entry} {x1 x2 : Int} {r : List api_Entry} (H : slices_Delete_api_Entry_api_Entry x0 x1 x2 = some r) (σ : St) {p0 : Nat} (h0 : σ.objs[p0]? = some (cL (e_api_Entry) x0)) : ACall Tryd.prog 106 [.vec p0 5 x0.length, (eI x1), (eI x2)] σ (fun a τ => a = .sl (.own σ.opn.length) 5 (r.map (e_api_Entry)) ∧ τ = ⟨σ.objs.set p0 [], σ.opn ++ [true], σ.gl⟩) := by
  have he : Enc ty 24 5 (e_api_Entry) := (enc24)
  obtain ⟨a, b, rfl, rfl, hab, hb, ha, rfl⟩ := delO_some H
  have hlt : p0 < σ.objs.length := (List.getElem?_eq_some_iff.1 h0).1
  have hL := cL_length he.len x0
  have hne : cL (e_api_Entry) x0 ≠ [] := fun h => by rw [h] at hL; simp at hL; omega
  refine ACall.room (by omega) fun c hc => ?_
  refine ACall.freeze (r := x0.take a ++ x0.drop b) (c := c) he (fun _ _ => trivial) ?_
  have hrl : (x0.take a ++ x0.drop b).length = a + (x0.length - b) := by simp; omega
  refine acall_start tk Tryd.func106 (by decide) rfl (Nat.le_of_ble_eq_true rfl) ?_
  repeat (refine awp_seq ?_)
  refine awp_region rfl ?_
  refine wpo_mv (a := AV.nils) rfl rfl rfl (o_as tk rfl (Wk.refl _)) ?_
  refine wpo_nil ?_
  repeat (refine awp_seq ?_)
  refine awp_region rfl ?_
  refine wpo_mv (a := .vc p0 5 0 x0.length c) rfl rfl rfl (o_mv tk rfl (Wk.refl _)) ?_
  refine wpo_mv (a := eI (a : Int)) rfl rfl rfl (o_mv tk rfl (Wk.refl _)) ?_
  refine wpo_mv (a := eI (b : Int)) rfl rfl rfl (o_mv tk rfl (Wk.refl _)) ?_
  refine wpo_mv (a := .vc p0 5 0 x0.length c) rfl rfl rfl (o_mv tk rfl (Wk.refl _)) ?_
  refine wpo_mv (a := eI (x0.length : Int)) rfl rfl rfl (o_vclen tk td60 rfl) ?_
  refine wpo_mv (a := .vc p0 5 (if x0.length = a then 0 else 0 + a * 5) (b - a) (x0.length - a)) rfl rfl rfl (o_vcs tk a b x0.length td60 sz24 (by decide) rfl (abnd_nat _ _) (abnd_nat _ _) (abnd_nat _ _) (fun _ => rfl) hab hb hc) ?_
  refine wpo_nil ?_
  repeat (refine awp_seq ?_)
  refine awp_region rfl ?_
  refine wpo_mv (a := eI (a : Int)) rfl rfl rfl (o_mv tk rfl (Wk.refl _)) ?_
  refine wpo_mv (a := eI (b : Int)) rfl rfl rfl (o_mv tk rfl (Wk.refl _)) ?_
  refine wpo_mv (a := eB ((a : Int) == (b : Int))) rfl rfl rfl (o_ar tk rfl rfl rfl) ?_
  refine wpo_nil ?_
  refine awp_cond (b := ((a : Int) == (b : Int))) rfl (fun hE => ?_) (fun hE => ?_)
  · have hab' : a = b := by simp at hE; omega
    subst hab'
    repeat (refine awp_seq ?_)
    refine awp_region rfl ?_
    refine wpo_mv (a := .vc p0 5 0 x0.length c) rfl rfl rfl (o_mv tk rfl (Wk.refl _)) ?_
    refine wpo_mv (a := .vc p0 5 0 x0.length c) rfl rfl rfl (o_as tk rfl (Wk.refl _)) ?_
    refine wpo_nil ?_
    refine awp_ret ?_
    have e1 : x0.take a ++ x0.drop a = x0 := List.take_append_drop a x0
    refine ⟨_, .vc p0 5 0 x0.length c, rfl, .of_eq rfl, by rw [e1], cL (e_api_Entry) x0, hne, by rw [e1, List.take_of_length_le (by rw [hL]; exact Nat.le_refl _)], hlt, ?_⟩
    obtain ⟨hlt', hg⟩ := List.getElem?_eq_some_iff.1 h0
    rw [← hg, List.set_getElem_self]
  · have hab' : a < b := by simp at hE; omega
    refine awp_skip ?_
    repeat (refine awp_seq ?_)
    refine awp_region rfl ?_
    refine wpo_mv (a := .vc p0 5 0 x0.length c) rfl rfl rfl (o_mv tk rfl (Wk.refl _)) ?_
    refine wpo_mv (a := eI (x0.length : Int)) rfl rfl rfl (o_vclen tk td60 rfl) ?_
    refine wpo_mv (a := eI (x0.length : Int)) rfl rfl rfl (o_as tk rfl (Wk.refl _)) ?_
    refine wpo_nil ?_
    repeat (refine awp_seq ?_)
    refine awp_drawS mixed [6] rfl (by decide +kernel) rfl rfl ?_
    refine wpdS_mv (a := .vc p0 5 0 x0.length c) rfl rfl rfl (o_mv tk rfl (Wk.refl _)) ?_
    refine wpdS_mv (a := eI (a : Int)) rfl rfl rfl (o_mv tk rfl (Wk.refl _)) ?_
    refine wpdS_mv (a := .vc p0 5 0 a c) rfl rfl rfl (o_vcs0 tk a td60 sz24 (by decide) rfl rfl (by omega)) ?_
    refine wpdS_mv (a := .vc p0 5 0 x0.length c) rfl rfl rfl (o_mv tk rfl (Wk.refl _)) ?_
    refine wpdS_mv (a := eI (b : Int)) rfl rfl rfl (o_mv tk rfl (Wk.refl _)) ?_
    refine wpdS_mv (a := .vc p0 5 (if c = b then 0 else 0 + b * 5) (x0.length - b) (c - b)) rfl rfl rfl (o_vcs tk (lo := some _) (hi := none) (mx := none) b x0.length c td60 sz24 (by decide) rfl (abnd_nat _ _) rfl rfl (fun h => by cases h) hb hc (Nat.le_refl _)) ?_
    have hsrc : ∀ v : AV, v = .vc p0 5 (if c = b then 0 else 0 + b * 5) (x0.length - b) (c - b) → srcC ty 60 5 σ v = some (x0.length - b, cL (e_api_Entry) (x0.drop b)) := by
      intro v hv
      rw [hv, srcC_vc td60 h0 (by
        rw [hL]
        split
        · have : x0.length - b = 0 := by omega
          rw [this]; simp
        · have e2 : b * 5 + (x0.length - b) * 5 = x0.length * 5 := by rw [← Nat.add_mul]; congr 1; omega
          omega)]
      congr 2
      split
      · have : x0.length - b = 0 := by omega
        rw [this, Nat.zero_mul, List.take_zero, List.drop_of_length_le (by omega)]; rfl
      · rw [Nat.zero_add, cL_drop he.len, List.take_of_length_le]
        rw [cL_length he.len, List.length_drop]; exact Nat.le_refl _
    refine wpdS_s1 rfl rfl rfl (o_vcapp (off := 0) (m := a) (cap := c) (sz := 5) (k := x0.length - b) tk h0 hne td60 ty24 rfl rfl (hsrc _ rfl) (by omega) (by rw [hL]; have := Nat.mul_le_mul_right 5 (Nat.le_of_lt ha); omega)) ?_
    have e0 : (cL (e_api_Entry) x0).take (0 + a * 5) = cL (e_api_Entry) (x0.take a) := by rw [Nat.zero_add, cL_take he.len]
    have hl1 : (cL (e_api_Entry) (x0.take a) ++ cL (e_api_Entry) (x0.drop b)).length = (a + (x0.length - b)) * 5 := by rw [← cL_append, cL_length he.len, hrl]
    generalize hcs : List.take (0 + a * 5) (cL (e_api_Entry) x0) ++ cL (e_api_Entry) (x0.drop b) ++ List.drop (0 + a * 5 + (cL (e_api_Entry) (x0.drop b)).length) (cL (e_api_Entry) x0) = cs
    have h1 : cs.take ((a + (x0.length - b)) * 5) = cL (e_api_Entry) (x0.take a ++ x0.drop b) := by
      rw [← hcs, e0, ← hl1, List.take_left' rfl, cL_append]
    have h2 : cs.length = x0.length * 5 := by
      rw [← hcs, e0, List.length_append, hl1, List.length_drop, hL, cL_length he.len, List.length_drop]
      have e3 : (a + (x0.length - b)) * 5 = a * 5 + (x0.length - b) * 5 := Nat.add_mul _ _ _
      have e4 : a * 5 + (x0.length - b) * 5 ≤ x0.length * 5 := by rw [← Nat.add_mul]; exact Nat.mul_le_mul_right _ (by omega)
      omega
    have h3 : cs ≠ [] := fun h => by rw [h] at h2; simp at h2; omega
    have h4 : (σ.objs.set p0 cs)[p0]? = some cs := by rw [List.getElem?_set]; simp [hlt]
    refine wpdS_mv (a := .vc p0 5 0 (a + (x0.length - b)) c) rfl rfl rfl (o_as tk rfl (Wk.refl _)) ?_
    refine wpdS_nil ?_
    repeat (refine awp_seq ?_)
    refine awp_region rfl ?_
    refine wpo_mv (a := .vc p0 5 0 (a + (x0.length - b)) c) rfl rfl rfl (o_mv tk rfl (Wk.refl _)) ?_
    refine wpo_mv (a := .vc p0 5 0 (a + (x0.length - b)) c) rfl rfl rfl (o_mv tk rfl (Wk.refl _)) ?_
    refine wpo_mv (a := eI ((a + (x0.length - b) : Nat) : Int)) rfl rfl rfl (o_vclen tk td60 rfl) ?_
    refine wpo_mv (a := eI (x0.length : Int)) rfl rfl rfl (o_mv tk rfl (Wk.refl _)) ?_
    refine wpo_mv (a := .vc p0 5 (if c = a + (x0.length - b) then 0 else 0 + (a + (x0.length - b)) * 5) (x0.length - (a + (x0.length - b))) (c - (a + (x0.length - b)))) rfl rfl rfl (o_vcs tk (lo := some _) (hi := some _) (mx := none) (a + (x0.length - b)) x0.length c td60 sz24 (by decide) rfl (abnd_nat _ _) (abnd_nat _ _) rfl (fun h => by cases h) (by omega) hc (Nat.le_refl _)) ?_
    refine wpo_s0 rfl rfl (o_vcclear tk h4 h3 td60 ty24 rfl rfl (by
      rw [if_neg (by omega), h2]
      have := Nat.mul_le_mul_right 5 (show a + (x0.length - b) ≤ x0.length by omega)
      omega)) ?_
    refine wpo_nil ?_
    repeat (refine awp_seq ?_)
    refine awp_region rfl ?_
    refine wpo_mv (a := .vc p0 5 0 (a + (x0.length - b)) c) rfl rfl rfl (o_mv tk rfl (Wk.refl _)) ?_
    refine wpo_mv (a := .vc p0 5 0 (a + (x0.length - b)) c) rfl rfl rfl (o_as tk rfl (Wk.refl _)) ?_
    refine wpo_nil ?_
    refine awp_ret ?_
    refine ⟨_, .vc p0 5 0 (a + (x0.length - b)) c, rfl, .of_eq rfl, by rw [hrl], _, ?_, ?_, hlt, by rw [List.set_set]⟩
    · intro h
      have h5 := congrArg List.length h
      rw [if_neg (by omega)] at h5
      simp only [List.length_append, List.length_take, List.length_nil] at h5
      rw [h2] at h5
      have h6 : 0 < (List.replicate (x0.length - (a + (x0.length - b))) (AV.agg [.str ⟨#[]⟩, .int .i64 0, .int .i64 0, .int .i64 0, .nils])).length := by rw [List.length_replicate]; omega
      have h7 : (flat (List.replicate (x0.length - (a + (x0.length - b))) (AV.agg [.str ⟨#[]⟩, .int .i64 0, .int .i64 0, .int .i64 0, .nils]))).length = (x0.length - (a + (x0.length - b))) * 5 := by
        rw [flat_length (sz := 5) (fun y hy => by rw [(List.mem_replicate.1 hy).2]; rfl), List.length_replicate]
      have h8 : 0 < (x0.length - (a + (x0.length - b))) * 5 := Nat.mul_pos (by omega) (by decide)
      have h9 : (List.replicate (x0.length - (a + (x0.length - b))) (AV.agg [.str ⟨#[]⟩, .int .i64 0, .int .i64 0, .int .i64 0, .nils])) = (List.replicate (x0.length - (a + (x0.length - b))) (AV.agg [.str ⟨#[]⟩, .int .i64 0, .int .i64 0, .int .i64 0, .nils])) := rfl
      omega
    · rw [if_neg (by omega), Nat.zero_add, hrl, List.append_assoc, List.take_append_of_le_length (by rw [List.length_take, h2]; have := Nat.mul_le_mul_right 5 (show a + (x0.length - b) ≤ x0.length by omega); omega), List.take_take, Nat.min_self, h1]
end Go.Proofs.YtkmlinaofbcbaaaDoor
namespace Go.Proofs.YtkmlinaofbcbaaaDoor
open Go Go.Va
set_option linter.unusedVariables false
set_option linter.unusedSimpArgs false
set_option maxRecDepth 20000
theorem bucket_Remove_app {x0 : List api_Entry} {x1 : List (BitVec 8)} {r : (List api_Entry) × Bool} (H : bucket_Remove x0 x1 = some r) (σ : St)  : ACall Tryd.prog 46 [((eL 5 e_api_Entry) x0), (eS x1)] σ (fun a τ => a = .tup (.sl (.own σ.opn.length) 5 ((r.1).map e_api_Entry) :: [eB r.2]) ∧ τ = σ.more) := by
  unfold bucket_Remove at H
  refine ACall.apps (fun ρ κ => cutL_enc enc24.cut ρ κ r.1) (fun ρ κ => by simp only [cutL, (enc_b td4 sz4).cut ρ κ]) (acall_start tk Tryd.func46 (by decide) rfl (Nat.le_of_ble_eq_true rfl) ?_)
  have hH := Holds.init σ
  refine awp_seq ?_
  refine awp_region rfl ?_
  refine wpo_mv (a := AV.nils) rfl rfl rfl (o_as tk rfl (Wk.refl _)) ?_
  refine wpo_mv (a := (eB false)) rfl rfl rfl (o_as tk rfl (Wk.refl _)) ?_
  refine wpo_nil ?_
  refine awp_seq ?_
  refine awp_region rfl ?_
  refine wpo_mv (a := ((eL 5 e_api_Entry) x0)) rfl rfl rfl (o_mv tk rfl (Wk.refl _)) ?_
  obtain ⟨v2, hv3, H1⟩ := Option.bind_eq_some_iff.1 H
  refine wpo_a (av := fun b => .vec b 5 (v2).length) rfl rfl rfl (h_callv hH (cL e_api_Entry _) rfl rfl (.cons (.of_eq rfl) .nil) (slices_Clone_api_Entry_api_EntryV_vec hv3 _)) fun id4 τ ⟨hH, n5⟩ => ?_
  refine wpo_mv (a := (.vec id4 5 (v2).length)) rfl rfl rfl (o_as tk rfl (Wk.refl _)) ?_
  refine wpo_nil ?_
  refine awp_seq ?_
  refine awp_region rfl ?_
  refine wpo_mv (a := (.vec id4 5 (v2).length)) rfl rfl rfl (o_mv tk rfl (Wk.refl _)) ?_
  refine wpo_mv (a := (eS x1)) rfl rfl rfl (o_mv tk rfl (Wk.refl _)) ?_
  refine wpo_bdr H1 eI rfl rfl rfl (fun v7 hv => OpS.borrow rfl rfl (.cons (.vecl hH 0 rfl rfl enc24 pur_api_Entry) (.cons (.wk (.of_eq rfl) ((fun _ => rfl) _)) .nil)) rfl (bucket_Find_ok hv _)) fun v7 hv7 H6 => ?_
  refine wpo_mv (a := (eI v7)) rfl rfl rfl (o_as tk rfl (Wk.refl _)) ?_
  refine wpo_nil ?_
  refine awp_seq ?_
  refine awp_seq ?_
  refine awp_region rfl ?_
  refine wpo_mv (a := (eI v7)) rfl rfl rfl (o_mv tk rfl (Wk.refl _)) ?_
  refine wpo_lt H6 eB rfl rfl rfl (o_ar tk rfl rfl rfl) fun v9 H8 => ?_
  refine wpo_nil ?_
  refine awp_if H8 rfl (fun H10 => ?_) (fun H10 => ?_)
  · refine awp_seq ?_
    refine AWP.frz hH 0 6 rfl n5 enc24 rfl rfl fun tk11 τ (hH : Holds σ [] [tk11] τ) => ?_
    refine awp_region rfl ?_
    refine wpo_mv (a := (eT tk11 5 e_api_Entry v2)) rfl rfl rfl (o_mv tk rfl (Wk.refl _)) ?_
    refine wpo_mv (a := (eT tk11 5 e_api_Entry v2)) rfl rfl rfl (o_as tk rfl (Wk.refl _)) ?_
    refine wpo_mv (a := (eB false)) rfl rfl rfl (o_as tk rfl (Wk.refl _)) ?_
    refine wpo_nil ?_
    refine awp_ret ?_
    obtain rfl := Option.some.inj H10
    exact ⟨_, (.tup [(eT tk11 5 e_api_Entry v2), (eB false)]), rfl, (wk_tup (.cons (.of_eq rfl) (.cons (.of_eq rfl) .nil))), tk11, rfl, hH⟩
  · refine awp_skip ?_
    refine awp_seq ?_
    refine awp_region rfl ?_
    refine wpo_mv (a := (.vec id4 5 (v2).length)) rfl rfl rfl (o_mv tk rfl (Wk.refl _)) ?_
    refine wpo_mv (a := (eI v7)) rfl rfl rfl (o_mv tk rfl (Wk.refl _)) ?_
    refine wpo_mv (a := (eI v7)) rfl rfl rfl (o_mv tk rfl (Wk.refl _)) ?_
    refine wpo_lt H10 eI rfl rfl rfl (o_ar tk rfl rfl rfl) fun v13 H12 => ?_
    obtain ⟨v15, hv16, H14⟩ := Option.bind_eq_some_iff.1 H12
    refine wpo_a (av := fun t => eT t 5 e_api_Entry v15) rfl rfl rfl (h_calld hH 0 rfl n5 rfl rfl (.cons (.of_eq rfl) (.cons (.of_eq rfl) (.cons (.of_eq rfl) .nil))) (slices_Delete_api_Entry_api_Entry_ok hv16 _ (hH.at_ 0 rfl))) fun tk17 τ (hH : Holds σ [] [tk17] τ) => ?_
    refine wpo_mv (a := (eT tk17 5 e_api_Entry v15)) rfl rfl rfl (o_as tk rfl (Wk.refl _)) ?_
    refine wpo_mv (a := (eB true)) rfl rfl rfl (o_as tk rfl (Wk.refl _)) ?_
    refine wpo_nil ?_
    refine awp_ret ?_
    obtain rfl := Option.some.inj H14
    exact ⟨_, (.tup [(eT tk17 5 e_api_Entry v15), (eB true)]), rfl, (wk_tup (.cons (.of_eq rfl) (.cons (.of_eq rfl) .nil))), tk17, rfl, hH⟩
theorem bucket_Remove_ok {x0 : List api_Entry} {x1 : List (BitVec 8)} {r : (List api_Entry) × Bool} (H : bucket_Remove x0 x1 = some r) (σ : St) : ACall Tryd.prog 46 [((eL 5 e_api_Entry) x0), (eS x1)] σ (fun a τ => a = .tup [(eL 5 e_api_Entry) r.1, eB r.2] ∧ τ = σ) := (bucket_Remove_app H σ).unapps (fun ρ κ => cutL_enc enc24.cut ρ κ r.1) (fun ρ κ => by simp only [cutL, (enc_b td4 sz4).cut ρ κ])
end Go.Proofs.YtkmlinaofbcbaaaDoor
namespace Go.Proofs.YtkmlinaofbcbaaaDoor
open Go Go.Va
set_option linter.unusedVariables false
set_option linter.unusedSimpArgs false
set_option maxRecDepth 20000
theorem octets_Len_n_ok : ∀ (k : Nat) {x0 : Int} {r : Int} (H : octets_Len_n k x0 = some r) (σ : St) , ACall Tryd.prog 128 [(eI x0)] σ (fun a τ => a = eI r ∧ τ = σ) := by
  intro k
  induction k with
  | zero => intro x0 r H; cases H
  | succ k ih =>
    intro x0 r H σ
    replace H : octets_Len_F (octets_Len_n k) x0 = some r := H
    unfold octets_Len_F at H
    refine ACall.pure (acall_start tk Tryd.func128 (by decide) rfl (Nat.le_of_ble_eq_true rfl) ?_)
    have hH := Holds.init σ
    refine awp_seq ?_
    refine awp_region rfl ?_
    refine wpo_mv (a := (eI (0 : Int))) rfl rfl rfl (o_as tk rfl (Wk.refl _)) ?_
    refine wpo_nil ?_
    refine awp_seq ?_
    refine awp_region rfl ?_
    refine wpo_mv (a := (eI (1 : Int))) rfl rfl rfl (o_as tk rfl (Wk.refl _)) ?_
    refine wpo_nil ?_
    refine awp_seq ?_
    refine awp_block ?_
    refine awp_seq ?_
    refine awp_block ?_
    refine awp_seq ?_
    refine awp_block ?_
    refine awp_seq ?_
    refine awp_block ?_
    refine awp_seq ?_
    refine awp_block ?_
    refine awp_seq ?_
    refine awp_block ?_
    refine awp_seq ?_
    refine awp_seq ?_
    refine awp_seq ?_
    refine awp_region rfl ?_
    refine wpo_mv (a := (eI x0)) rfl rfl rfl (o_mv tk rfl (Wk.refl _)) ?_
    refine wpo_lt H eB rfl rfl rfl (o_ar tk rfl rfl rfl) fun v2 H1 => ?_
    refine wpo_mv (a := (eB v2)) rfl rfl rfl (o_as tk rfl (Wk.refl _)) ?_
    refine wpo_nil ?_
    refine awp_if H1 rfl (fun H3 => ?_) (fun H3 => ?_)
    · refine awp_exit ?_
      refine awp_seq ?_
      refine awp_seq ?_
      refine awp_region rfl ?_
      refine wpo_mv (a := (eI x0)) rfl rfl rfl (o_mv tk rfl (Wk.refl _)) ?_
      refine wpo_lt H3 eI rfl rfl rfl (o_shr tk (y := (35 : Int)) rfl rfl rfl) fun v5 H4 => ?_
      refine wpo_bd H4 eI rfl rfl rfl (fun v7 hv => OpP.of_call rfl rfl (.cons (.of_eq rfl) .nil) (ih hv)) fun v7 hv7 H6 => ?_
      refine wpo_lt H6 eI rfl rfl rfl (o_ar tk rfl rfl rfl) fun v9 H8 => ?_
      refine wpo_mv (a := (eI v9)) rfl rfl rfl (o_as tk rfl (Wk.refl _)) ?_
      refine wpo_nil ?_
      refine awp_ret ?_
      obtain rfl := Option.some.inj H8
      exact ⟨_, (eI v9), rfl, (.of_eq rfl), .of_eq ((enc_i64 td3 sz3).cut _ _ _), hH.noT⟩
    · refine awp_skip ?_
      refine awp_seq ?_
      refine awp_seq ?_
      refine awp_region rfl ?_
      refine wpo_mv (a := (eI x0)) rfl rfl rfl (o_mv tk rfl (Wk.refl _)) ?_
      refine wpo_lt H3 eB rfl rfl rfl (o_ar tk rfl rfl rfl) fun v11 H10 => ?_
      refine wpo_mv (a := (eB v11)) rfl rfl rfl (o_as tk rfl (Wk.refl _)) ?_
      refine wpo_nil ?_
      refine awp_if H10 rfl (fun H12 => ?_) (fun H12 => ?_)
      · refine awp_exit ?_
        refine awp_region rfl ?_
        refine wpo_mv (a := (eI (1 : Int))) rfl rfl rfl (o_mv tk rfl (Wk.refl _)) ?_
        refine wpo_lt H12 eI rfl rfl rfl (o_ar tk rfl rfl rfl) fun v14 H13 => ?_
        refine wpo_mv (a := (eI v14)) rfl rfl rfl (o_as tk rfl (Wk.refl _)) ?_
        refine wpo_nil ?_
        refine awp_region rfl ?_
        refine wpo_mv (a := (eI v14)) rfl rfl rfl (o_mv tk rfl (Wk.refl _)) ?_
        refine wpo_lt H13 eI rfl rfl rfl (o_ar tk rfl rfl rfl) fun v16 H15 => ?_
        refine wpo_mv (a := (eI v16)) rfl rfl rfl (o_as tk rfl (Wk.refl _)) ?_
        refine wpo_nil ?_
        refine awp_region rfl ?_
        refine wpo_mv (a := (eI v16)) rfl rfl rfl (o_mv tk rfl (Wk.refl _)) ?_
        refine wpo_lt H15 eI rfl rfl rfl (o_ar tk rfl rfl rfl) fun v18 H17 => ?_
        refine wpo_mv (a := (eI v18)) rfl rfl rfl (o_as tk rfl (Wk.refl _)) ?_
        refine wpo_nil ?_
        refine awp_seq ?_
        refine awp_region rfl ?_
        refine wpo_mv (a := (eI v18)) rfl rfl rfl (o_mv tk rfl (Wk.refl _)) ?_
        refine wpo_lt H17 eI rfl rfl rfl (o_ar tk rfl rfl rfl) fun v20 H19 => ?_
        refine wpo_mv (a := (eI v20)) rfl rfl rfl (o_as tk rfl (Wk.refl _)) ?_
        refine wpo_nil ?_
        refine awp_exit ?_
        refine awp_seq ?_
        refine awp_region rfl ?_
        refine wpo_mv (a := (eI v20)) rfl rfl rfl (o_mv tk rfl (Wk.refl _)) ?_
        refine wpo_mv (a := (eI v20)) rfl rfl rfl (o_as tk rfl (Wk.refl _)) ?_
        refine wpo_nil ?_
        refine awp_ret ?_
        obtain rfl := Option.some.inj H19
        exact ⟨_, (eI v20), rfl, (.of_eq rfl), .of_eq ((enc_i64 td3 sz3).cut _ _ _), hH.noT⟩
      · refine awp_skip ?_
        refine awp_seq ?_
        refine awp_seq ?_
        refine awp_region rfl ?_
        refine wpo_mv (a := (eI x0)) rfl rfl rfl (o_mv tk rfl (Wk.refl _)) ?_
        refine wpo_lt H12 eB rfl rfl rfl (o_ar tk rfl rfl rfl) fun v22 H21 => ?_
        refine wpo_mv (a := (eB v22)) rfl rfl rfl (o_as tk rfl (Wk.refl _)) ?_
        refine wpo_nil ?_
        refine awp_if H21 rfl (fun H23 => ?_) (fun H23 => ?_)
        · refine awp_exit ?_
          refine awp_region rfl ?_
          refine wpo_mv (a := (eI (1 : Int))) rfl rfl rfl (o_mv tk rfl (Wk.refl _)) ?_
          refine wpo_lt H23 eI rfl rfl rfl (o_ar tk rfl rfl rfl) fun v25 H24 => ?_
          refine wpo_mv (a := (eI v25)) rfl rfl rfl (o_as tk rfl (Wk.refl _)) ?_
          refine wpo_nil ?_
          refine awp_region rfl ?_
          refine wpo_mv (a := (eI v25)) rfl rfl rfl (o_mv tk rfl (Wk.refl _)) ?_
          refine wpo_lt H24 eI rfl rfl rfl (o_ar tk rfl rfl rfl) fun v27 H26 => ?_
          refine wpo_mv (a := (eI v27)) rfl rfl rfl (o_as tk rfl (Wk.refl _)) ?_
          refine wpo_nil ?_
          refine awp_seq ?_
          refine awp_region rfl ?_
          refine wpo_mv (a := (eI v27)) rfl rfl rfl (o_mv tk rfl (Wk.refl _)) ?_
          refine wpo_lt H26 eI rfl rfl rfl (o_ar tk rfl rfl rfl) fun v29 H28 => ?_
          refine wpo_mv (a := (eI v29)) rfl rfl rfl (o_as tk rfl (Wk.refl _)) ?_
          refine wpo_nil ?_
          refine awp_exit ?_
          refine awp_seq ?_
          refine awp_region rfl ?_
          refine wpo_mv (a := (eI v29)) rfl rfl rfl (o_mv tk rfl (Wk.refl _)) ?_
          refine wpo_mv (a := (eI v29)) rfl rfl rfl (o_as tk rfl (Wk.refl _)) ?_
          refine wpo_nil ?_
          refine awp_ret ?_
          obtain rfl := Option.some.inj H28
          exact ⟨_, (eI v29), rfl, (.of_eq rfl), .of_eq ((enc_i64 td3 sz3).cut _ _ _), hH.noT⟩
        · refine awp_skip ?_
          refine awp_seq ?_
          refine awp_seq ?_
          refine awp_region rfl ?_
          refine wpo_mv (a := (eI x0)) rfl rfl rfl (o_mv tk rfl (Wk.refl _)) ?_
          refine wpo_lt H23 eB rfl rfl rfl (o_ar tk rfl rfl rfl) fun v31 H30 => ?_
          refine wpo_mv (a := (eB v31)) rfl rfl rfl (o_as tk rfl (Wk.refl _)) ?_
          refine wpo_nil ?_
          refine awp_if H30 rfl (fun H32 => ?_) (fun H32 => ?_)
          · refine awp_exit ?_
            refine awp_region rfl ?_
            refine wpo_mv (a := (eI (1 : Int))) rfl rfl rfl (o_mv tk rfl (Wk.refl _)) ?_
            refine wpo_lt H32 eI rfl rfl rfl (o_ar tk rfl rfl rfl) fun v34 H33 => ?_
            refine wpo_mv (a := (eI v34)) rfl rfl rfl (o_as tk rfl (Wk.refl _)) ?_
            refine wpo_nil ?_
            refine awp_seq ?_
            refine awp_region rfl ?_
            refine wpo_mv (a := (eI v34)) rfl rfl rfl (o_mv tk rfl (Wk.refl _)) ?_
            refine wpo_lt H33 eI rfl rfl rfl (o_ar tk rfl rfl rfl) fun v36 H35 => ?_
            refine wpo_mv (a := (eI v36)) rfl rfl rfl (o_as tk rfl (Wk.refl _)) ?_
            refine wpo_nil ?_
            refine awp_exit ?_
            refine awp_seq ?_
            refine awp_region rfl ?_
            refine wpo_mv (a := (eI v36)) rfl rfl rfl (o_mv tk rfl (Wk.refl _)) ?_
            refine wpo_mv (a := (eI v36)) rfl rfl rfl (o_as tk rfl (Wk.refl _)) ?_
            refine wpo_nil ?_
            refine awp_ret ?_
            obtain rfl := Option.some.inj H35
            exact ⟨_, (eI v36), rfl, (.of_eq rfl), .of_eq ((enc_i64 td3 sz3).cut _ _ _), hH.noT⟩
          · refine awp_skip ?_
            refine awp_seq ?_
            refine awp_region rfl ?_
            refine wpo_mv (a := (eI x0)) rfl rfl rfl (o_mv tk rfl (Wk.refl _)) ?_
            refine wpo_lt H32 eB rfl rfl rfl (o_ar tk rfl rfl rfl) fun v38 H37 => ?_
            refine wpo_mv (a := (eB v38)) rfl rfl rfl (o_as tk rfl (Wk.refl _)) ?_
            refine wpo_nil ?_
            refine awp_if H37 rfl (fun H39 => ?_) (fun H39 => ?_)
            · refine awp_exit ?_
              refine awp_seq ?_
              refine awp_region rfl ?_
              refine wpo_mv (a := (eI (1 : Int))) rfl rfl rfl (o_mv tk rfl (Wk.refl _)) ?_
              refine wpo_lt H39 eI rfl rfl rfl (o_ar tk rfl rfl rfl) fun v41 H40 => ?_
              refine wpo_mv (a := (eI v41)) rfl rfl rfl (o_as tk rfl (Wk.refl _)) ?_
              refine wpo_nil ?_
              refine awp_exit ?_
              refine awp_seq ?_
              refine awp_region rfl ?_
              refine wpo_mv (a := (eI v41)) rfl rfl rfl (o_mv tk rfl (Wk.refl _)) ?_
              refine wpo_mv (a := (eI v41)) rfl rfl rfl (o_as tk rfl (Wk.refl _)) ?_
              refine wpo_nil ?_
              refine awp_ret ?_
              obtain rfl := Option.some.inj H40
              exact ⟨_, (eI v41), rfl, (.of_eq rfl), .of_eq ((enc_i64 td3 sz3).cut _ _ _), hH.noT⟩
            · refine awp_skip ?_
              refine awp_exit ?_
              refine awp_seq ?_
              refine awp_region rfl ?_
              refine wpo_mv (a := (eI (1 : Int))) rfl rfl rfl (o_mv tk rfl (Wk.refl _)) ?_
              refine wpo_mv (a := (eI (1 : Int))) rfl rfl rfl (o_as tk rfl (Wk.refl _)) ?_
              refine wpo_nil ?_
              refine awp_ret ?_
              obtain rfl := Option.some.inj H39
              exact ⟨_, (eI (1 : Int)), rfl, (.of_eq rfl), .of_eq ((enc_i64 td3 sz3).cut _ _ _), hH.noT⟩
theorem octets_Len_ok {x0 : Int} {r : Int} (H : octets_Len x0 = some r) (σ : St)  : ACall Tryd.prog 128 [(eI x0)] σ (fun a τ => a = eI r ∧ τ = σ) := octets_Len_n_ok _ H σ
end Go.Proofs.YtkmlinaofbcbaaaDoor
namespace Go.Proofs.YtkmlinaofbcbaaaDoor
open Go Go.Va
set_option linter.unusedVariables false
set_option linter.unusedSimpArgs false
set_option maxRecDepth 20000
theorem item_Size_ok {x0 : api_Entry} {r : Int} (H : item_Size x0 = some r) (σ : St)  : ACall Tryd.prog 100 [(e_api_Entry x0)] σ (fun a τ => a = eI r ∧ τ = σ) := by
  unfold item_Size at H
  refine ACall.pure (acall_start tk Tryd.func100 (by decide) rfl (Nat.le_of_ble_eq_true rfl) ?_)
  have hH := Holds.init σ
  refine awp_seq ?_
  refine awp_region rfl ?_
  refine wpo_mv (a := (.fptr (c_api_Entry x0) 0)) rfl rfl rfl (o_boxf tk rfl (.of_eq rfl) (b := (e_api_Entry x0)) (enc24.flat _)) ?_
  refine wpo_mv (a := (eI (0 : Int))) rfl rfl rfl (o_as tk rfl (Wk.refl _)) ?_
  refine wpo_nil ?_
  refine awp_seq ?_
  refine awp_drawS mixed [] rfl (by decide +kernel) rfl rfl ?_
  refine wpdS_mv (a := (.fptr (c_api_Entry x0) 0)) rfl rfl rfl (o_c tk false rfl (fun _ => rfl)) ?_
  refine wpdS_mv (a := (eS x0.Key)) rfl rfl rfl (o_ld tk rfl rfl) ?_
  refine wpdS_lt H eI rfl rfl rfl (o_len_s tk td9 rfl) fun v2 H1 => ?_
  refine wpdS_bd H1 eI rfl rfl rfl (fun v4 hv => OpP.of_call rfl rfl (.cons (.of_eq rfl) .nil) (octets_Len_ok hv)) fun v4 hv4 H3 => ?_
  refine wpdS_mv (a := (.fptr (c_api_Entry x0) 0)) rfl rfl rfl (o_c tk false rfl (fun _ => rfl)) ?_
  refine wpdS_mv (a := (eS x0.Key)) rfl rfl rfl (o_ld tk rfl rfl) ?_
  refine wpdS_lt H3 eI rfl rfl rfl (o_len_s tk td9 rfl) fun v6 H5 => ?_
  refine wpdS_lt H5 eI rfl rfl rfl (o_ar tk rfl rfl rfl) fun v8 H7 => ?_
  refine wpdS_mv (a := (.fptr (c_api_Entry x0) 4)) rfl rfl rfl (o_c tk false rfl (fun _ => rfl)) ?_
  refine wpdS_mv (a := ((eL 1 (@eU .u8 8)) x0.Value)) rfl rfl rfl (o_ld tk rfl rfl) ?_
  refine wpdS_lt H7 eI rfl rfl rfl (o_len tk td22 rfl) fun v10 H9 => ?_
  refine wpdS_bd H9 eI rfl rfl rfl (fun v12 hv => OpP.of_call rfl rfl (.cons (.of_eq rfl) .nil) (octets_Len_ok hv)) fun v12 hv12 H11 => ?_
  refine wpdS_lt H11 eI rfl rfl rfl (o_ar tk rfl rfl rfl) fun v14 H13 => ?_
  refine wpdS_mv (a := (.fptr (c_api_Entry x0) 4)) rfl rfl rfl (o_c tk false rfl (fun _ => rfl)) ?_
  refine wpdS_mv (a := ((eL 1 (@eU .u8 8)) x0.Value)) rfl rfl rfl (o_ld tk rfl rfl) ?_
  refine wpdS_lt H13 eI rfl rfl rfl (o_len tk td22 rfl) fun v16 H15 => ?_
  refine wpdS_lt H15 eI rfl rfl rfl (o_ar tk rfl rfl rfl) fun v18 H17 => ?_
  refine wpdS_mv (a := (eI v18)) rfl rfl rfl (o_as tk rfl (Wk.refl _)) ?_
  refine wpdS_nil ?_
  refine awp_seq ?_
  refine awp_drawS mixed [] rfl (by decide +kernel) rfl rfl ?_
  refine wpdS_mv (a := (eI v18)) rfl rfl rfl (o_mv tk rfl (Wk.refl _)) ?_
  refine wpdS_mv (a := (.fptr (c_api_Entry x0) 1)) rfl rfl rfl (o_c tk false rfl (fun _ => rfl)) ?_
  refine wpdS_mv (a := (eI x0.Version)) rfl rfl rfl (o_ld tk rfl rfl) ?_
  refine wpdS_bd H17 eI rfl rfl rfl (fun v20 hv => OpP.of_call rfl rfl (.cons (.of_eq rfl) .nil) (octets_Len_ok hv)) fun v20 hv20 H19 => ?_
  refine wpdS_lt H19 eI rfl rfl rfl (o_ar tk rfl rfl rfl) fun v22 H21 => ?_
  refine wpdS_mv (a := (.fptr (c_api_Entry x0) 2)) rfl rfl rfl (o_c tk false rfl (fun _ => rfl)) ?_
  refine wpdS_mv (a := (eI x0.AsOf)) rfl rfl rfl (o_ld tk rfl rfl) ?_
  refine wpdS_bd H21 eI rfl rfl rfl (fun v24 hv => OpP.of_call rfl rfl (.cons (.of_eq rfl) .nil) (octets_Len_ok hv)) fun v24 hv24 H23 => ?_
  refine wpdS_lt H23 eI rfl rfl rfl (o_ar tk rfl rfl rfl) fun v26 H25 => ?_
  refine wpdS_mv (a := (.fptr (c_api_Entry x0) 3)) rfl rfl rfl (o_c tk false rfl (fun _ => rfl)) ?_
  refine wpdS_mv (a := (eI x0.Ends)) rfl rfl rfl (o_ld tk rfl rfl) ?_
  refine wpdS_bd H25 eI rfl rfl rfl (fun v28 hv => OpP.of_call rfl rfl (.cons (.of_eq rfl) .nil) (octets_Len_ok hv)) fun v28 hv28 H27 => ?_
  refine wpdS_lt H27 eI rfl rfl rfl (o_ar tk rfl rfl rfl) fun v30 H29 => ?_
  refine wpdS_mv (a := (eI v30)) rfl rfl rfl (o_as tk rfl (Wk.refl _)) ?_
  refine wpdS_nil ?_
  refine awp_ret ?_
  obtain rfl := Option.some.inj H29
  exact ⟨_, (eI v30), rfl, (.of_eq rfl), .of_eq ((enc_i64 td3 sz3).cut _ _ _), hH.noT⟩
end Go.Proofs.YtkmlinaofbcbaaaDoor
namespace Go.Proofs.YtkmlinaofbcbaaaDoor
open Go Go.Va
set_option linter.unusedVariables false
set_option linter.unusedSimpArgs false
set_option maxRecDepth 20000
theorem bucket_Size_ok {x0 : List api_Entry} {r : Int} (H : bucket_Size x0 = some r) (σ : St)  : ACall Tryd.prog 51 [((eL 5 e_api_Entry) x0)] σ (fun a τ => a = eI r ∧ τ = σ) := by
  unfold bucket_Size at H
  refine ACall.pure (acall_start tk Tryd.func51 (by decide) rfl (Nat.le_of_ble_eq_true rfl) ?_)
  have hH := Holds.init σ
  refine awp_seq ?_
  refine awp_region rfl ?_
  refine wpo_mv (a := (eI (0 : Int))) rfl rfl rfl (o_as tk rfl (Wk.refl _)) ?_
  refine wpo_nil ?_
  refine awp_seq ?_
  refine awp_region rfl ?_
  refine wpo_mv (a := (eI (0 : Int))) rfl rfl rfl (o_as tk rfl (Wk.refl _)) ?_
  refine wpo_nil ?_
  refine awp_seq ?_
  refine awp_seq ?_
  refine awp_region rfl ?_
  refine wpo_mv (a := ((eL 5 e_api_Entry) x0)) rfl rfl rfl (o_mv tk rfl (Wk.refl _)) ?_
  refine wpo_lt H eI rfl rfl rfl (o_len tk td60 rfl) fun v2 H1 => ?_
  refine wpo_mv (a := (eI (0 : Int))) rfl rfl rfl (o_mv tk rfl (Wk.refl _)) ?_
  refine wpo_nil ?_
  refine awp_block ?_
  obtain ⟨s12, hs6, hj7⟩ := Option.bind_eq_some_iff.1 H1
  refine awp_cutx 0 (fun fr τ => WkF fr (fm [(3, (eI s12))]) ∧ Holds σ [] [] τ) ?_ ?_
  · rintro fr τ ⟨hfr, hH⟩
    have H28 := hj7
    refine AWP.fm [(3, (eI s12))] hfr ?_
    refine awp_seq ?_
    refine awp_region rfl ?_
    refine wpo_mv (a := (eI s12)) rfl rfl rfl (o_mv tk rfl (Wk.refl _)) ?_
    refine wpo_mv (a := (eI s12)) rfl rfl rfl (o_as tk rfl (Wk.refl _)) ?_
    refine wpo_nil ?_
    refine awp_ret ?_
    obtain rfl := Option.some.inj H28
    exact ⟨_, (eI s12), rfl, (.of_eq rfl), .of_eq ((enc_i64 td3 sz3).cut _ _ _), hH.noT⟩
  · refine awp_loopO (body := fun s => bucket_Size_b0 x0 v2 s.1 s.2) hs6 (fun (s : Int × Int) fr τ => WkF fr (fm [(3, (eI s.1)), (6, ((eL 5 e_api_Entry) x0)), (7, (eI v2)), (8, (eI s.2))]) ∧ Holds σ [] [] τ) ⟨(wkf_cons (.of_eq rfl) (wkf_cons (.of_eq rfl) (wkf_cons (.of_eq rfl) (wkf_cons (.of_eq rfl) (wkf_nil _))))), hH⟩ ?_
    rintro ⟨c3, c4⟩ fr τ y8 ⟨hfr, hH⟩ hb10 hy11
    have H13 : bucket_Size_b0 x0 v2 c3 c4 = some y8 := hb10
    unfold bucket_Size_b0 at H13
    refine AWP.fm [(3, (eI c3)), (6, ((eL 5 e_api_Entry) x0)), (7, (eI v2)), (8, (eI c4))] hfr ?_
    have hH : Holds σ [] [] τ := hH
    refine awp_seq ?_
    refine awp_region rfl ?_
    refine wpo_lt H13 eB rfl rfl rfl (o_ar tk rfl rfl rfl) fun v15 H14 => ?_
    refine wpo_nil ?_
    refine awp_seq ?_
    refine awp_if H14 rfl (fun H16 => ?_) (fun H16 => ?_)
    · refine awp_skip ?_
      refine awp_seq ?_
      refine awp_block ?_
      refine awp_seq ?_
      refine awp_region rfl ?_
      refine wpo_bd H16 (fun y => .fptr (e_api_Entry y).cells 0) rfl rfl rfl (fun v18 hv => o_ixa tk hv td60 enc24 rfl rfl) fun v18 hv18 H17 => ?_
      refine wpo_mv (a := (e_api_Entry v18)) rfl rfl rfl (o_ld_e tk enc24 rfl rfl) ?_
      refine wpo_a (av := fun id => .ref id 0) rfl rfl rfl (h_alloc tk hH ty24 [(eS z_api_Entry.Key), (eI z_api_Entry.Version), (eI z_api_Entry.AsOf), (eI z_api_Entry.Ends), AV.nils] rfl) fun id19 τ ⟨hH, n20⟩ => ?_
      refine wpo_z rfl rfl (h_st tk hH 0 rfl ty24 (by simp) rfl rfl (.of_eq rfl) (b := (e_api_Entry v18)) (enc24.flat _) rfl (Nat.le_of_ble_eq_true rfl) (c_api_Entry (v18 : api_Entry)) rfl) fun τ hH => ?_
      refine wpo_nil ?_
      refine awp_region rfl ?_
      refine wpo_mv (a := (eI c3)) rfl rfl rfl (o_mv tk rfl (Wk.refl _)) ?_
      refine wpo_rd (a := (e_api_Entry (v18 : api_Entry))) rfl rfl rfl (h_ld tk hH 0 rfl rfl rfl) ?_
      refine wpo_bd H17 eI rfl rfl rfl (fun v23 hv => OpP.of_call rfl rfl (.cons (.of_eq rfl) .nil) (item_Size_ok hv)) fun v23 hv23 H22 => ?_
      refine wpo_lt H22 eI rfl rfl rfl (o_ar tk rfl rfl rfl) fun v25 H24 => ?_
      refine wpo_mv (a := (eI v25)) rfl rfl rfl (o_as tk rfl (Wk.refl _)) ?_
      refine wpo_nil ?_
      refine awp_region rfl ?_
      refine wpo_lt H24 eI rfl rfl rfl (o_ar tk rfl rfl rfl) fun v27 H26 => ?_
      refine wpo_mv (a := (eI v27)) rfl rfl rfl (o_mv tk rfl (Wk.refl _)) ?_
      refine wpo_nil ?_
      exact ⟨(v25, v27), inj_inl H26, (wkf_cons (.of_eq rfl) (wkf_cons (.of_eq rfl) (wkf_cons (.of_eq rfl) (wkf_cons (.of_eq rfl) (wkf_nil _))))), (hH.drop n20)⟩
    · refine awp_exit ?_
      have hz := hy11 _ (inj_inr H16)
      subst hz
      exact ⟨⟨_, inj_inr H16⟩, (wkf_cons (.of_eq rfl) (wkf_nil _)), hH⟩
end Go.Proofs.YtkmlinaofbcbaaaDoor
namespace Go.Proofs.YtkmlinaofbcbaaaDoor
open Go Go.Va
set_option linter.unusedVariables false
set_option linter.unusedSimpArgs false
set_option maxRecDepth 20000
theorem bucket_Insert_ok {x0 : List api_Entry} {x1 : api_Entry} {r : (List api_Entry) × (List api_Entry) × Err} (H : bucket_Insert x0 x1 = some r) (σ : St)  : ACall Tryd.prog 44 [((eL 5 e_api_Entry) x0), (e_api_Entry x1)] σ (fun a τ => a = .tup [(eL 5 e_api_Entry) r.1, (eL 5 e_api_Entry) r.2.1, eErr r.2.2] ∧ τ = σ) := by
  unfold bucket_Insert at H
  refine ACall.pure (acall_start tk Tryd.func44 (by decide) rfl (Nat.le_of_ble_eq_true rfl) ?_)
  have hH := Holds.init σ
  refine awp_seq ?_
  refine awp_region rfl ?_
  refine wpo_mv (a := (.fptr (c_api_Entry x1) 0)) rfl rfl rfl (o_boxf tk rfl (.of_eq rfl) (b := (e_api_Entry x1)) (enc24.flat _)) ?_
  refine wpo_mv (a := AV.nils) rfl rfl rfl (o_as tk rfl (Wk.refl _)) ?_
  refine wpo_mv (a := AV.nils) rfl rfl rfl (o_as tk rfl (Wk.refl _)) ?_
  refine wpo_mv (a := (eErr Err.nil)) rfl rfl rfl (o_as tk rfl (Wk.refl _)) ?_
  refine wpo_nil ?_
  refine awp_seq ?_
  refine awp_seq ?_
  refine awp_region rfl ?_
  refine wpo_mv (a := (e_api_Entry x1)) rfl rfl rfl (o_ld tk rfl rfl) ?_
  refine wpo_bd H eErr rfl rfl rfl (fun v2 hv => OpP.of_call rfl rfl (.cons (.of_eq rfl) .nil) (item_Check_ok hv)) fun v2 hv2 H1 => ?_
  refine wpo_mv (a := (eErr v2)) rfl rfl rfl (o_as tk rfl (Wk.refl _)) ?_
  refine wpo_nil ?_
  refine awp_seq ?_
  refine awp_region rfl ?_
  refine wpo_mv (a := (eErr v2)) rfl rfl rfl (o_mv tk rfl (Wk.refl _)) ?_
  refine wpo_lt H1 eB rfl rfl rfl (o_err_neq tk rfl rfl rfl) fun v4 H3 => ?_
  refine wpo_nil ?_
  refine awp_if H3 rfl (fun H5 => ?_) (fun H5 => ?_)
  · refine awp_seq ?_
    refine awp_region rfl ?_
    refine wpo_mv (a := ((eL 5 e_api_Entry) x0)) rfl rfl rfl (o_mv tk rfl (Wk.refl _)) ?_
    refine wpo_lt H5 eI rfl rfl rfl (o_len tk td60 rfl) fun v7 H6 => ?_
    refine wpo_mv (a := (eErr v2)) rfl rfl rfl (o_mv tk rfl (Wk.refl _)) ?_
    refine wpo_bd H6 eErr rfl rfl rfl (fun v9 hv => OpP.of_call rfl rfl (.cons (.of_eq rfl) (.cons (.of_eq rfl) (.cons (.of_eq rfl) .nil))) (trouble_Wrap_ok hv)) fun v9 hv9 H8 => ?_
    refine wpo_mv (a := AV.nils) rfl rfl rfl (o_as tk rfl (Wk.refl _)) ?_
    refine wpo_mv (a := AV.nils) rfl rfl rfl (o_as tk rfl (Wk.refl _)) ?_
    refine wpo_mv (a := (eErr v9)) rfl rfl rfl (o_as tk rfl (Wk.refl _)) ?_
    refine wpo_nil ?_
    refine awp_ret ?_
    obtain rfl := Option.some.inj H8
    exact ⟨_, (.tup [((eL 5 e_api_Entry) []), ((eL 5 e_api_Entry) []), (eErr v9)]), rfl, (wk_tup (.cons (wk_nils _) (.cons (wk_nils _) (.cons (.of_eq rfl) .nil)))), .of_eq (by simp only [cutAV, cutL, (enc_l td60 sz60 enc24.cut).cut _ _ _, (enc_l td60 sz60 enc24.cut).cut _ _ _, encErr.cut _ _ _]), hH.noT⟩
  · refine awp_skip ?_
    refine awp_seq ?_
    refine awp_seq ?_
    refine awp_region rfl ?_
    refine wpo_mv (a := (e_api_Entry x1)) rfl rfl rfl (o_ld tk rfl rfl) ?_
    refine wpo_lt H5 (eF 5 e_api_Entry) rfl rfl rfl (o_c tk false rfl (fun _ => rfl)) fun v11 H10 => ?_
    refine wpo_bd H10 eI rfl rfl rfl (fun v13 hv => OpP.of_call rfl rfl (.cons wk_no .nil) (bucket_Size_ok hv)) fun v13 hv13 H12 => ?_
    refine wpo_mv (a := (eI v13)) rfl rfl rfl (o_as tk rfl (Wk.refl _)) ?_
    refine wpo_nil ?_
    refine awp_seq ?_
    refine awp_region rfl ?_
    refine wpo_mv (a := (eI v13)) rfl rfl rfl (o_mv tk rfl (Wk.refl _)) ?_
    refine wpo_lt H12 eB rfl rfl rfl (o_ar tk rfl rfl rfl) fun v15 H14 => ?_
    refine wpo_nil ?_
    refine awp_if H14 rfl (fun H16 => ?_) (fun H16 => ?_)
    · refine awp_seq ?_
      refine awp_region rfl ?_
      refine wpo_mv (a := (eI v13)) rfl rfl rfl (o_mv tk rfl (Wk.refl _)) ?_
      refine wpo_bd H16 eErr rfl rfl rfl (fun v18 hv => OpP.of_call rfl rfl (.cons (.of_eq rfl) (.cons (.of_eq rfl) (.cons (.of_eq rfl) .nil))) (trouble_New_ok hv)) fun v18 hv18 H17 => ?_
      refine wpo_mv (a := AV.nils) rfl rfl rfl (o_as tk rfl (Wk.refl _)) ?_
      refine wpo_mv (a := AV.nils) rfl rfl rfl (o_as tk rfl (Wk.refl _)) ?_
      refine wpo_mv (a := (eErr v18)) rfl rfl rfl (o_as tk rfl (Wk.refl _)) ?_
      refine wpo_nil ?_
      refine awp_ret ?_
      obtain rfl := Option.some.inj H17
      exact ⟨_, (.tup [((eL 5 e_api_Entry) []), ((eL 5 e_api_Entry) []), (eErr v18)]), rfl, (wk_tup (.cons (wk_nils _) (.cons (wk_nils _) (.cons (.of_eq rfl) .nil)))), .of_eq (by simp only [cutAV, cutL, (enc_l td60 sz60 enc24.cut).cut _ _ _, (enc_l td60 sz60 enc24.cut).cut _ _ _, encErr.cut _ _ _]), hH.noT⟩
    · refine awp_skip ?_
      refine awp_seq ?_
      refine awp_region rfl ?_
      refine wpo_mv (a := ((eL 5 e_api_Entry) x0)) rfl rfl rfl (o_mv tk rfl (Wk.refl _)) ?_
      refine wpo_mv (a := (.fptr (c_api_Entry x1) 0)) rfl rfl rfl (o_c tk false rfl (fun _ => rfl)) ?_
      refine wpo_mv (a := (eS x1.Key)) rfl rfl rfl (o_ld tk rfl rfl) ?_
      obtain ⟨v20, hv21, H19⟩ := Option.bind_eq_some_iff.1 H16
      refine wpo_a (av := fun t => .tup (eT t 5 e_api_Entry v20.1 :: [(eB v20.2)])) rfl rfl rfl (h_callas hH rfl rfl (.cons (.of_eq rfl) (.cons (.of_eq rfl) .nil)) (bucket_Remove_app hv21 _)) fun tk22 τ hH => ?_
      refine wpo_mv (a := (.tup [(eT tk22 5 e_api_Entry v20.1), (eB v20.2)])) rfl rfl rfl (o_mv tk rfl (Wk.refl _)) ?_
      refine wpo_mv (a := (eT tk22 5 e_api_Entry v20.1)) rfl rfl rfl (o_ext tk rfl rfl) ?_
      refine wpo_mv (a := (eB v20.2)) rfl rfl rfl (o_ext tk rfl rfl) ?_
      refine wpo_mv (a := (eT tk22 5 e_api_Entry v20.1)) rfl rfl rfl (o_as tk rfl (Wk.refl _)) ?_
      refine wpo_mv (a := (eB v20.2)) rfl rfl rfl (o_as tk rfl (Wk.refl _)) ?_
      refine wpo_nil ?_
      refine awp_seq ?_
      refine awp_region rfl ?_
      refine wpo_mv (a := (eT tk22 5 e_api_Entry v20.1)) rfl rfl rfl (o_mv tk rfl (Wk.refl _)) ?_
      refine wpo_mv (a := (e_api_Entry x1)) rfl rfl rfl (o_ld tk rfl rfl) ?_
      refine wpo_bd H19 e_api_Entry rfl rfl rfl (fun v24 hv => OpP.of_call rfl rfl (.cons (.of_eq rfl) .nil) (item_Copy_ok hv)) fun v24 hv24 H23 => ?_
      refine wpo_lt H23 (eF 5 e_api_Entry) rfl rfl rfl (o_c tk false rfl (fun _ => rfl)) fun v26 H25 => ?_
      obtain ⟨v28, hv29, H27⟩ := Option.bind_eq_some_iff.1 H25
      refine wpo_a (av := fun t => eT t 5 e_api_Entry v28) rfl rfl rfl (h_app tk hH 0 hv29 rfl td60 ty24 rfl (by decide) rfl (src_l td60 rfl)) fun tk30 τ hH => ?_
      refine wpo_mv (a := (eT tk30 5 e_api_Entry v28)) rfl rfl rfl (o_as tk rfl (Wk.refl _)) ?_
      refine wpo_nil ?_
      refine awp_seq ?_
      refine awp_region rfl ?_
      refine wpo_mv (a := (eI (0 : Int))) rfl rfl rfl (o_as tk rfl (Wk.refl _)) ?_
      refine wpo_nil ?_
      refine awp_seq ?_
      refine awp_block ?_
      obtain ⟨s39, hs33, hj34⟩ := Option.bind_eq_some_iff.1 H27
      refine awp_cutx 0 (fun fr τ => WkF fr (fm [(9, (eT tk30 5 e_api_Entry v28)), (11, (eI s39))]) ∧ Holds σ [] [tk30] τ) ?_ ?_
      · rintro fr τ ⟨hfr, hH⟩
        have H50 := hj34
        refine AWP.fm [(9, (eT tk30 5 e_api_Entry v28)), (11, (eI s39))] hfr ?_
        refine awp_seq ?_
        refine awp_drawS mixed [] rfl (by decide +kernel) rfl rfl ?_
        refine wpdS_mv (a := (eT tk30 5 e_api_Entry v28)) rfl rfl rfl (o_mv tk rfl (Wk.refl _)) ?_
        refine wpdS_mv (a := (eI s39)) rfl rfl rfl (o_mv tk rfl (Wk.refl _)) ?_
        refine wpdS_bd H50 (eL 5 e_api_Entry) rfl rfl rfl (fun v52 hv => o_cutFrom tk hv td60 enc24 rfl rfl) fun v52 hv52 H51 => ?_
        refine wpdS_bd H51 (eL 5 e_api_Entry) rfl rfl rfl (fun v54 hv => OpP.of_call rfl rfl (.cons (.of_eq rfl) .nil) (slices_Clone_api_Entry_api_Entry_ok hv)) fun v54 hv54 H53 => ?_
        refine wpdS_mv (a := (eT tk30 5 e_api_Entry v28)) rfl rfl rfl (o_mv tk rfl (Wk.refl _)) ?_
        refine wpdS_mv (a := (eI s39)) rfl rfl rfl (o_mv tk rfl (Wk.refl _)) ?_
        refine wpdS_bd H53 (eL 5 e_api_Entry) rfl rfl rfl (fun v56 hv => o_cutTo tk hv td60 enc24 rfl rfl) fun v56 hv56 H55 => ?_
        refine wpdS_bd H55 (eL 5 e_api_Entry) rfl rfl rfl (fun v58 hv => OpP.of_call rfl rfl (.cons (.of_eq rfl) .nil) (slices_Clone_api_Entry_api_Entry_ok hv)) fun v58 hv58 H57 => ?_
        refine wpdS_mv (a := ((eL 5 e_api_Entry) v54)) rfl rfl rfl (o_as tk rfl (Wk.refl _)) ?_
        refine wpdS_mv (a := ((eL 5 e_api_Entry) v58)) rfl rfl rfl (o_as tk rfl (Wk.refl _)) ?_
        refine wpdS_mv (a := (eErr Err.nil)) rfl rfl rfl (o_as tk rfl (Wk.refl _)) ?_
        refine wpdS_nil ?_
        refine awp_ret ?_
        obtain rfl := Option.some.inj H57
        exact ⟨_, (.tup [((eL 5 e_api_Entry) v54), ((eL 5 e_api_Entry) v58), (eErr Err.nil)]), rfl, (wk_tup (.cons (.of_eq rfl) (.cons (.of_eq rfl) (.cons (.of_eq rfl) .nil)))), .of_eq (by simp only [cutAV, cutL, (enc_l td60 sz60 enc24.cut).cut _ _ _, (enc_l td60 sz60 enc24.cut).cut _ _ _, encErr.cut _ _ _]), hH.noT⟩
      · refine awp_loopO (body := fun s => bucket_Insert_b0 v28 s) hs33 (fun (s : Int) fr τ => WkF fr (fm [(9, (eT tk30 5 e_api_Entry v28)), (11, (eI s))]) ∧ Holds σ [] [tk30] τ) ⟨(wkf_cons (.of_eq rfl) (wkf_cons (.of_eq rfl) (wkf_nil _))), hH⟩ ?_
        rintro c31 fr τ y35 ⟨hfr, hH⟩ hb37 hy38
        have H40 : bucket_Insert_b0 v28 c31 = some y35 := hb37
        unfold bucket_Insert_b0 at H40
        refine AWP.fm [(9, (eT tk30 5 e_api_Entry v28)), (11, (eI c31))] hfr ?_
        have hH : Holds σ [] [tk30] τ := hH
        refine awp_seq ?_
        refine awp_seq ?_
        refine awp_region rfl ?_
        refine wpo_mv (a := (eT tk30 5 e_api_Entry v28)) rfl rfl rfl (o_mv tk rfl (Wk.refl _)) ?_
        refine wpo_mv (a := (eI c31)) rfl rfl rfl (o_mv tk rfl (Wk.refl _)) ?_
        refine wpo_bd H40 (eL 5 e_api_Entry) rfl rfl rfl (fun v42 hv => o_cutFrom tk hv td60 enc24 rfl rfl) fun v42 hv42 H41 => ?_
        refine wpo_bd H41 eI rfl rfl rfl (fun v44 hv => OpP.of_call rfl rfl (.cons (.of_eq rfl) .nil) (bucket_Size_ok hv)) fun v44 hv44 H43 => ?_
        refine wpo_lt H43 eB rfl rfl rfl (o_ar tk rfl rfl rfl) fun v46 H45 => ?_
        refine wpo_nil ?_
        refine awp_if H45 rfl (fun H47 => ?_) (fun H47 => ?_)
        · refine awp_skip ?_
          refine awp_block ?_
          refine awp_region rfl ?_
          refine wpo_mv (a := (eI c31)) rfl rfl rfl (o_mv tk rfl (Wk.refl _)) ?_
          refine wpo_lt H47 eI rfl rfl rfl (o_ar tk rfl rfl rfl) fun v49 H48 => ?_
          refine wpo_mv (a := (eI v49)) rfl rfl rfl (o_as tk rfl (Wk.refl _)) ?_
          refine wpo_nil ?_
          exact ⟨v49, inj_inl H48, (wkf_cons (.of_eq rfl) (wkf_cons (.of_eq rfl) (wkf_nil _))), hH⟩
        · refine awp_exit ?_
          have hz := hy38 _ (inj_inr H47)
          subst hz
          exact ⟨⟨_, inj_inr H47⟩, (wkf_cons (.of_eq rfl) (wkf_cons (.of_eq rfl) (wkf_nil _))), hH⟩
end Go.Proofs.YtkmlinaofbcbaaaDoor
namespace Go.Proofs.YtkmlinaofbcbaaaDoor
open Go Go.Va
set_option linter.unusedVariables false
set_option linter.unusedSimpArgs false
set_option maxRecDepth 20000
theorem bloom_Mix_ok {x0 : BitVec 64} {r : (BitVec 64)} (H : bloom_Mix x0 = some r) (σ : St)  : ACall Tryd.prog 107 [((@eU .u64 64) x0)] σ (fun a τ => a = (@eU .u64 64) r ∧ τ = σ) := by
  unfold bloom_Mix at H
  refine ACall.pure (acall_start tk Tryd.func107 (by decide) rfl (Nat.le_of_ble_eq_true rfl) ?_)
  have hH := Holds.init σ
  refine awp_seq ?_
  refine awp_region rfl ?_
  refine wpo_mv (a := ((@eU .u64 64) 0#64)) rfl rfl rfl (o_as tk rfl (Wk.refl _)) ?_
  refine wpo_nil ?_
  refine awp_seq ?_
  refine awp_region rfl ?_
  refine wpo_mv (a := ((@eU .u64 64) x0)) rfl rfl rfl (o_mv tk rfl (Wk.refl _)) ?_
  refine wpo_mv (a := ((@eU .u64 64) x0)) rfl rfl rfl (o_mv tk rfl (Wk.refl _)) ?_
  refine wpo_lt H (@eU .u64 64) rfl rfl rfl (o_shr_u tk rfl (y := (33 : Int)) rfl rfl rfl) fun v2 H1 => ?_
  refine wpo_lt H1 (@eU .u64 64) rfl rfl rfl (o_xor_u tk rfl rfl rfl) fun v4 H3 => ?_
  refine wpo_mv (a := ((@eU .u64 64) v4)) rfl rfl rfl (o_as tk rfl (Wk.refl _)) ?_
  refine wpo_nil ?_
  refine awp_seq ?_
  refine awp_region rfl ?_
  refine wpo_mv (a := ((@eU .u64 64) v4)) rfl rfl rfl (o_mv tk rfl (Wk.refl _)) ?_
  refine wpo_lt H3 (@eU .u64 64) rfl rfl rfl (o_mul_u tk rfl rfl rfl) fun v6 H5 => ?_
  refine wpo_mv (a := ((@eU .u64 64) v6)) rfl rfl rfl (o_as tk rfl (Wk.refl _)) ?_
  refine wpo_nil ?_
  refine awp_seq ?_
  refine awp_region rfl ?_
  refine wpo_mv (a := ((@eU .u64 64) v6)) rfl rfl rfl (o_mv tk rfl (Wk.refl _)) ?_
  refine wpo_mv (a := ((@eU .u64 64) v6)) rfl rfl rfl (o_mv tk rfl (Wk.refl _)) ?_
  refine wpo_lt H5 (@eU .u64 64) rfl rfl rfl (o_shr_u tk rfl (y := (33 : Int)) rfl rfl rfl) fun v8 H7 => ?_
  refine wpo_lt H7 (@eU .u64 64) rfl rfl rfl (o_xor_u tk rfl rfl rfl) fun v10 H9 => ?_
  refine wpo_mv (a := ((@eU .u64 64) v10)) rfl rfl rfl (o_as tk rfl (Wk.refl _)) ?_
  refine wpo_nil ?_
  refine awp_seq ?_
  refine awp_region rfl ?_
  refine wpo_mv (a := ((@eU .u64 64) v10)) rfl rfl rfl (o_mv tk rfl (Wk.refl _)) ?_
  refine wpo_lt H9 (@eU .u64 64) rfl rfl rfl (o_mul_u tk rfl rfl rfl) fun v12 H11 => ?_
  refine wpo_mv (a := ((@eU .u64 64) v12)) rfl rfl rfl (o_as tk rfl (Wk.refl _)) ?_
  refine wpo_nil ?_
  refine awp_seq ?_
  refine awp_region rfl ?_
  refine wpo_mv (a := ((@eU .u64 64) v12)) rfl rfl rfl (o_mv tk rfl (Wk.refl _)) ?_
  refine wpo_mv (a := ((@eU .u64 64) v12)) rfl rfl rfl (o_mv tk rfl (Wk.refl _)) ?_
  refine wpo_lt H11 (@eU .u64 64) rfl rfl rfl (o_shr_u tk rfl (y := (33 : Int)) rfl rfl rfl) fun v14 H13 => ?_
  refine wpo_lt H13 (@eU .u64 64) rfl rfl rfl (o_xor_u tk rfl rfl rfl) fun v16 H15 => ?_
  refine wpo_mv (a := ((@eU .u64 64) v16)) rfl rfl rfl (o_as tk rfl (Wk.refl _)) ?_
  refine wpo_nil ?_
  refine awp_ret ?_
  obtain rfl := Option.some.inj H15
  exact ⟨_, ((@eU .u64 64) v16), rfl, (.of_eq rfl), .of_eq ((enc_u td72 sz72).cut _ _ _), hH.noT⟩
end Go.Proofs.YtkmlinaofbcbaaaDoor
namespace Go.Proofs.YtkmlinaofbcbaaaDoor
open Go Go.Va
set_option linter.unusedVariables false
set_option linter.unusedSimpArgs false
set_option maxRecDepth 20000
theorem bloom_Hash_ok {x0 : List (BitVec 8)} {r : (BitVec 64)} (H : bloom_Hash x0 = some r) (σ : St)  : ACall Tryd.prog 47 [(eS x0)] σ (fun a τ => a = (@eU .u64 64) r ∧ τ = σ) := by
  unfold bloom_Hash at H
  refine ACall.pure (acall_start tk Tryd.func47 (by decide) rfl (Nat.le_of_ble_eq_true rfl) ?_)
  have hH := Holds.init σ
  refine awp_seq ?_
  refine awp_region rfl ?_
  refine wpo_mv (a := ((@eU .u64 64) 0#64)) rfl rfl rfl (o_as tk rfl (Wk.refl _)) ?_
  refine wpo_nil ?_
  refine awp_seq ?_
  refine awp_region rfl ?_
  refine wpo_mv (a := ((@eU .u64 64) 14695981039346656037#64)) rfl rfl rfl (o_as tk rfl (Wk.refl _)) ?_
  refine wpo_nil ?_
  refine awp_seq ?_
  refine awp_seq ?_
  refine awp_region rfl ?_
  refine wpo_mv (a := (eS x0)) rfl rfl rfl (o_mv tk rfl (Wk.refl _)) ?_
  refine wpo_lt H eI rfl rfl rfl (o_len_s tk td9 rfl) fun v2 H1 => ?_
  refine wpo_mv (a := (eI (0 : Int))) rfl rfl rfl (o_mv tk rfl (Wk.refl _)) ?_
  refine wpo_nil ?_
  refine awp_block ?_
  obtain ⟨s12, hs6, hj7⟩ := Option.bind_eq_some_iff.1 H1
  refine awp_cutx 0 (fun fr τ => WkF fr (fm [(3, ((@eU .u64 64) s12))]) ∧ Holds σ [] [] τ) ?_ ?_
  · rintro fr τ ⟨hfr, hH⟩
    have H27 := hj7
    refine AWP.fm [(3, ((@eU .u64 64) s12))] hfr ?_
    refine awp_seq ?_
    refine awp_region rfl ?_
    refine wpo_mv (a := ((@eU .u64 64) s12)) rfl rfl rfl (o_mv tk rfl (Wk.refl _)) ?_
    refine wpo_bd H27 (@eU .u64 64) rfl rfl rfl (fun v29 hv => OpP.of_call rfl rfl (.cons (.of_eq rfl) .nil) (bloom_Mix_ok hv)) fun v29 hv29 H28 => ?_
    refine wpo_mv (a := ((@eU .u64 64) v29)) rfl rfl rfl (o_as tk rfl (Wk.refl _)) ?_
    refine wpo_nil ?_
    refine awp_ret ?_
    obtain rfl := Option.some.inj H28
    exact ⟨_, ((@eU .u64 64) v29), rfl, (.of_eq rfl), .of_eq ((enc_u td72 sz72).cut _ _ _), hH.noT⟩
  · refine awp_loopO (body := fun s => bloom_Hash_b0 x0 v2 s.1 s.2) hs6 (fun (s : (BitVec 64) × Int) fr τ => WkF fr (fm [(0, (eS x0)), (3, ((@eU .u64 64) s.1)), (6, (eI v2)), (7, (eI s.2))]) ∧ Holds σ [] [] τ) ⟨(wkf_cons (.of_eq rfl) (wkf_cons (.of_eq rfl) (wkf_cons (.of_eq rfl) (wkf_cons (.of_eq rfl) (wkf_nil _))))), hH⟩ ?_
    rintro ⟨c3, c4⟩ fr τ y8 ⟨hfr, hH⟩ hb10 hy11
    have H13 : bloom_Hash_b0 x0 v2 c3 c4 = some y8 := hb10
    unfold bloom_Hash_b0 at H13
    refine AWP.fm [(0, (eS x0)), (3, ((@eU .u64 64) c3)), (6, (eI v2)), (7, (eI c4))] hfr ?_
    have hH : Holds σ [] [] τ := hH
    refine awp_seq ?_
    refine awp_region rfl ?_
    refine wpo_lt H13 eB rfl rfl rfl (o_ar tk rfl rfl rfl) fun v15 H14 => ?_
    refine wpo_nil ?_
    refine awp_seq ?_
    refine awp_if H14 rfl (fun H16 => ?_) (fun H16 => ?_)
    · refine awp_skip ?_
      refine awp_seq ?_
      refine awp_block ?_
      refine awp_seq ?_
      refine awp_region rfl ?_
      refine wpo_mv (a := (eI c4)) rfl rfl rfl (o_mv tk rfl (Wk.refl _)) ?_
      refine wpo_mv (a := (eI c4)) rfl rfl rfl (o_as tk rfl (Wk.refl _)) ?_
      refine wpo_nil ?_
      refine awp_region rfl ?_
      refine wpo_mv (a := ((@eU .u64 64) c3)) rfl rfl rfl (o_mv tk rfl (Wk.refl _)) ?_
      refine wpo_mv (a := (eS x0)) rfl rfl rfl (o_mv tk rfl (Wk.refl _)) ?_
      refine wpo_mv (a := (eI c4)) rfl rfl rfl (o_mv tk rfl (Wk.refl _)) ?_
      refine wpo_bd H16 (@eU .u8 8) rfl rfl rfl (fun v18 hv => o_six tk hv td9 rfl rfl) fun v18 hv18 H17 => ?_
      refine wpo_lt H17 (@eU .u64 64) rfl rfl rfl (o_cv_uu tk td5 td72 rfl rfl) fun v20 H19 => ?_
      refine wpo_lt H19 (@eU .u64 64) rfl rfl rfl (o_xor_u tk rfl rfl rfl) fun v22 H21 => ?_
      refine wpo_lt H21 (@eU .u64 64) rfl rfl rfl (o_mul_u tk rfl rfl rfl) fun v24 H23 => ?_
      refine wpo_mv (a := ((@eU .u64 64) v24)) rfl rfl rfl (o_as tk rfl (Wk.refl _)) ?_
      refine wpo_nil ?_
      refine awp_region rfl ?_
      refine wpo_lt H23 eI rfl rfl rfl (o_ar tk rfl rfl rfl) fun v26 H25 => ?_
      refine wpo_mv (a := (eI v26)) rfl rfl rfl (o_mv tk rfl (Wk.refl _)) ?_
      refine wpo_nil ?_
      exact ⟨(v24, v26), inj_inl H25, (wkf_cons (.of_eq rfl) (wkf_cons (.of_eq rfl) (wkf_cons (.of_eq rfl) (wkf_cons (.of_eq rfl) (wkf_nil _))))), hH⟩
    · refine awp_exit ?_
      have hz := hy11 _ (inj_inr H16)
      subst hz
      exact ⟨⟨_, inj_inr H16⟩, (wkf_cons (.of_eq rfl) (wkf_nil _)), hH⟩
end Go.Proofs.YtkmlinaofbcbaaaDoor
namespace Go.Proofs.YtkmlinaofbcbaaaDoor
open Go Go.Va
set_option linter.unusedVariables false
set_option linter.unusedSimpArgs false
set_option maxRecDepth 20000
theorem bloom_bits_ok {x0 : BitVec 64} {r : (List Int)} (H : bloom_bits x0 = some r) (σ : St)  : ACall Tryd.prog 112 [((@eU .u64 64) x0)] σ (fun a τ => a = (eA eI) r ∧ τ = σ) := by
  unfold bloom_bits at H
  refine ACall.pure (acall_start tk Tryd.func112 (by decide) rfl (Nat.le_of_ble_eq_true rfl) ?_)
  have hH := Holds.init σ
  refine awp_seq ?_
  refine awp_region rfl ?_
  refine wpo_a (av := fun id => .ref id 0) rfl rfl rfl (h_alloc tk hH ty149 (cL eI (List.replicate 3 (0 : Int))) rfl) fun id1 τ ⟨hH, n2⟩ => ?_
  refine wpo_nil ?_
  refine awp_seq ?_
  refine awp_region rfl ?_
  refine wpo_mv (a := ((@eU .u64 64) x0)) rfl rfl rfl (o_mv tk rfl (Wk.refl _)) ?_
  refine wpo_lt H (@eU .u64 64) rfl rfl rfl (o_and_u tk rfl rfl rfl) fun v4 H3 => ?_
  refine wpo_lt H3 eI rfl rfl rfl (o_cv_64 tk td72 td3 rfl) fun v6 H5 => ?_
  refine wpo_mv (a := ((@eU .u64 64) x0)) rfl rfl rfl (o_mv tk rfl (Wk.refl _)) ?_
  refine wpo_lt H5 (@eU .u64 64) rfl rfl rfl (o_shr_u tk rfl (y := (21 : Int)) rfl rfl rfl) fun v8 H7 => ?_
  refine wpo_lt H7 (@eU .u64 64) rfl rfl rfl (o_and_u tk rfl rfl rfl) fun v10 H9 => ?_
  refine wpo_lt H9 eI rfl rfl rfl (o_cv_64 tk td72 td3 rfl) fun v12 H11 => ?_
  refine wpo_mv (a := ((@eU .u64 64) x0)) rfl rfl rfl (o_mv tk rfl (Wk.refl _)) ?_
  refine wpo_lt H11 (@eU .u64 64) rfl rfl rfl (o_shr_u tk rfl (y := (42 : Int)) rfl rfl rfl) fun v14 H13 => ?_
  refine wpo_lt H13 (@eU .u64 64) rfl rfl rfl (o_and_u tk rfl rfl rfl) fun v16 H15 => ?_
  refine wpo_lt H15 eI rfl rfl rfl (o_cv_64 tk td72 td3 rfl) fun v18 H17 => ?_
  refine wpo_lt H17 (eA eI) rfl rfl rfl (o_c tk false rfl (fun _ => rfl)) fun v20 H19 => ?_
  obtain ⟨c22, hc23, H21⟩ := Option.bind_eq_some_iff.1 H19
  refine wpo_z rfl rfl (h_stw tk hH 0 hc23 rfl (enc_i64 td3 sz3) ty149 rfl (by simp) rfl rfl) fun τ hH => ?_
  refine wpo_nil ?_
  refine awp_ret ?_
  obtain ⟨w24, hw24, H25⟩ := Option.bind_eq_some_iff.1 H21
  obtain ⟨hw24, rfl⟩ := whole_some hw24
  obtain rfl := Option.some.inj H25
  exact ⟨_, ((eA eI) w24), (ares_1 (ares_cell hH 0 rfl rfl (acut_whole (enc_i64 td3 sz3) td149 sz149 rfl (hw24)))), (.of_eq rfl), .of_eq ((cut_eA (enc_i64 td3 sz3).cut) _ _ _), (hH.noT.drop n2)⟩
end Go.Proofs.YtkmlinaofbcbaaaDoor
namespace Go.Proofs.YtkmlinaofbcbaaaDoor
open Go Go.Va
set_option linter.unusedVariables false
set_option linter.unusedSimpArgs false
set_option maxRecDepth 20000
theorem bloom_Filter_Add_ok {x0 : List (BitVec 64)} {x1 : BitVec 64} {r : (List (BitVec 64))} (H : bloom_Filter_Add x0 x1 = some r) (σ : St)  : ACall Tryd.prog 130 [((eA (@eU .u64 64)) x0), ((@eU .u64 64) x1)] σ (fun a τ => a = (eA (@eU .u64 64)) r ∧ τ = σ) := by
  unfold bloom_Filter_Add at H
  refine ACall.pure (acall_start tk Tryd.func130 (by decide) rfl (Nat.le_of_ble_eq_true rfl) ?_)
  have hH := Holds.init σ
  refine awp_seq ?_
  refine awp_region rfl ?_
  refine wpo_a (av := fun id => .ref id 0) rfl rfl rfl (h_box tk hH rfl (.of_eq rfl) (b := ((eA (@eU .u64 64)) x0)) (all_flat_cL (enc_u td72 sz72) x0) (cL (@eU .u64 64) x0) rfl) fun id1 τ ⟨hH, n2⟩ => ?_
  refine wpo_a (av := fun id => .ref id 0) rfl rfl rfl (h_alloc tk hH ty92 (cL (@eU .u64 64) (List.replicate 2 0#64)) rfl) fun id3 τ ⟨hH, n4⟩ => ?_
  refine wpo_nil ?_
  refine awp_seq ?_
  refine awp_seq ?_
  refine awp_region rfl ?_
  refine wpo_mv (a := ((@eU .u64 64) x1)) rfl rfl rfl (o_mv tk rfl (Wk.refl _)) ?_
  refine wpo_bd H (eA eI) rfl rfl rfl (fun v6 hv => OpP.of_call rfl rfl (.cons (.of_eq rfl) .nil) (bloom_bits_ok hv)) fun v6 hv6 H5 => ?_
  refine wpo_mv (a := (eI (0 : Int))) rfl rfl rfl (o_mv tk rfl (Wk.refl _)) ?_
  refine wpo_nil ?_
  refine awp_block ?_
  obtain ⟨s16, hs10, hj11⟩ := Option.bind_eq_some_iff.1 H5
  refine awp_cutx 0 (fun fr τ => WkF fr (fm [(2, (.ref id1 0)), (4, (.ref id3 0))]) ∧ Holds σ [(id3, (cL (@eU .u64 64) (List.replicate 2 0#64))), (id1, (cL (@eU .u64 64) s16))] [] τ) ?_ ?_
  · rintro fr τ ⟨hfr, hH⟩
    have H42 := hj11
    refine AWP.fm [(2, (.ref id1 0)), (4, (.ref id3 0))] hfr ?_
    refine awp_seq ?_
    refine awp_region rfl ?_
    refine wpo_bdr H42 (eA (@eU .u64 64)) rfl rfl rfl (fun v44 hv => h_ldw tk hH 1 hv rfl (enc_u td72 sz72) td92 sz92 rfl rfl) fun v44 hv44 H43 => ?_
    obtain ⟨c46, hc47, H45⟩ := Option.bind_eq_some_iff.1 H43
    refine wpo_z rfl rfl (h_stw tk hH 0 hc47 rfl (enc_u td72 sz72) ty92 rfl (by simp) rfl rfl) fun τ hH => ?_
    refine wpo_nil ?_
    refine awp_ret ?_
    obtain ⟨w48, hw48, H49⟩ := Option.bind_eq_some_iff.1 H45
    obtain ⟨hw48, rfl⟩ := whole_some hw48
    obtain rfl := Option.some.inj H49
    exact ⟨_, ((eA (@eU .u64 64)) w48), (ares_1 (ares_cell hH 0 rfl rfl (acut_whole (enc_u td72 sz72) td92 sz92 rfl (hw48)))), (.of_eq rfl), .of_eq ((cut_eA (enc_u td72 sz72).cut) _ _ _), ((hH.noT.drop n4).drop n2)⟩
  · refine awp_loopO (body := fun s => bloom_Filter_Add_b0 v6 s.1 s.2) hs10 (fun (s : Int × (List (BitVec 64))) fr τ => WkF fr (fm [(2, (.ref id1 0)), (4, (.ref id3 0)), (8, ((eA eI) v6)), (9, (eI s.1))]) ∧ Holds σ [(id3, (cL (@eU .u64 64) (List.replicate 2 0#64))), (id1, (cL (@eU .u64 64) s.2))] [] τ) ⟨(wkf_cons (.of_eq rfl) (wkf_cons (.of_eq rfl) (wkf_cons (.of_eq rfl) (wkf_cons (.of_eq rfl) (wkf_nil _))))), hH⟩ ?_
    rintro ⟨c7, c8⟩ fr τ y12 ⟨hfr, hH⟩ hb14 hy15
    have H17 : bloom_Filter_Add_b0 v6 c7 c8 = some y12 := hb14
    unfold bloom_Filter_Add_b0 at H17
    refine AWP.fm [(2, (.ref id1 0)), (4, (.ref id3 0)), (8, ((eA eI) v6)), (9, (eI c7))] hfr ?_
    have hH : Holds σ [(id3, (cL (@eU .u64 64) (List.replicate 2 0#64))), (id1, (cL (@eU .u64 64) c8))] [] τ := hH
    refine awp_seq ?_
    refine awp_region rfl ?_
    refine wpo_lt H17 eB rfl rfl rfl (o_ar tk rfl rfl rfl) fun v19 H18 => ?_
    refine wpo_nil ?_
    refine awp_seq ?_
    refine awp_if H18 rfl (fun H20 => ?_) (fun H20 => ?_)
    · refine awp_skip ?_
      refine awp_seq ?_
      refine awp_block ?_
      refine awp_seq ?_
      refine awp_region rfl ?_
      refine wpo_bd H20 eI rfl rfl rfl (fun v22 hv => o_vix tk hv td149 (enc_i64 td3 sz3) rfl rfl rfl) fun v22 hv22 H21 => ?_
      refine wpo_mv (a := (eI v22)) rfl rfl rfl (o_as tk rfl (Wk.refl _)) ?_
      refine wpo_nil ?_
      refine awp_drawS mixed [9] rfl (by decide +kernel) rfl rfl ?_
      refine wpdS_mv (a := (eI v22)) rfl rfl rfl (o_mv tk rfl (Wk.refl _)) ?_
      refine wpdS_lt H21 eI rfl rfl rfl (o_shr tk (y := (6 : Int)) rfl rfl rfl) fun v24 H23 => ?_
      refine wpdS_bd H23 (fun _ => .ref id1 (0 + (v24 : Int).toNat * 1 + 0)) rfl rfl rfl (fun v26 hv => o_arrx tk hv td92 sz72 (by decide) rfl rfl) fun v26 hv26 H25 => ?_
      refine wpdS_bdr H25 (fun y => (@eU .u64 64) y) rfl (by decide +kernel) rfl rfl (fun v28 hv => h_ldx tk hH 1 hv rfl (enc_u td72 sz72) (acut_enc (enc_u td72 sz72) rfl _) (by decide) rfl) fun v28 hv28 H27 => ?_
      refine wpdS_mv (a := (eI v22)) rfl rfl rfl (o_mv tk rfl (Wk.refl _)) ?_
      refine wpdS_lt H27 eI rfl rfl rfl (o_ar tk rfl rfl rfl) fun v30 H29 => ?_
      refine wpdS_bd H29 (@eU .u64 64) rfl rfl rfl (fun v32 hv => om_shl_u tk rfl hv rfl rfl) fun v32 hv32 H31 => ?_
      refine wpdS_lt H31 (@eU .u64 64) rfl rfl rfl (o_or_u tk rfl rfl rfl) fun v34 H33 => ?_
      refine wpdS_bd H33 (fun _ => .ref id1 (0 + (v24 : Int).toNat * 1 + 0)) rfl rfl rfl (fun v36 hv => o_arrx tk hv td92 sz72 (by decide) rfl rfl) fun v36 hv36 H35 => ?_
      obtain ⟨c38, hc39, H37⟩ := Option.bind_eq_some_iff.1 H35
      refine wpdS_z rfl rfl rfl (h_stx tk hH 1 hc39 rfl (enc_u td72 sz72) ty72 (by simp) rfl rfl (.of_eq rfl) (b := ((@eU .u64 64) v34)) rfl rfl (by decide) (fun _ => rfl)) fun τ hH => ?_
      refine wpdS_nil ?_
      refine awp_region rfl ?_
      refine wpo_lt H37 eI rfl rfl rfl (o_ar tk rfl rfl rfl) fun v41 H40 => ?_
      refine wpo_mv (a := (eI v41)) rfl rfl rfl (o_mv tk rfl (Wk.refl _)) ?_
      refine wpo_nil ?_
      exact ⟨(v41, c38), inj_inl H40, (wkf_cons (.of_eq rfl) (wkf_cons (.of_eq rfl) (wkf_cons (.of_eq rfl) (wkf_cons (.of_eq rfl) (wkf_nil _))))), hH⟩
    · refine awp_exit ?_
      have hz := hy15 _ (inj_inr H20)
      subst hz
      exact ⟨⟨_, inj_inr H20⟩, (wkf_cons (.of_eq rfl) (wkf_cons (.of_eq rfl) (wkf_nil _))), hH⟩
end Go.Proofs.YtkmlinaofbcbaaaDoor
namespace Go.Proofs.YtkmlinaofbcbaaaDoor
open Go Go.Va
set_option linter.unusedVariables false
set_option linter.unusedSimpArgs false
set_option maxRecDepth 20000
theorem bloom_Of_ok {x0 : List (List (BitVec 8))} {r : (List (BitVec 64))} (H : bloom_Of x0 = some r) (σ : St)  : ACall Tryd.prog 111 [((eL 1 eS) x0)] σ (fun a τ => a = (eA (@eU .u64 64)) r ∧ τ = σ) := by
  unfold bloom_Of at H
  refine ACall.pure (acall_start tk Tryd.func111 (by decide) rfl (Nat.le_of_ble_eq_true rfl) ?_)
  have hH := Holds.init σ
  refine awp_seq ?_
  refine awp_region rfl ?_
  refine wpo_a (av := fun id => .ref id 0) rfl rfl rfl (h_alloc tk hH ty92 (cL (@eU .u64 64) (List.replicate 2 0#64)) rfl) fun id1 τ ⟨hH, n2⟩ => ?_
  refine wpo_nil ?_
  refine awp_seq ?_
  refine awp_region rfl ?_
  refine wpo_a (av := fun id => .ref id 0) rfl rfl rfl (h_alloc tk hH ty92 (cL (@eU .u64 64) (List.replicate 2 0#64)) rfl) fun id3 τ ⟨hH, n4⟩ => ?_
  refine wpo_nil ?_
  refine awp_seq ?_
  refine awp_seq ?_
  refine awp_region rfl ?_
  refine wpo_mv (a := ((eL 1 eS) x0)) rfl rfl rfl (o_mv tk rfl (Wk.refl _)) ?_
  refine wpo_lt H eI rfl rfl rfl (o_len tk td98 rfl) fun v6 H5 => ?_
  refine wpo_mv (a := (eI (0 : Int))) rfl rfl rfl (o_mv tk rfl (Wk.refl _)) ?_
  refine wpo_nil ?_
  refine awp_block ?_
  obtain ⟨s16, hs10, hj11⟩ := Option.bind_eq_some_iff.1 H5
  refine awp_cutx 0 (fun fr τ => WkF fr (fm [(2, (.ref id1 0)), (3, (.ref id3 0))]) ∧ Holds σ [(id3, (cL (@eU .u64 64) s16)), (id1, (cL (@eU .u64 64) (List.replicate 2 0#64)))] [] τ) ?_ ?_
  · rintro fr τ ⟨hfr, hH⟩
    have H34 := hj11
    refine AWP.fm [(2, (.ref id1 0)), (3, (.ref id3 0))] hfr ?_
    refine awp_seq ?_
    refine awp_region rfl ?_
    refine wpo_bdr H34 (eA (@eU .u64 64)) rfl rfl rfl (fun v36 hv => h_ldw tk hH 0 hv rfl (enc_u td72 sz72) td92 sz92 rfl rfl) fun v36 hv36 H35 => ?_
    obtain ⟨c38, hc39, H37⟩ := Option.bind_eq_some_iff.1 H35
    refine wpo_z rfl rfl (h_stw tk hH 1 hc39 rfl (enc_u td72 sz72) ty92 rfl (by simp) rfl rfl) fun τ hH => ?_
    refine wpo_nil ?_
    refine awp_ret ?_
    obtain ⟨w40, hw40, H41⟩ := Option.bind_eq_some_iff.1 H37
    obtain ⟨hw40, rfl⟩ := whole_some hw40
    obtain rfl := Option.some.inj H41
    exact ⟨_, ((eA (@eU .u64 64)) w40), (ares_1 (ares_cell hH 1 rfl rfl (acut_whole (enc_u td72 sz72) td92 sz92 rfl (hw40)))), (.of_eq rfl), .of_eq ((cut_eA (enc_u td72 sz72).cut) _ _ _), ((hH.noT.drop n4).drop n2)⟩
  · refine awp_loopO (body := fun s => bloom_Of_b0 x0 v6 s.1 s.2) hs10 (fun (s : Int × (List (BitVec 64))) fr τ => WkF fr (fm [(2, (.ref id1 0)), (3, (.ref id3 0)), (6, ((eL 1 eS) x0)), (7, (eI v6)), (8, (eI s.1))]) ∧ Holds σ [(id3, (cL (@eU .u64 64) s.2)), (id1, (cL (@eU .u64 64) (List.replicate 2 0#64)))] [] τ) ⟨(wkf_cons (.of_eq rfl) (wkf_cons (.of_eq rfl) (wkf_cons (.of_eq rfl) (wkf_cons (.of_eq rfl) (wkf_cons (.of_eq rfl) (wkf_nil _)))))), hH⟩ ?_
    rintro ⟨c7, c8⟩ fr τ y12 ⟨hfr, hH⟩ hb14 hy15
    have H17 : bloom_Of_b0 x0 v6 c7 c8 = some y12 := hb14
    unfold bloom_Of_b0 at H17
    refine AWP.fm [(2, (.ref id1 0)), (3, (.ref id3 0)), (6, ((eL 1 eS) x0)), (7, (eI v6)), (8, (eI c7))] hfr ?_
    have hH : Holds σ [(id3, (cL (@eU .u64 64) c8)), (id1, (cL (@eU .u64 64) (List.replicate 2 0#64)))] [] τ := hH
    refine awp_seq ?_
    refine awp_region rfl ?_
    refine wpo_lt H17 eB rfl rfl rfl (o_ar tk rfl rfl rfl) fun v19 H18 => ?_
    refine wpo_nil ?_
    refine awp_seq ?_
    refine awp_if H18 rfl (fun H20 => ?_) (fun H20 => ?_)
    · refine awp_skip ?_
      refine awp_seq ?_
      refine awp_block ?_
      refine awp_seq ?_
      refine awp_region rfl ?_
      refine wpo_bd H20 (fun y => .fptr (eS y).cells 0) rfl rfl rfl (fun v22 hv => o_ixa tk hv td98 (enc_s td9 sz9) rfl rfl) fun v22 hv22 H21 => ?_
      refine wpo_mv (a := (eS v22)) rfl rfl rfl (o_ld_e tk (enc_s td9 sz9) rfl rfl) ?_
      refine wpo_mv (a := (eS v22)) rfl rfl rfl (o_as tk rfl (Wk.refl _)) ?_
      refine wpo_nil ?_
      refine awp_drawS mixed [4] rfl (by decide +kernel) rfl rfl ?_
      refine wpdS_bdr H21 (eA (@eU .u64 64)) rfl (by decide +kernel) rfl rfl (fun v24 hv => h_ldw tk hH 0 hv rfl (enc_u td72 sz72) td92 sz92 rfl rfl) fun v24 hv24 H23 => ?_
      refine wpdS_mv (a := (eS v22)) rfl rfl rfl (o_mv tk rfl (Wk.refl _)) ?_
      refine wpdS_bd H23 (@eU .u64 64) rfl rfl rfl (fun v26 hv => OpP.of_call rfl rfl (.cons (.of_eq rfl) .nil) (bloom_Hash_ok hv)) fun v26 hv26 H25 => ?_
      refine wpdS_bd H25 (eA (@eU .u64 64)) rfl rfl rfl (fun v28 hv => OpP.of_call rfl rfl (.cons (.of_eq rfl) (.cons (.of_eq rfl) .nil)) (bloom_Filter_Add_ok hv)) fun v28 hv28 H27 => ?_
      obtain ⟨c30, hc31, H29⟩ := Option.bind_eq_some_iff.1 H27
      refine wpdS_z rfl rfl rfl (h_stw tk hH 0 hc31 rfl (enc_u td72 sz72) ty92 rfl (by simp) rfl rfl) fun τ hH => ?_
      refine wpdS_nil ?_
      refine awp_region rfl ?_
      refine wpo_lt H29 eI rfl rfl rfl (o_ar tk rfl rfl rfl) fun v33 H32 => ?_
      refine wpo_mv (a := (eI v33)) rfl rfl rfl (o_mv tk rfl (Wk.refl _)) ?_
      refine wpo_nil ?_
      exact ⟨(v33, c30), inj_inl H32, (wkf_cons (.of_eq rfl) (wkf_cons (.of_eq rfl) (wkf_cons (.of_eq rfl) (wkf_cons (.of_eq rfl) (wkf_cons (.of_eq rfl) (wkf_nil _)))))), hH⟩
    · refine awp_exit ?_
      have hz := hy15 _ (inj_inr H20)
      subst hz
      exact ⟨⟨_, inj_inr H20⟩, (wkf_cons (.of_eq rfl) (wkf_cons (.of_eq rfl) (wkf_nil _))), hH⟩
end Go.Proofs.YtkmlinaofbcbaaaDoor
namespace Go.Proofs.YtkmlinaofbcbaaaDoor
open Go Go.Va
set_option linter.unusedVariables false
set_option linter.unusedSimpArgs false
set_option maxRecDepth 20000
theorem bucket_Filter_ok {x0 : List api_Entry} {r : (List (BitVec 64))} (H : bucket_Filter x0 = some r) (σ : St)  : ACall Tryd.prog 53 [((eL 5 e_api_Entry) x0)] σ (fun a τ => a = (eA (@eU .u64 64)) r ∧ τ = σ) := by
  unfold bucket_Filter at H
  refine ACall.pure (acall_start tk Tryd.func53 (by decide) rfl (Nat.le_of_ble_eq_true rfl) ?_)
  have hH := Holds.init σ
  refine awp_seq ?_
  refine awp_region rfl ?_
  refine wpo_a (av := fun id => .ref id 0) rfl rfl rfl (h_alloc tk hH ty92 (cL (@eU .u64 64) (List.replicate 2 0#64)) rfl) fun id1 τ ⟨hH, n2⟩ => ?_
  refine wpo_nil ?_
  refine awp_seq ?_
  refine awp_region rfl ?_
  refine wpo_mv (a := AV.nils) rfl rfl rfl (o_as tk rfl (Wk.refl _)) ?_
  refine wpo_nil ?_
  refine awp_seq ?_
  refine awp_seq ?_
  refine awp_region rfl ?_
  refine wpo_mv (a := ((eL 5 e_api_Entry) x0)) rfl rfl rfl (o_mv tk rfl (Wk.refl _)) ?_
  refine wpo_lt H eI rfl rfl rfl (o_len tk td60 rfl) fun v4 H3 => ?_
  refine wpo_mv (a := (eI (0 : Int))) rfl rfl rfl (o_mv tk rfl (Wk.refl _)) ?_
  refine wpo_nil ?_
  refine awp_block ?_
  refine AWP.tokN hH 3 1 rfl fun tk7 τ hH => ?_
  obtain ⟨s15, hs9, hj10⟩ := Option.bind_eq_some_iff.1 H3
  refine awp_cutx 0 (fun fr τ => ∃ tk_3, WkF fr (fm [(2, (.ref id1 0)), (3, (eT tk_3 1 eS s15))]) ∧ Holds σ [(id1, (cL (@eU .u64 64) (List.replicate 2 0#64)))] [tk_3] τ) ?_ ?_
  · rintro fr τ ⟨tk_3, hfr, hH⟩
    have H33 := hj10
    refine AWP.fm [(2, (.ref id1 0)), (3, (eT tk_3 1 eS s15))] hfr ?_
    refine awp_seq ?_
    refine awp_region rfl ?_
    refine wpo_mv (a := (eT tk_3 1 eS s15)) rfl rfl rfl (o_mv tk rfl (Wk.refl _)) ?_
    refine wpo_bd H33 (eA (@eU .u64 64)) rfl rfl rfl (fun v35 hv => OpP.of_call rfl rfl (.cons wk_no .nil) (bloom_Of_ok hv)) fun v35 hv35 H34 => ?_
    obtain ⟨c37, hc38, H36⟩ := Option.bind_eq_some_iff.1 H34
    refine wpo_z rfl rfl (h_stw tk hH 0 hc38 rfl (enc_u td72 sz72) ty92 rfl (by simp) rfl rfl) fun τ hH => ?_
    refine wpo_nil ?_
    refine awp_ret ?_
    obtain ⟨w39, hw39, H40⟩ := Option.bind_eq_some_iff.1 H36
    obtain ⟨hw39, rfl⟩ := whole_some hw39
    obtain rfl := Option.some.inj H40
    exact ⟨_, ((eA (@eU .u64 64)) w39), (ares_1 (ares_cell hH 0 rfl rfl (acut_whole (enc_u td72 sz72) td92 sz92 rfl (hw39)))), (.of_eq rfl), .of_eq ((cut_eA (enc_u td72 sz72).cut) _ _ _), (hH.noT.drop n2)⟩
  · refine awp_loopO (body := fun s => bucket_Filter_b0 x0 v4 s.1 s.2) hs9 (fun (s : (List (List (BitVec 8))) × Int) fr τ => ∃ tk_3, WkF fr (fm [(2, (.ref id1 0)), (3, (eT tk_3 1 eS s.1)), (6, ((eL 5 e_api_Entry) x0)), (7, (eI v4)), (8, (eI s.2))]) ∧ Holds σ [(id1, (cL (@eU .u64 64) (List.replicate 2 0#64)))] [tk_3] τ) ⟨tk7, (wkf_cons (.of_eq rfl) (wkf_cons (.of_eq rfl) (wkf_cons (.of_eq rfl) (wkf_cons (.of_eq rfl) (wkf_cons (.of_eq rfl) (wkf_nil _)))))), hH⟩ ?_
    rintro ⟨c5, c6⟩ fr τ y11 ⟨tk_3, hfr, hH⟩ hb13 hy14
    have H16 : bucket_Filter_b0 x0 v4 c5 c6 = some y11 := hb13
    unfold bucket_Filter_b0 at H16
    refine AWP.fm [(2, (.ref id1 0)), (3, (eT tk_3 1 eS c5)), (6, ((eL 5 e_api_Entry) x0)), (7, (eI v4)), (8, (eI c6))] hfr ?_
    have hH : Holds σ [(id1, (cL (@eU .u64 64) (List.replicate 2 0#64)))] [tk_3] τ := hH
    refine awp_seq ?_
    refine awp_region rfl ?_
    refine wpo_lt H16 eB rfl rfl rfl (o_ar tk rfl rfl rfl) fun v18 H17 => ?_
    refine wpo_nil ?_
    refine awp_seq ?_
    refine awp_if H17 rfl (fun H19 => ?_) (fun H19 => ?_)
    · refine awp_skip ?_
      refine awp_seq ?_
      refine awp_block ?_
      refine awp_seq ?_
      refine awp_region rfl ?_
      refine wpo_bd H19 (fun y => .fptr (e_api_Entry y).cells 0) rfl rfl rfl (fun v21 hv => o_ixa tk hv td60 enc24 rfl rfl) fun v21 hv21 H20 => ?_
      refine wpo_mv (a := (e_api_Entry v21)) rfl rfl rfl (o_ld_e tk enc24 rfl rfl) ?_
      refine wpo_a (av := fun id => .ref id 0) rfl rfl rfl (h_alloc tk hH ty24 [(eS z_api_Entry.Key), (eI z_api_Entry.Version), (eI z_api_Entry.AsOf), (eI z_api_Entry.Ends), AV.nils] rfl) fun id22 τ ⟨hH, n23⟩ => ?_
      refine wpo_z rfl rfl (h_st tk hH 0 rfl ty24 (by simp) rfl rfl (.of_eq rfl) (b := (e_api_Entry v21)) (enc24.flat _) rfl (Nat.le_of_ble_eq_true rfl) (c_api_Entry (v21 : api_Entry)) rfl) fun τ hH => ?_
      refine wpo_nil ?_
      refine awp_region rfl ?_
      refine wpo_mv (a := (eT tk_3 1 eS c5)) rfl rfl rfl (o_mv tk rfl (Wk.refl _)) ?_
      refine wpo_mv (a := (.ref id22 0)) rfl rfl rfl (o_c tk false rfl (fun _ => rfl)) ?_
      refine wpo_rd (a := (eS (v21 : api_Entry).Key)) rfl rfl rfl (h_ld tk hH 0 rfl rfl rfl) ?_
      refine wpo_lt H20 (eF 1 eS) rfl rfl rfl (o_c tk false rfl (fun _ => rfl)) fun v26 H25 => ?_
      obtain ⟨v28, hv29, H27⟩ := Option.bind_eq_some_iff.1 H25
      refine wpo_a (av := fun t => eT t 1 eS v28) rfl rfl rfl (h_app tk hH 0 hv29 rfl td98 ty9 rfl (by decide) rfl (src_l td98 rfl)) fun tk30 τ hH => ?_
      refine wpo_mv (a := (eT tk30 1 eS v28)) rfl rfl rfl (o_as tk rfl (Wk.refl _)) ?_
      refine wpo_nil ?_
      refine awp_region rfl ?_
      refine wpo_lt H27 eI rfl rfl rfl (o_ar tk rfl rfl rfl) fun v32 H31 => ?_
      refine wpo_mv (a := (eI v32)) rfl rfl rfl (o_mv tk rfl (Wk.refl _)) ?_
      refine wpo_nil ?_
      exact ⟨(v28, v32), inj_inl H31, tk30, (wkf_cons (.of_eq rfl) (wkf_cons (.of_eq rfl) (wkf_cons (.of_eq rfl) (wkf_cons (.of_eq rfl) (wkf_cons (.of_eq rfl) (wkf_nil _)))))), (hH.drop n23)⟩
    · refine awp_exit ?_
      have hz := hy14 _ (inj_inr H19)
      subst hz
      exact ⟨⟨_, inj_inr H19⟩, tk_3, (wkf_cons (.of_eq rfl) (wkf_cons (.of_eq rfl) (wkf_nil _))), hH⟩
end Go.Proofs.YtkmlinaofbcbaaaDoor
namespace Go.Proofs.YtkmlinaofbcbaaaDoor
open Go Go.Va
set_option linter.unusedVariables false
set_option linter.unusedSimpArgs false
set_option maxRecDepth 20000
theorem bloom_Filter_May_ok {x0 : List (BitVec 64)} {x1 : BitVec 64} {r : Bool} (H : bloom_Filter_May x0 x1 = some r) (σ : St)  : ACall Tryd.prog 54 [((eA (@eU .u64 64)) x0), ((@eU .u64 64) x1)] σ (fun a τ => a = eB r ∧ τ = σ) := by
  unfold bloom_Filter_May at H
  refine ACall.pure (acall_start tk Tryd.func54 (by decide) rfl (Nat.le_of_ble_eq_true rfl) ?_)
  have hH := Holds.init σ
  refine awp_seq ?_
  refine awp_region rfl ?_
  refine wpo_mv (a := (.fptr (cL (@eU .u64 64) x0) 0)) rfl rfl rfl (o_boxf tk rfl (.of_eq rfl) (b := ((eA (@eU .u64 64)) x0)) (all_flat_cL (enc_u td72 sz72) x0)) ?_
  refine wpo_mv (a := (eB false)) rfl rfl rfl (o_as tk rfl (Wk.refl _)) ?_
  refine wpo_nil ?_
  refine awp_seq ?_
  refine awp_seq ?_
  refine awp_region rfl ?_
  refine wpo_mv (a := ((@eU .u64 64) x1)) rfl rfl rfl (o_mv tk rfl (Wk.refl _)) ?_
  refine wpo_bd H (eA eI) rfl rfl rfl (fun v2 hv => OpP.of_call rfl rfl (.cons (.of_eq rfl) .nil) (bloom_bits_ok hv)) fun v2 hv2 H1 => ?_
  refine wpo_mv (a := (eI (0 : Int))) rfl rfl rfl (o_mv tk rfl (Wk.refl _)) ?_
  refine wpo_nil ?_
  refine awp_block ?_
  obtain ⟨o4, hs5, hj6⟩ := Option.bind_eq_some_iff.1 H1
  refine awp_cutx 0 (fun fr τ => ∃ s11 : Unit, o4 = .inl s11 ∧ WkF fr (fm []) ∧ Holds σ [] [] τ) ?_ ?_
  · rintro fr τ ⟨s11, rfl, hfr, hH⟩
    have H34 := hj6
    simp only [Sum.elim_inl] at H34
    refine AWP.fm [] hfr ?_
    refine awp_seq ?_
    refine awp_region rfl ?_
    refine wpo_mv (a := (eB true)) rfl rfl rfl (o_as tk rfl (Wk.refl _)) ?_
    refine wpo_nil ?_
    refine awp_ret ?_
    obtain rfl := Option.some.inj H34
    exact ⟨_, (eB true), rfl, (.of_eq rfl), .of_eq ((enc_b td4 sz4).cut _ _ _), hH.noT⟩
  · refine awp_loopO (body := fun s => bloom_Filter_May_b0 x0 v2 s) hs5 (fun (s : Int) fr τ => WkF fr (fm [(2, (.fptr (cL (@eU .u64 64) x0) 0)), (8, ((eA eI) v2)), (9, (eI s))]) ∧ Holds σ [] [] τ) ⟨(wkf_cons (.of_eq rfl) (wkf_cons (.of_eq rfl) (wkf_cons (.of_eq rfl) (wkf_nil _)))), hH⟩ ?_
    rintro c3 fr τ y7 ⟨hfr, hH⟩ hb9 hy10
    have H12 : bloom_Filter_May_b0 x0 v2 c3 = some y7 := hb9
    unfold bloom_Filter_May_b0 at H12
    refine AWP.fm [(2, (.fptr (cL (@eU .u64 64) x0) 0)), (8, ((eA eI) v2)), (9, (eI c3))] hfr ?_
    have hH : Holds σ [] [] τ := hH
    refine awp_seq ?_
    refine awp_region rfl ?_
    refine wpo_lt H12 eB rfl rfl rfl (o_ar tk rfl rfl rfl) fun v14 H13 => ?_
    refine wpo_nil ?_
    refine awp_seq ?_
    refine awp_if H13 rfl (fun H15 => ?_) (fun H15 => ?_)
    · refine awp_skip ?_
      refine awp_seq ?_
      refine awp_block ?_
      refine awp_seq ?_
      refine awp_region rfl ?_
      refine wpo_bd H15 eI rfl rfl rfl (fun v17 hv => o_vix tk hv td149 (enc_i64 td3 sz3) rfl rfl rfl) fun v17 hv17 H16 => ?_
      refine wpo_mv (a := (eI v17)) rfl rfl rfl (o_as tk rfl (Wk.refl _)) ?_
      refine wpo_nil ?_
      refine awp_seq ?_
      refine awp_region rfl ?_
      refine wpo_mv (a := (eI v17)) rfl rfl rfl (o_mv tk rfl (Wk.refl _)) ?_
      refine wpo_lt H16 eI rfl rfl rfl (o_shr tk (y := (6 : Int)) rfl rfl rfl) fun v19 H18 => ?_
      refine wpo_bd H18 (fun _ => .fptr (cL (@eU .u64 64) x0) (0 + (v19 : Int).toNat * 1 + 0)) rfl rfl rfl (fun v21 hv => o_fixx tk hv td92 sz72 (by decide) rfl rfl) fun v21 hv21 H20 => ?_
      refine wpo_mv (a := ((@eU .u64 64) v21)) rfl rfl rfl (o_ld tk rfl (acut_ixA (enc_u td72 sz72) hv21 (acut_enc (enc_u td72 sz72) rfl _) (by decide))) ?_
      refine wpo_mv (a := (eI v17)) rfl rfl rfl (o_mv tk rfl (Wk.refl _)) ?_
      refine wpo_lt H20 eI rfl rfl rfl (o_ar tk rfl rfl rfl) fun v23 H22 => ?_
      refine wpo_bd H22 (@eU .u64 64) rfl rfl rfl (fun v25 hv => om_shr_u tk rfl hv rfl rfl) fun v25 hv25 H24 => ?_
      refine wpo_lt H24 (@eU .u64 64) rfl rfl rfl (o_and_u tk rfl rfl rfl) fun v27 H26 => ?_
      refine wpo_lt H26 eB rfl rfl rfl (o_eql_u tk rfl rfl) fun v29 H28 => ?_
      refine wpo_nil ?_
      refine awp_if H28 rfl (fun H30 => ?_) (fun H30 => ?_)
      · refine awp_seq ?_
        refine awp_region rfl ?_
        refine wpo_mv (a := (eB false)) rfl rfl rfl (o_as tk rfl (Wk.refl _)) ?_
        refine wpo_nil ?_
        refine awp_ret ?_
        have hz := hy10 _ (inj_inr H30)
        refine ⟨⟨_, inj_inr H30⟩, ?_⟩
        rw [← hz] at hj6
        have H31 := (show some _ = some _ from hj6)
        obtain rfl := Option.some.inj H31
        exact ⟨_, (eB false), rfl, (.of_eq rfl), .of_eq ((enc_b td4 sz4).cut _ _ _), hH.noT⟩
      · refine awp_skip ?_
        refine awp_region rfl ?_
        refine wpo_lt H30 eI rfl rfl rfl (o_ar tk rfl rfl rfl) fun v33 H32 => ?_
        refine wpo_mv (a := (eI v33)) rfl rfl rfl (o_mv tk rfl (Wk.refl _)) ?_
        refine wpo_nil ?_
        exact ⟨v33, inj_inl H32, (wkf_cons (.of_eq rfl) (wkf_cons (.of_eq rfl) (wkf_cons (.of_eq rfl) (wkf_nil _)))), hH⟩
    · refine awp_exit ?_
      have hz := hy10 _ (inj_inr H15)
      exact ⟨⟨_, inj_inr H15⟩, (), hz.symm, (wkf_nil _), hH⟩
end Go.Proofs.YtkmlinaofbcbaaaDoor
