/- Nothing that has ended is got; behind a sweep there is nothing that has ended, and all else is as it was. (part 6 of 8) -/
import Derived.Test.YtggeboakilalhaaDoorKRamEnds5
namespace Go.Proofs.YtggeboakilalhaaDoor
open Go Go.Va
set_option linter.unusedVariables false
set_option linter.unusedSimpArgs false
set_option maxRecDepth 20000
theorem L06_Light_ok {x0 : List aEn} {r : Int} (H : L06_Light x0 = some r) (σ : St)  : ACall Tryd.prog 20 [((eL 5 e_aEn) x0)] σ (fun a τ => a = eI r ∧ τ = σ) := by
 unfold L06_Light at H
 refine ACall.pure (acall_start tk Tryd.func20 (by decide) rfl (nb rfl) ?_)
 have hH := Holds.init σ
 refine sr rfl (ma tk (eI (0 : Int)) rfl rfl (wpo_nil (awp_seq (sr rfl (mm tk ((eL 5 e_aEn) x0) rfl rfl ?_)))))
 refine l_ H eI rfl (o_len tk td31 rfl) fun v2 H1 => ?_
 refine l_ H1 eB rfl (o_ar tk rfl rfl rfl) fun v4 H3 => ?_
 refine wpo_nil ?_
 refine awp_if H3 rfl (fun H5 => ?_) (fun H5 => ?_)
 ·refine sr rfl (ma tk (eI (1 : Int)) rfl rfl (wpo_nil (awp_ret ?_)))
  obtain rfl := oi H5
  exact ⟨_, (eI (1 : Int)), rfl, wr, .of_eq ((enc_i64 td3 sz3).cut _ _ _), hH.noT⟩
 ·refine awp_skip (sr rfl (ma tk (eI (0 : Int)) rfl rfl (wpo_nil (awp_seq (sr rfl (ma tk (eI (0 : Int)) rfl rfl (wpo_nil (awp_block ?_))))))))
  obtain ⟨o8, hs9, hj10⟩ := ob H5
  refine awp_cutx 0 (fun fr τ => ∃ s15 : Unit, o8 = .inl s15 ∧ WkF fr (fm []) ∧ Holds σ [] [] τ) ?_ ?_
  ·rintro fr τ ⟨s15, rfl, hfr, hH⟩
   have H54 := hj10
   simp only [Sum.elim_inl] at H54
   refine AWP.fm [] hfr ?_
   refine sr rfl (ma tk (eI (0 : Int)) rfl rfl (wpo_nil (awp_ret ?_)))
   obtain rfl := oi H54
   exact ⟨_, (eI (0 : Int)), rfl, wr, .of_eq ((enc_i64 td3 sz3).cut _ _ _), hH.noT⟩
  ·refine awp_loopO (body := fun s => L06_Light_b0 x0 s.1 s.2) hs9 (fun (s : Int × Int) fr τ => WkF fr (fm [(0, ((eL 5 e_aEn) x0)), (3, (eI s.1)), (4, (eI s.2))]) ∧ Holds σ [] [] τ) ⟨(wc (wc (wc (wkf_nil _)))), hH⟩ ?_
   rintro ⟨c6, c7⟩ fr τ y11 ⟨hfr, hH⟩ hb13 hy14
   have H16 : L06_Light_b0 x0 c6 c7 = some y11 := hb13
   unfold L06_Light_b0 at H16
   refine AWP.fm [(0, ((eL 5 e_aEn) x0)), (3, (eI c6)), (4, (eI c7))] hfr ?_
   have hH : Holds σ [] [] τ := hH
   refine awp_seq (sr rfl (mm tk (eI c7) rfl rfl (mm tk ((eL 5 e_aEn) x0) rfl rfl ?_)))
   refine l_ H16 eI rfl (o_len tk td31 rfl) fun v18 H17 => ?_
   refine l_ H17 eB rfl (o_ar tk rfl rfl rfl) fun v20 H19 => ?_
   refine wpo_nil ?_
   refine awp_if H19 rfl (fun H21 => ?_) (fun H21 => ?_)
   ·refine awp_skip (awp_seq (awp_block (awp_seq (awp_seq ?_))))
    obtain ⟨s22, hs24, hj25⟩ := ob H21
    refine awp_cutn (fun fr τ => WkF fr (fm [(0, ((eL 5 e_aEn) x0)), (3, (eI c6)), (4, (eI c7)), (29, (eB s22))]) ∧ Holds σ [] [] τ) ?_ ?_
    ·rintro fr τ ⟨hfr, hH⟩
     have H39 := hj25
     refine AWP.fm [(0, ((eL 5 e_aEn) x0)), (3, (eI c6)), (4, (eI c7)), (29, (eB s22))] hfr ?_
     refine awp_if H39 rfl (fun H40 => ?_) (fun H40 => ?_)
     ·refine sr rfl (ma tk (eI (1 : Int)) rfl rfl (wpo_nil (awp_ret ?_)))
      have hz := hy14 _ (inj_inr H40)
      refine ⟨⟨_, inj_inr H40⟩, ?_⟩
      rw [← hz] at hj10
      have H41 := (show some _ = some _ from hj10)
      obtain rfl := oi H41
      exact ⟨_, (eI (1 : Int)), rfl, wr, .of_eq ((enc_i64 td3 sz3).cut _ _ _), hH.noT⟩
     ·refine awp_skip (sr rfl (mm tk (eI c6) rfl rfl (mm tk ((eL 5 e_aEn) x0) rfl rfl (mm tk (eI c7) rfl rfl ?_))))
      refine b_ H40 (fun y => .fptr (e_aEn y).cells 0) rfl (fun v43 hv => o_ixa tk hv td31 enc39 rfl rfl) fun v43 hv43 H42 => ?_
      refine mc tk (.fptr (c_aEn v43) 4) rfl rfl (fun _ => rfl) (m_ ((eL 1 (@eU .u8 8)) v43.Value) rfl (o_ld tk rfl rfl) ?_)
      refine l_ H42 eI rfl (o_len tk td37 rfl) fun v45 H44 => ?_
      refine l_ H44 eI rfl (o_ar tk rfl rfl rfl) fun v47 H46 => ?_
      refine ma tk (eI v47) rfl rfl (wpo_nil (sr rfl (mm tk (eI v47) rfl rfl ?_)))
      refine l_ H46 eB rfl (o_ar tk rfl rfl rfl) fun v49 H48 => ?_
      refine wpo_nil ?_
      refine awp_if H48 rfl (fun H50 => ?_) (fun H50 => ?_)
      ·refine sr rfl (ma tk (eI (1 : Int)) rfl rfl (wpo_nil (awp_ret ?_)))
       have hz := hy14 _ (inj_inr H50)
       refine ⟨⟨_, inj_inr H50⟩, ?_⟩
       rw [← hz] at hj10
       have H51 := (show some _ = some _ from hj10)
       obtain rfl := oi H51
       exact ⟨_, (eI (1 : Int)), rfl, wr, .of_eq ((enc_i64 td3 sz3).cut _ _ _), hH.noT⟩
      ·refine awp_skip (awp_region rfl (mm tk (eI c7) rfl rfl ?_))
       refine l_ H50 eI rfl (o_ar tk rfl rfl rfl) fun v53 H52 => ?_
       refine ma tk (eI v53) rfl rfl (wpo_nil ?_)
       exact ⟨(v47, v53), inj_inl H52, (wc (wc (wc (wkf_nil _)))), hH⟩
    ·refine awp_region rfl (mm tk ((eL 5 e_aEn) x0) rfl rfl (mm tk (eI c7) rfl rfl ?_))
     refine b_ hs24 (fun y => .fptr (e_aEn y).cells 0) rfl (fun v27 hv => o_ixa tk hv td31 enc39 rfl rfl) fun v27 hv27 H26 => ?_
     refine mc tk (.fptr (c_aEn v27) 0) rfl rfl (fun _ => rfl) (m_ (eS v27.Key) rfl (o_ld tk rfl rfl) ?_)
     refine l_ H26 eI rfl (o_len_s tk td9 rfl) fun v29 H28 => ?_
     refine l_ H28 eB rfl (o_ar tk rfl rfl rfl) fun v31 H30 => ?_
     refine mm tk (eB v31) rfl rfl ?_
     refine if_split H30 (fun hb H32 => ?_) (fun hb H32 => ?_)
     ·subst hb
      refine k_ rfl (k_ rfl (k_ rfl (k_ rfl (k_ rfl (k_ rfl (k_ rfl (pt tk (eB true) rfl rfl rfl (wpo_nil ?_))))))))
      have e := oi H32
      subst e
      exact ⟨(wc (wc (wc (wc (wkf_nil _))))), hH⟩
     ·subst hb
      refine mm tk ((eL 5 e_aEn) x0) rfl rfl (mm tk (eI c7) rfl rfl ?_)
      refine b_ H32 (fun y => .fptr (e_aEn y).cells 0) rfl (fun v34 hv => o_ixa tk hv td31 enc39 rfl rfl) fun v34 hv34 H33 => ?_
      refine mc tk (.fptr (c_aEn v34) 4) rfl rfl (fun _ => rfl) (m_ ((eL 1 (@eU .u8 8)) v34.Value) rfl (o_ld tk rfl rfl) ?_)
      refine l_ H33 eI rfl (o_len tk td37 rfl) fun v36 H35 => ?_
      refine l_ H35 eB rfl (o_ar tk rfl rfl rfl) fun v38 H37 => ?_
      refine pf tk (eB v38) rfl rfl rfl (wpo_nil ?_)
      have e := oi H37
      subst e
      exact ⟨(wc (wc (wc (wc (wkf_nil _))))), hH⟩
   ·refine awp_exit ?_
    have hz := hy14 _ (inj_inr H21)
    exact ⟨⟨_, inj_inr H21⟩, (), hz.symm, (wkf_nil _), hH⟩
theorem L11_light_ok {x0 : List L11_Op} {r : Bool} (H : L11_light x0 = some r) (σ : St)  : ACall Tryd.prog 6 [((eL 7 e_L11_Op) x0)] σ (fun a τ => a = eB r ∧ τ = σ) := by
 unfold L11_light at H
 refine ACall.pure (acall_start tk Tryd.func6 (by decide) rfl (nb rfl) ?_)
 have hH := Holds.init σ
 refine sr rfl (ma tk (eB false) rfl rfl (wpo_nil (awp_seq (sr rfl (mm tk ((eL 7 e_L11_Op) x0) rfl rfl ?_)))))
 refine l_ H eI rfl (o_len tk td23 rfl) fun v2 H1 => ?_
 refine l_ H1 eB rfl (o_ar tk rfl rfl rfl) fun v4 H3 => ?_
 refine wpo_nil ?_
 refine awp_if H3 rfl (fun H5 => ?_) (fun H5 => ?_)
 ·refine sr rfl (ma tk (eB false) rfl rfl (wpo_nil (awp_ret ?_)))
  obtain rfl := oi H5
  exact ⟨_, (eB false), rfl, wr, .of_eq ((enc_b td4 sz4).cut _ _ _), hH.noT⟩
 ·refine awp_skip (sr rfl (ma tk AV.nils rfl rfl (wpo_nil (awp_seq (sr rfl (ma tk (eI (0 : Int)) rfl rfl (wpo_nil (awp_block ?_))))))))
  refine AWP.tokN hH 3 5 rfl fun tk8 τ hH => ?_
  obtain ⟨s16, hs10, hj11⟩ := ob H5
  refine awp_cutx 0 (fun fr τ => ∃ tk_3, WkF fr (fm [(3, (eT tk_3 5 e_aEn s16))]) ∧ Holds σ [] [tk_3] τ) ?_ ?_
  ·rintro fr τ ⟨tk_3, hfr, hH⟩
   have H33 := hj11
   refine AWP.fm [(3, (eT tk_3 5 e_aEn s16))] hfr ?_
   refine sr rfl (mm tk (eT tk_3 5 e_aEn s16) rfl rfl ?_)
   refine b_ H33 eI rfl (fun v35 hv => OpP.of_call rfl rfl (.cons wk_no .nil) (L06_Light_ok hv)) fun v35 hv35 H34 => ?_
   refine l_ H34 eB rfl (o_ar tk rfl rfl rfl) fun v37 H36 => ?_
   refine ma tk (eB v37) rfl rfl (wpo_nil (awp_ret ?_))
   obtain rfl := oi H36
   exact ⟨_, (eB v37), rfl, wr, .of_eq ((enc_b td4 sz4).cut _ _ _), hH.noT⟩
  ·refine awp_loopO (body := fun s => L11_light_b0 x0 s.1 s.2) hs10 (fun (s : (List aEn) × Int) fr τ => ∃ tk_3, WkF fr (fm [(0, ((eL 7 e_L11_Op) x0)), (3, (eT tk_3 5 e_aEn s.1)), (4, (eI s.2))]) ∧ Holds σ [] [tk_3] τ) ⟨tk8, (wc (wc (wc (wkf_nil _)))), hH⟩ ?_
   rintro ⟨c6, c7⟩ fr τ y12 ⟨tk_3, hfr, hH⟩ hb14 hy15
   have H17 : L11_light_b0 x0 c6 c7 = some y12 := hb14
   unfold L11_light_b0 at H17
   refine AWP.fm [(0, ((eL 7 e_L11_Op) x0)), (3, (eT tk_3 5 e_aEn c6)), (4, (eI c7))] hfr ?_
   have hH : Holds σ [] [tk_3] τ := hH
   refine awp_seq (sr rfl (mm tk (eI c7) rfl rfl (mm tk ((eL 7 e_L11_Op) x0) rfl rfl ?_)))
   refine l_ H17 eI rfl (o_len tk td23 rfl) fun v19 H18 => ?_
   refine l_ H18 eB rfl (o_ar tk rfl rfl rfl) fun v21 H20 => ?_
   refine wpo_nil ?_
   refine awp_if H20 rfl (fun H22 => ?_) (fun H22 => ?_)
   ·refine awp_skip (awp_seq (awp_block (awp_region rfl (mm tk (eT tk_3 5 e_aEn c6) rfl rfl (mm tk ((eL 7 e_L11_Op) x0) rfl rfl (mm tk (eI c7) rfl rfl ?_))))))
    refine b_ H22 (fun y => .fptr (e_L11_Op y).cells 0) rfl (fun v24 hv => o_ixa tk hv td23 enc41 rfl rfl) fun v24 hv24 H23 => ?_
    refine mc tk (.fptr (c_L11_Op v24) 1) rfl rfl (fun _ => rfl) (m_ (e_aEn v24.X) rfl (o_ld tk rfl rfl) ?_)
    refine l_ H23 (eF 5 e_aEn) rfl (o_c tk false rfl (fun _ => rfl)) fun v26 H25 => ?_
    obtain ⟨v28, hv29, H27⟩ := ob H25
    refine wpo_a (av := fun t => eT t 5 e_aEn v28) rfl rfl rfl (h_app tk hH 0 hv29 rfl td31 ty39 rfl (by decide) rfl (src_l td31 rfl)) fun tk30 τ hH => ?_
    refine ma tk (eT tk30 5 e_aEn v28) rfl rfl (wpo_nil (awp_region rfl (mm tk (eI c7) rfl rfl ?_)))
    refine l_ H27 eI rfl (o_ar tk rfl rfl rfl) fun v32 H31 => ?_
    refine ma tk (eI v32) rfl rfl (wpo_nil ?_)
    exact ⟨(v28, v32), inj_inl H31, tk30, (wc (wc (wc (wkf_nil _)))), hH⟩
   ·refine awp_exit ?_
    have hz := hy15 _ (inj_inr H22)
    subst hz
    exact ⟨⟨_, inj_inr H22⟩, tk_3, (wc (wkf_nil _)), hH⟩
end Go.Proofs.YtggeboakilalhaaDoor
namespace Go.Va
open Go Go.RowKit
set_option linter.unusedVariables false
set_option linter.unusedSimpArgs false
section
variable {P : Program} {σ0 σ : St} {O : List (Nat × List AV)} {A' : List Nat} {fr : Nat → AV}
theorem wk_tupj (a : AV) (l : List AV) : Wk (.tup (a :: l)) (.tup (.junk :: l)) := by
  intro G v h
  cases h with
  | tup vs _ hl hh =>
    refine .tup vs _ (by simpa using hl) fun i v b h1 h2 => ?_
    cases i with
    | zero => cases (Option.some.inj h2 : AV.junk = b); exact .junk _
    | succ i => exact hh (i + 1) v b h1 h2
theorem OpS.toK {o : Oper} {a b : AV} {τ : St} (h : OpS P o fr σ fun a' τ' => a' = a ∧ τ' = τ) (hw : Wk a b) : OpS P o fr σ fun a' τ' => a' = b ∧ τ' = τ :=
  fun w0 G act w Q K' hI hr hK => h w0 G act w Q K' hI hr fun v a σ' w' G' k hle hI' hrel => hK v b σ' w' G' ⟨rfl, k.2⟩ hle hI' (hw _ _ (k.1 ▸ hrel))
theorem h_callnbj (hH : Holds σ0 O A' σ) {α : Type} {B : (Nat → Nat) → α → List (List AV)} {rest : List AV} {z : Option α} {o : Oper} {f : Operand} {xs : List Operand} {gg : FuncId} {first cap args : List AV} (hc : callOf o = some (f, xs)) (hf : aeval fr f = .fn (.func gg) first cap) (hargs : WkL (first ++ xs.map (aeval fr) ++ cap) args)
    (hcall : ACall P gg args σ (fun a τ => NewB B rest σ z a τ)) : ∃ (_ : Nat) (τ : St), OpS P o fr σ (fun a' τ' => a' = .tup (.junk :: rest) ∧ τ' = τ) ∧ Holds σ0 O A' τ := by
  cases z with
  | none => exact ⟨0, σ, OpS.toK (OpS.of_call hc hf hargs hcall) (wk_tupj _ _), hH⟩
  | some c =>
    refine ⟨0, _, OpS.toK (OpS.of_call hc hf hargs hcall) (wk_tupj _ _), ?_⟩
    have k := hH.addL (B (fun i => σ.objs.length + i) c)
    have hd : ∀ (l : List (List AV)) (i : Nat) (τ : St), Holds σ0 (zipB (fun i => σ.objs.length + i) i l ++ O) A' τ → Holds σ0 O A' τ := by
      intro l
      induction l with
      | nil => exact fun _ _ h => h
      | cons x l ih => exact fun i τ h => ih (i + 1) τ (h.drop (Nat.le_trans hH.olen (Nat.le_add_right _ _)))
    exact hd _ _ _ k
end
end Go.Va
namespace Go.Proofs.YtggeboakilalhaaDoor
open Go Go.Va
set_option linter.unusedVariables false
set_option linter.unusedSimpArgs false
set_option maxRecDepth 20000
theorem slab_Budget_Used_ok {x0 : slab_Budget} {r : Int} (H : slab_Budget_Used x0 = some r) (σ : St) {p0 : Nat} (h0 : σ.objs[p0]? = some (c_slab_Budget x0)) : ACall Tryd.prog 54 [(.ref p0 0)] σ (fun a τ => a = eI r ∧ τ = σ) := by
 unfold slab_Budget_Used at H
 refine ACall.pure (acall_start tk Tryd.func54 (by decide) rfl (nb rfl) ?_)
 have hH := Holds.init σ
 have hH := hH.bring h0 (fun _ h => by cases h)
 refine sr rfl (ma tk (eI (0 : Int)) rfl rfl (wpo_nil (sr rfl (mm tk (.ref p0 0) rfl rfl (mc tk (.ref p0 0) rfl rfl (fun _ => rfl) (mc tk (.ref p0 1) rfl rfl (fun _ => rfl) (wpo_rd (a := (eI x0.used)) rfl rfl rfl (h_ld tk hH 0 rfl (g_slab_Budget_used _) rfl) (ma tk (eI x0.used) rfl rfl ?_))))))))
 refine wpo_nil (awp_ret ?_)
 obtain rfl := oi H
 exact ⟨_, (eI x0.used), rfl, wr, .of_eq ((enc_i64 td3 sz3).cut _ _ _), (hH.noT.unbring h0)⟩
theorem ram_Ram_Used_ok {x0 : ram_Ram} {r : Int} (H : ram_Ram_Used x0 = some r) (σ : St) {p0 p0B p0I p0N p0F p0L p0C p0H p0X p0G : Nat} (h0 : σ.objs[p0]? = some [(.ref p0B 0), (.ref p0I 0), (.vec p0H 1 (x0.heads).length), (.vec p0X 1 (x0.next_).length), (.vec p0G 5 (x0.things).length), (eI x0.count)]) (h0_budget : σ.objs[p0B]? = some (c_slab_Budget x0.budget)) (h0_lists : σ.objs[p0I]? = some [(.vec p0N 4 (x0.lists.nodes).length), (.vec p0F 1 (x0.lists.first_).length), (.vec p0L 1 (x0.lists.last_).length), (.vec p0C 1 (x0.lists.count).length), (eI x0.lists.free), (eI x0.lists.clock)]) (h0_lists_nodes : σ.objs[p0N]? = some (cL e_lists_link x0.lists.nodes)) (h0_lists_first_ : σ.objs[p0F]? = some (cL eI x0.lists.first_)) (h0_lists_last_ : σ.objs[p0L]? = some (cL eI x0.lists.last_)) (h0_lists_count : σ.objs[p0C]? = some (cL eI x0.lists.count)) (h0_heads : σ.objs[p0H]? = some (cL eI x0.heads)) (h0_next_ : σ.objs[p0X]? = some (cL eI x0.next_)) (h0_things : σ.objs[p0G]? = some (cL e_aEn x0.things)) (hd : [p0, p0B, p0I, p0N, p0F, p0L, p0C, p0H, p0X, p0G].Pairwise fun a b => a ≠ b) : ACall Tryd.prog 17 [(.ref p0 0)] σ (fun a τ => a = eI r ∧ τ = σ) := by
 unfold ram_Ram_Used at H
 refine ACall.pure (acall_start tk Tryd.func17 (by decide) rfl (nb rfl) ?_)
 have hH := Holds.brings (σ := σ) [(p0, [(.ref p0B 0), (.ref p0I 0), (.vec p0H 1 (x0.heads).length), (.vec p0X 1 (x0.next_).length), (.vec p0G 5 (x0.things).length), (eI x0.count)]), (p0B, (c_slab_Budget x0.budget)), (p0I, [(.vec p0N 4 (x0.lists.nodes).length), (.vec p0F 1 (x0.lists.first_).length), (.vec p0L 1 (x0.lists.last_).length), (.vec p0C 1 (x0.lists.count).length), (eI x0.lists.free), (eI x0.lists.clock)]), (p0N, (cL e_lists_link x0.lists.nodes)), (p0F, (cL eI x0.lists.first_)), (p0L, (cL eI x0.lists.last_)), (p0C, (cL eI x0.lists.count)), (p0H, (cL eI x0.heads)), (p0X, (cL eI x0.next_)), (p0G, (cL e_aEn x0.things))] (by simp only [List.mem_cons, List.not_mem_nil, or_false]; rintro _ (rfl | rfl | rfl | rfl | rfl | rfl | rfl | rfl | rfl | rfl) <;> assumption) hd
 refine sr rfl (ma tk (eI (0 : Int)) rfl rfl (wpo_nil (sr rfl (mm tk (.ref p0 0) rfl rfl (mc tk (.ref p0 0) rfl rfl (fun _ => rfl) (mc tk (.ref p0 0) rfl rfl (fun _ => rfl) (wpo_rd (a := (.ref p0B 0)) rfl rfl rfl (h_ld tk hH 0 rfl rfl rfl) ?_)))))))
 refine wpo_bdr H eI rfl rfl rfl (fun v2 hv => h_callr rfl rfl (.cons wr .nil) (slab_Budget_Used_ok hv _ (hH.at_ 1 rfl))) fun v2 hv2 H1 => ?_
 refine ma tk (eI v2) rfl rfl (wpo_nil (awp_ret ?_))
 obtain rfl := oi H1
 exact ⟨_, (eI v2), rfl, wr, .of_eq ((enc_i64 td3 sz3).cut _ _ _), ((((((((((hH.noT.unbring h0).unbring h0_budget).unbring h0_lists).unbring h0_lists_nodes).unbring h0_lists_first_).unbring h0_lists_last_).unbring h0_lists_count).unbring h0_heads).unbring h0_next_).unbring h0_things)⟩
theorem slab_Budget_Limit_ok {x0 : slab_Budget} {r : Int} (H : slab_Budget_Limit x0 = some r) (σ : St) {p0 : Nat} (h0 : σ.objs[p0]? = some (c_slab_Budget x0)) : ACall Tryd.prog 55 [(.ref p0 0)] σ (fun a τ => a = eI r ∧ τ = σ) := by
 unfold slab_Budget_Limit at H
 refine ACall.pure (acall_start tk Tryd.func55 (by decide) rfl (nb rfl) ?_)
 have hH := Holds.init σ
 have hH := hH.bring h0 (fun _ h => by cases h)
 refine sr rfl (ma tk (eI (0 : Int)) rfl rfl (wpo_nil (sr rfl (mm tk (.ref p0 0) rfl rfl (mc tk (.ref p0 0) rfl rfl (fun _ => rfl) (mc tk (.ref p0 0) rfl rfl (fun _ => rfl) (wpo_rd (a := (eI x0.limit)) rfl rfl rfl (h_ld tk hH 0 rfl (g_slab_Budget_limit _) rfl) (ma tk (eI x0.limit) rfl rfl ?_))))))))
 refine wpo_nil (awp_ret ?_)
 obtain rfl := oi H
 exact ⟨_, (eI x0.limit), rfl, wr, .of_eq ((enc_i64 td3 sz3).cut _ _ _), (hH.noT.unbring h0)⟩
theorem ram_Ram_Limit_ok {x0 : ram_Ram} {r : Int} (H : ram_Ram_Limit x0 = some r) (σ : St) {p0 p0B p0I p0N p0F p0L p0C p0H p0X p0G : Nat} (h0 : σ.objs[p0]? = some [(.ref p0B 0), (.ref p0I 0), (.vec p0H 1 (x0.heads).length), (.vec p0X 1 (x0.next_).length), (.vec p0G 5 (x0.things).length), (eI x0.count)]) (h0_budget : σ.objs[p0B]? = some (c_slab_Budget x0.budget)) (h0_lists : σ.objs[p0I]? = some [(.vec p0N 4 (x0.lists.nodes).length), (.vec p0F 1 (x0.lists.first_).length), (.vec p0L 1 (x0.lists.last_).length), (.vec p0C 1 (x0.lists.count).length), (eI x0.lists.free), (eI x0.lists.clock)]) (h0_lists_nodes : σ.objs[p0N]? = some (cL e_lists_link x0.lists.nodes)) (h0_lists_first_ : σ.objs[p0F]? = some (cL eI x0.lists.first_)) (h0_lists_last_ : σ.objs[p0L]? = some (cL eI x0.lists.last_)) (h0_lists_count : σ.objs[p0C]? = some (cL eI x0.lists.count)) (h0_heads : σ.objs[p0H]? = some (cL eI x0.heads)) (h0_next_ : σ.objs[p0X]? = some (cL eI x0.next_)) (h0_things : σ.objs[p0G]? = some (cL e_aEn x0.things)) (hd : [p0, p0B, p0I, p0N, p0F, p0L, p0C, p0H, p0X, p0G].Pairwise fun a b => a ≠ b) : ACall Tryd.prog 18 [(.ref p0 0)] σ (fun a τ => a = eI r ∧ τ = σ) := by
 unfold ram_Ram_Limit at H
 refine ACall.pure (acall_start tk Tryd.func18 (by decide) rfl (nb rfl) ?_)
 have hH := Holds.brings (σ := σ) [(p0, [(.ref p0B 0), (.ref p0I 0), (.vec p0H 1 (x0.heads).length), (.vec p0X 1 (x0.next_).length), (.vec p0G 5 (x0.things).length), (eI x0.count)]), (p0B, (c_slab_Budget x0.budget)), (p0I, [(.vec p0N 4 (x0.lists.nodes).length), (.vec p0F 1 (x0.lists.first_).length), (.vec p0L 1 (x0.lists.last_).length), (.vec p0C 1 (x0.lists.count).length), (eI x0.lists.free), (eI x0.lists.clock)]), (p0N, (cL e_lists_link x0.lists.nodes)), (p0F, (cL eI x0.lists.first_)), (p0L, (cL eI x0.lists.last_)), (p0C, (cL eI x0.lists.count)), (p0H, (cL eI x0.heads)), (p0X, (cL eI x0.next_)), (p0G, (cL e_aEn x0.things))] (by simp only [List.mem_cons, List.not_mem_nil, or_false]; rintro _ (rfl | rfl | rfl | rfl | rfl | rfl | rfl | rfl | rfl | rfl) <;> assumption) hd
 refine sr rfl (ma tk (eI (0 : Int)) rfl rfl (wpo_nil (sr rfl (mm tk (.ref p0 0) rfl rfl (mc tk (.ref p0 0) rfl rfl (fun _ => rfl) (mc tk (.ref p0 0) rfl rfl (fun _ => rfl) (wpo_rd (a := (.ref p0B 0)) rfl rfl rfl (h_ld tk hH 0 rfl rfl rfl) ?_)))))))
 refine wpo_bdr H eI rfl rfl rfl (fun v2 hv => h_callr rfl rfl (.cons wr .nil) (slab_Budget_Limit_ok hv _ (hH.at_ 1 rfl))) fun v2 hv2 H1 => ?_
 refine ma tk (eI v2) rfl rfl (wpo_nil (awp_ret ?_))
 obtain rfl := oi H1
 exact ⟨_, (eI v2), rfl, wr, .of_eq ((enc_i64 td3 sz3).cut _ _ _), ((((((((((hH.noT.unbring h0).unbring h0_budget).unbring h0_lists).unbring h0_lists_nodes).unbring h0_lists_first_).unbring h0_lists_last_).unbring h0_lists_count).unbring h0_heads).unbring h0_next_).unbring h0_things)⟩
theorem ram_Ram_Len_ok {x0 : ram_Ram} {r : Int} (H : ram_Ram_Len x0 = some r) (σ : St) {p0 p0B p0I p0N p0F p0L p0C p0H p0X p0G : Nat} (h0 : σ.objs[p0]? = some [(.ref p0B 0), (.ref p0I 0), (.vec p0H 1 (x0.heads).length), (.vec p0X 1 (x0.next_).length), (.vec p0G 5 (x0.things).length), (eI x0.count)]) (h0_budget : σ.objs[p0B]? = some (c_slab_Budget x0.budget)) (h0_lists : σ.objs[p0I]? = some [(.vec p0N 4 (x0.lists.nodes).length), (.vec p0F 1 (x0.lists.first_).length), (.vec p0L 1 (x0.lists.last_).length), (.vec p0C 1 (x0.lists.count).length), (eI x0.lists.free), (eI x0.lists.clock)]) (h0_lists_nodes : σ.objs[p0N]? = some (cL e_lists_link x0.lists.nodes)) (h0_lists_first_ : σ.objs[p0F]? = some (cL eI x0.lists.first_)) (h0_lists_last_ : σ.objs[p0L]? = some (cL eI x0.lists.last_)) (h0_lists_count : σ.objs[p0C]? = some (cL eI x0.lists.count)) (h0_heads : σ.objs[p0H]? = some (cL eI x0.heads)) (h0_next_ : σ.objs[p0X]? = some (cL eI x0.next_)) (h0_things : σ.objs[p0G]? = some (cL e_aEn x0.things)) (hd : [p0, p0B, p0I, p0N, p0F, p0L, p0C, p0H, p0X, p0G].Pairwise fun a b => a ≠ b) : ACall Tryd.prog 19 [(.ref p0 0)] σ (fun a τ => a = eI r ∧ τ = σ) := by
 unfold ram_Ram_Len at H
 refine ACall.pure (acall_start tk Tryd.func19 (by decide) rfl (nb rfl) ?_)
 have hH := Holds.brings (σ := σ) [(p0, [(.ref p0B 0), (.ref p0I 0), (.vec p0H 1 (x0.heads).length), (.vec p0X 1 (x0.next_).length), (.vec p0G 5 (x0.things).length), (eI x0.count)]), (p0B, (c_slab_Budget x0.budget)), (p0I, [(.vec p0N 4 (x0.lists.nodes).length), (.vec p0F 1 (x0.lists.first_).length), (.vec p0L 1 (x0.lists.last_).length), (.vec p0C 1 (x0.lists.count).length), (eI x0.lists.free), (eI x0.lists.clock)]), (p0N, (cL e_lists_link x0.lists.nodes)), (p0F, (cL eI x0.lists.first_)), (p0L, (cL eI x0.lists.last_)), (p0C, (cL eI x0.lists.count)), (p0H, (cL eI x0.heads)), (p0X, (cL eI x0.next_)), (p0G, (cL e_aEn x0.things))] (by simp only [List.mem_cons, List.not_mem_nil, or_false]; rintro _ (rfl | rfl | rfl | rfl | rfl | rfl | rfl | rfl | rfl | rfl) <;> assumption) hd
 refine sr rfl (ma tk (eI (0 : Int)) rfl rfl (wpo_nil (sr rfl (mm tk (.ref p0 0) rfl rfl (mc tk (.ref p0 0) rfl rfl (fun _ => rfl) (mc tk (.ref p0 5) rfl rfl (fun _ => rfl) (wpo_rd (a := (eI x0.count)) rfl rfl rfl (h_ld tk hH 0 rfl rfl rfl) (ma tk (eI x0.count) rfl rfl ?_))))))))
 refine wpo_nil (awp_ret ?_)
 obtain rfl := oi H
 exact ⟨_, (eI x0.count), rfl, wr, .of_eq ((enc_i64 td3 sz3).cut _ _ _), ((((((((((hH.noT.unbring h0).unbring h0_budget).unbring h0_lists).unbring h0_lists_nodes).unbring h0_lists_first_).unbring h0_lists_last_).unbring h0_lists_count).unbring h0_heads).unbring h0_next_).unbring h0_things)⟩
theorem slab_New_ok {x0 : Int} {r : (Option slab_Budget) × Err} (H : slab_New x0 = some r) (σ : St)  : ACall Tryd.prog 27 [(eI x0)] σ (fun a τ => NewO c_slab_Budget [eErr r.2] σ r.1 a τ) := by
 unfold slab_New at H
 refine ACall.newo (fun ρ κ => by simp only [cutL, encErr.cut ρ κ]) (fun c ρ κ => c_slab_Budget_cut ρ κ c) (acall_start tk Tryd.func27 (by decide) rfl (nb rfl) ?_)
 have hH := Holds.init σ
 refine sr rfl (ma tk .nilp rfl rfl (ma tk (eErr Err.nil) rfl rfl (wpo_nil (awp_seq (awp_seq ?_)))))
 obtain ⟨s1, hs3, hj4⟩ := ob H
 refine awp_cutn (fun fr τ => WkF fr (fm [(0, (eI x0)), (9, (eB s1))]) ∧ Holds σ [] [] τ) ?_ ?_
 ·rintro fr τ ⟨hfr, hH⟩
  have H10 := hj4
  refine AWP.fm [(0, (eI x0)), (9, (eB s1))] hfr ?_
  refine awp_if H10 rfl (fun H11 => ?_) (fun H11 => ?_)
  ·refine sr rfl (mm tk (eI x0) rfl rfl ?_)
   refine b_ H11 eErr rfl (fun v13 hv => OpP.of_call rfl rfl (.cons wr (.cons wr (.cons wr .nil))) (trouble_New_ok hv)) fun v13 hv13 H12 => ?_
   refine ma tk .nilp rfl rfl (ma tk (eErr v13) rfl rfl (wpo_nil (awp_ret ?_)))
   obtain rfl := oi H12
   exact ⟨_, .tup [.nilp, (eErr v13)], rfl, .of_eq rfl, NewE.none hH.noT⟩
  ·refine awp_skip (sr rfl (mm tk (eI x0) rfl rfl ?_))
   refine l_ H11 e_slab_Budget rfl (o_c tk false rfl (fun _ => rfl)) fun v15 H14 => ?_
   refine wpo_a (av := fun id => .ref id 0) rfl rfl rfl (h_box tk hH rfl wr (b := (e_slab_Budget v15)) (cf_slab_Budget _) (c_slab_Budget v15) rfl) fun id16 τ ⟨hH, n17⟩ => ?_
   refine ma tk (.ref id16 0) rfl rfl (ma tk (eErr Err.nil) rfl rfl (wpo_nil (awp_ret ?_)))
   obtain rfl := oi H14
   exact ⟨_, .tup [.ref id16 0, (eErr Err.nil)], rfl, .of_eq rfl, NewE.some n17 hH.noT⟩
 ·refine awp_region rfl (mm tk (eI x0) rfl rfl ?_)
  refine l_ hs3 eB rfl (o_ar tk rfl rfl rfl) fun v6 H5 => ?_
  refine mm tk (eB v6) rfl rfl ?_
  refine if_split H5 (fun hb H7 => ?_) (fun hb H7 => ?_)
  ·subst hb
   refine k_ rfl (k_ rfl (pt tk (eB true) rfl rfl rfl (wpo_nil ?_)))
   have e := oi H7
   subst e
   exact ⟨(wc (wc (wkf_nil _))), hH⟩
  ·subst hb
   refine mm tk (eI x0) rfl rfl ?_
   refine l_ H7 eB rfl (o_ar tk rfl rfl rfl) fun v9 H8 => ?_
   refine pf tk (eB v9) rfl rfl rfl (wpo_nil ?_)
   have e := oi H8
   subst e
   exact ⟨(wc (wc (wkf_nil _))), hH⟩
theorem lists_New_ok {x0 : Int} {x1 : Int} {r : (Option lists_Lists) × Err} (H : lists_New x0 x1 = some r) (σ : St)  : ACall Tryd.prog 29 [(eI x0), (eI x1)] σ (fun a τ => NewB (fun f c => [[(.vec (f 1) 4 (c.nodes).length), (.vec (f 2) 1 (c.first_).length), (.vec (f 3) 1 (c.last_).length), (.vec (f 4) 1 (c.count).length), (eI c.free), (eI c.clock)], (cL e_lists_link c.nodes), (cL eI c.first_), (cL eI c.last_), (cL eI c.count)]) [eErr r.2] σ r.1 a τ) := by
 unfold lists_New at H
 refine ACall.newB 5 (fun f c => rfl) (by decide) (fun ρ κ => by simp only [cutL, encErr.cut ρ κ]) (fun c ρ κ f g h => by exact (.cons rfl (.cons (cut_vec (h 1 (by decide))) (.cons (cut_vec (h 2 (by decide))) (.cons (cut_vec (h 3 (by decide))) (.cons (cut_vec (h 4 (by decide))) (.cons (.of_eq ((enc_i64 td3 sz3).cut ρ κ _)) (.cons (.of_eq ((enc_i64 td3 sz3).cut ρ κ _)) .nil)))))) (.cons (by first | rfl | exact (cutL_spcl ρ κ _).trans (spcl_cL enc106 _)) (by rw [cut_cL enc106.cut ρ κ]; exact .refl _) (.cons (by first | rfl | exact (cutL_spcl ρ κ _).trans (spcl_cL (enc_i64 td3 sz3) _)) (by rw [cut_cL (enc_i64 td3 sz3).cut ρ κ]; exact .refl _) (.cons (by first | rfl | exact (cutL_spcl ρ κ _).trans (spcl_cL (enc_i64 td3 sz3) _)) (by rw [cut_cL (enc_i64 td3 sz3).cut ρ κ]; exact .refl _) (.cons (by first | rfl | exact (cutL_spcl ρ κ _).trans (spcl_cL (enc_i64 td3 sz3) _)) (by rw [cut_cL (enc_i64 td3 sz3).cut ρ κ]; exact .refl _) .nil)))))) (acall_start tk Tryd.func29 (by decide) rfl (nb rfl) ?_)
 have hH := Holds.init σ
 refine sr rfl (ma tk .nilp rfl rfl (ma tk (eErr Err.nil) rfl rfl (wpo_nil (awp_seq (awp_seq ?_)))))
 obtain ⟨s1, hs3, hj4⟩ := ob H
 refine awp_cutn (fun fr τ => WkF fr (fm [(0, (eI x0)), (1, (eI x1)), (14, (eB s1))]) ∧ Holds σ [] [] τ) ?_ ?_
 ·rintro fr τ ⟨hfr, hH⟩
  have H10 := hj4
  refine AWP.fm [(0, (eI x0)), (1, (eI x1)), (14, (eB s1))] hfr ?_
  refine awp_if H10 rfl (fun H11 => ?_) (fun H11 => ?_)
  ·refine sr rfl (mm tk (eI x0) rfl rfl ?_)
   refine b_ H11 eErr rfl (fun v13 hv => OpP.of_call rfl rfl (.cons wr (.cons wr (.cons wr .nil))) (trouble_New_ok hv)) fun v13 hv13 H12 => ?_
   refine ma tk .nilp rfl rfl (ma tk (eErr v13) rfl rfl (wpo_nil (awp_ret ?_)))
   obtain rfl := oi H12
   exact ⟨_, .tup [.nilp, (eErr v13)], rfl, .of_eq rfl, NewBE.none hH.noT⟩
  ·refine awp_skip (awp_seq (awp_seq ?_))
   obtain ⟨s14, hs16, hj17⟩ := ob H11
   refine awp_cutn (fun fr τ => WkF fr (fm [(0, (eI x0)), (1, (eI x1)), (22, (eB s14))]) ∧ Holds σ [] [] τ) ?_ ?_
   ·rintro fr τ ⟨hfr, hH⟩
    have H23 := hj17
    refine AWP.fm [(0, (eI x0)), (1, (eI x1)), (22, (eB s14))] hfr ?_
    refine awp_if H23 rfl (fun H24 => ?_) (fun H24 => ?_)
    ·refine sr rfl (mm tk (eI x1) rfl rfl ?_)
     refine b_ H24 eErr rfl (fun v26 hv => OpP.of_call rfl rfl (.cons wr (.cons wr (.cons wr .nil))) (trouble_New_ok hv)) fun v26 hv26 H25 => ?_
     refine ma tk .nilp rfl rfl (ma tk (eErr v26) rfl rfl (wpo_nil (awp_ret ?_)))
     obtain rfl := oi H25
     exact ⟨_, .tup [.nilp, (eErr v26)], rfl, .of_eq rfl, NewBE.none hH.noT⟩
    ·refine awp_skip (awp_seq ?_)
     obtain ⟨v28, hv29, H27⟩ := ob H24
     obtain ⟨v33, hv34, H32⟩ := ob H27
     obtain ⟨v38, hv39, H37⟩ := ob H32
     obtain ⟨v43, hv44, H42⟩ := ob H37
     refine awp_drawU mixed hH 8 [1, 3, 5, 7] [(.p, fun _ => (eI x1)), (.a (cL e_lists_link v28), fun b => .vec b 4 (v28).length), (.p, fun _ => (eI x0)), (.a (cL eI v33), fun b => .vec b 1 (v33).length), (.p, fun _ => (eI x0)), (.a (cL eI v38), fun b => .vec b 1 (v38).length), (.p, fun _ => (eI x0)), (.a (cL eI v43), fun b => .vec b 1 (v43).length)] [9] rfl rfl rfl (by decide +kernel) rfl rfl rfl (by decide +kernel) rfl ?_
     refine wpdU_mv rfl rfl (o_mv tk rfl (Wk.refl _)) ?_
     refine wpdU_a rfl rfl (fun σ1 O1 A1 hH => (h_makeV (e := e_lists_link) tk hH hv29 td102 ty106 rfl rfl rfl rfl)) fun id30 n31 => ?_
     refine wpdU_mv rfl rfl (o_mv tk rfl (Wk.refl _)) ?_
     refine wpdU_a rfl rfl (fun σ1 O1 A1 hH => (h_makeV (e := eI) tk hH hv34 td70 ty3 rfl rfl rfl rfl)) fun id35 n36 => ?_
     refine wpdU_mv rfl rfl (o_mv tk rfl (Wk.refl _)) ?_
     refine wpdU_a rfl rfl (fun σ1 O1 A1 hH => (h_makeV (e := eI) tk hH hv39 td70 ty3 rfl rfl rfl rfl)) fun id40 n41 => ?_
     refine wpdU_mv rfl rfl (o_mv tk rfl (Wk.refl _)) ?_
     refine wpdU_a rfl rfl (fun σ1 O1 A1 hH => (h_makeV (e := eI) tk hH hv44 td70 ty3 rfl rfl rfl rfl)) fun id45 n46 => ?_
     refine wpdU_nil fun τ hH => ?_
     have hH : Holds σ [(id45, (cL eI v43)), (id40, (cL eI v38)), (id35, (cL eI v33)), (id30, (cL e_lists_link v28))] [] τ := hH
     refine wpdS_mv (a := (.agg [(.vec id30 4 (v28).length), (.vec id35 1 (v33).length), (.vec id40 1 (v38).length), (.vec id45 1 (v43).length), (eI (⟨v28, v33, v38, v43, 0, 0⟩ : lists_Lists).free), (eI (⟨v28, v33, v38, v43, 0, 0⟩ : lists_Lists).clock)])) rfl rfl rfl (o_c tk false rfl (fun _ => rfl)) ?_
     refine wpdS_a (av := fun id => .ref id 0) rfl rfl rfl (h_box tk hH rfl wr (b := (.agg [(.vec id30 4 (v28).length), (.vec id35 1 (v33).length), (.vec id40 1 (v38).length), (.vec id45 1 (v43).length), (eI (⟨v28, v33, v38, v43, 0, 0⟩ : lists_Lists).free), (eI (⟨v28, v33, v38, v43, 0, 0⟩ : lists_Lists).clock)])) rfl [(.vec id30 4 (v28).length), (.vec id35 1 (v33).length), (.vec id40 1 (v38).length), (.vec id45 1 (v43).length), (eI (⟨v28, v33, v38, v43, 0, 0⟩ : lists_Lists).free), (eI (⟨v28, v33, v38, v43, 0, 0⟩ : lists_Lists).clock)] rfl) fun id47 τ ⟨hH, n48⟩ => ?_
     refine wpdS_mv (a := (.ref id47 0)) rfl rfl rfl (o_as tk rfl (Wk.refl _)) (wpdS_nil (awp_seq (sr rfl (mm tk (.ref id47 0) rfl rfl (mc tk (.ref id47 0) rfl rfl (fun _ => rfl) (mc tk (.ref id47 1) rfl rfl (fun _ => rfl) (wpo_rd (a := (.vec id35 1 (v33).length)) rfl rfl rfl (h_ld tk hH 0 rfl rfl rfl) ?_)))))))
     refine l_ H42 eI rfl (o_vlen tk td70 rfl) fun v50 H49 => ?_
     refine mm tk (eI (0 : Int)) rfl rfl (wpo_nil (awp_block ?_))
     obtain ⟨s61, hs55, hj56⟩ := ob H49
     refine awp_cutx 0 (fun fr τ => WkF fr (fm [(1, (eI x1)), (6, (.ref id47 0))]) ∧ Holds σ [(id47, [(.vec id30 4 (v28).length), (.vec id35 1 (s61.2).length), (.vec id40 1 (s61.1).length), (.vec id45 1 (v43).length), (eI (⟨v28, v33, v38, v43, 0, 0⟩ : lists_Lists).free), (eI (⟨v28, v33, v38, v43, 0, 0⟩ : lists_Lists).clock)]), (id45, (cL eI v43)), (id40, (cL eI s61.1)), (id35, (cL eI s61.2)), (id30, (cL e_lists_link v28))] [] τ) ?_ ?_
     ·rintro fr τ ⟨hfr, hH⟩
      have H78 := hj56
      refine AWP.fm [(1, (eI x1)), (6, (.ref id47 0))] hfr ?_
      refine awp_seq (sr rfl (mm tk (.ref id47 0) rfl rfl (mc tk (.ref id47 0) rfl rfl (fun _ => rfl) (mc tk (.ref id47 0) rfl rfl (fun _ => rfl) (wpo_rd (a := (.vec id30 4 (v28).length)) rfl rfl rfl (h_ld tk hH 0 rfl rfl rfl) ?_)))))
      refine l_ H78 eI rfl (o_vlen tk td102 rfl) fun v80 H79 => ?_
      refine mm tk (eI (0 : Int)) rfl rfl (wpo_nil (awp_block ?_))
      obtain ⟨s90, hs84, hj85⟩ := ob H79
      refine awp_cutx 2 (fun fr τ => WkF fr (fm [(1, (eI x1)), (6, (.ref id47 0))]) ∧ Holds σ [(id47, [(.vec id30 4 (s90).length), (.vec id35 1 (s61.2).length), (.vec id40 1 (s61.1).length), (.vec id45 1 (v43).length), (eI (⟨v28, v33, v38, v43, 0, 0⟩ : lists_Lists).free), (eI (⟨v28, v33, v38, v43, 0, 0⟩ : lists_Lists).clock)]), (id45, (cL eI v43)), (id40, (cL eI s61.1)), (id35, (cL eI s61.2)), (id30, (cL e_lists_link s90))] [] τ) ?_ ?_
      ·rintro fr τ ⟨hfr, hH⟩
       have H106 := hj85
       refine AWP.fm [(1, (eI x1)), (6, (.ref id47 0))] hfr ?_
       refine sr rfl (mm tk (.ref id47 0) rfl rfl (mc tk (.ref id47 0) rfl rfl (fun _ => rfl) (mc tk (.ref id47 0) rfl rfl (fun _ => rfl) (wpo_rd (a := (.vec id30 4 (s90).length)) rfl rfl rfl (h_ld tk hH 0 rfl rfl rfl) (mm tk (eI x1) rfl rfl ?_)))))
       refine l_ H106 eI rfl (o_ar tk rfl rfl rfl) fun v108 H107 => ?_
       refine b_ H107 (fun _ => .ref id30 (0 + (v108 : Int).toNat * 4 + 0)) rfl (fun v110 hv => o_vecx tk hv td102 sz106 (by decide) rfl rfl) fun v110 hv110 H109 => ?_
       refine mc tk (.ref id30 (0 + (v108 : Int).toNat * 4 + 1)) rfl rfl (fun _ => rfl) ?_
       obtain ⟨c112, hc113, H111⟩ := ob H109
       refine wpo_z rfl rfl (h_stx tk hH 4 hc113 rfl enc106 ty3 (by simp) rfl rfl wr (b := (eI (-1 : Int))) rfl rfl (by decide) (fun _ => rfl)) fun τ hH => ?_
       refine wpo_nil (sr rfl (mm tk (.ref id47 0) rfl rfl (ma tk (.ref id47 0) rfl rfl (ma tk (eErr Err.nil) rfl rfl (wpo_nil (awp_ret ?_))))))
       have hH : Holds σ [(id47, [(.vec id30 4 (c112).length), (.vec id35 1 (s61.2).length), (.vec id40 1 (s61.1).length), (.vec id45 1 (v43).length), (eI (⟨v28, v33, v38, v43, 0, 0⟩ : lists_Lists).free), (eI (⟨v28, v33, v38, v43, 0, 0⟩ : lists_Lists).clock)]), (id45, (cL eI v43)), (id40, (cL eI s61.1)), (id35, (cL eI s61.2)), (id30, (cL e_lists_link c112))] [] _ := (Holds.cells hH 0 [(.vec id30 4 (c112).length), (.vec id35 1 (s61.2).length), (.vec id40 1 (s61.1).length), (.vec id45 1 (v43).length), (eI (⟨v28, v33, v38, v43, 0, 0⟩ : lists_Lists).free), (eI (⟨v28, v33, v38, v43, 0, 0⟩ : lists_Lists).clock)] rfl (by first | rfl | simp only [updA_len hc113]))
       obtain rfl := oi H111
       refine ⟨_, .tup [.ref id47 0, (eErr Err.nil)], rfl, .of_eq rfl, NewBE.some (fun i => [id47, id30, id35, id40, id45].getD i 0) (by intro i hi; match i, hi with | 0, _ => exact n48 | 1, _ => exact n31 | 2, _ => exact n36 | 3, _ => exact n41 | 4, _ => exact n46 | k + 5, hi => exact absurd hi (by simp)) (hH.pick (by simp only [zipB, List.mem_cons, List.not_mem_nil, or_false]; rintro _ (rfl | rfl | rfl | rfl | rfl) <;> simp) ?_ (by simp only [List.mem_cons, List.not_mem_nil, or_false]; rintro _ (rfl | rfl | rfl | rfl | rfl) <;> first | exact .inl (by assumption) | exact .inr (by simp [zipB])) (fun t h => by cases h) .nil)⟩
       exact pw_zip (hH.pw [0, 4, 3, 2, 1] rfl (by decide))
      ·refine awp_loopO (body := fun s => lists_New_b1 x1 v28 v33 v38 v43 s61 v80 s.1 s.2) hs84 (fun (s : Int × (List lists_link)) fr τ => WkF fr (fm [(1, (eI x1)), (6, (.ref id47 0)), (60, (eI v80)), (61, (eI s.1))]) ∧ Holds σ [(id47, [(.vec id30 4 (s.2).length), (.vec id35 1 (s61.2).length), (.vec id40 1 (s61.1).length), (.vec id45 1 (v43).length), (eI (⟨v28, v33, v38, v43, 0, 0⟩ : lists_Lists).free), (eI (⟨v28, v33, v38, v43, 0, 0⟩ : lists_Lists).clock)]), (id45, (cL eI v43)), (id40, (cL eI s61.1)), (id35, (cL eI s61.2)), (id30, (cL e_lists_link s.2))] [] τ) ⟨(wc (wc (wc (wc (wkf_nil _))))), hH⟩ ?_
       rintro ⟨c81, c82⟩ fr τ y86 ⟨hfr, hH⟩ hb88 hy89
       have H91 : lists_New_b1 x1 v28 v33 v38 v43 s61 v80 c81 c82 = some y86 := hb88
       unfold lists_New_b1 at H91
       refine AWP.fm [(1, (eI x1)), (6, (.ref id47 0)), (60, (eI v80)), (61, (eI c81))] hfr ?_
       have hH : Holds σ [(id47, [(.vec id30 4 (c82).length), (.vec id35 1 (s61.2).length), (.vec id40 1 (s61.1).length), (.vec id45 1 (v43).length), (eI (⟨v28, v33, v38, v43, 0, 0⟩ : lists_Lists).free), (eI (⟨v28, v33, v38, v43, 0, 0⟩ : lists_Lists).clock)]), (id45, (cL eI v43)), (id40, (cL eI s61.1)), (id35, (cL eI s61.2)), (id30, (cL e_lists_link c82))] [] τ := hH
       refine sr rfl ?_
       refine l_ H91 eB rfl (o_ar tk rfl rfl rfl) fun v93 H92 => ?_
       refine wpo_nil (awp_seq ?_)
       refine awp_if H92 rfl (fun H94 => ?_) (fun H94 => ?_)
       ·refine awp_skip (awp_seq (awp_block (sr rfl (mm tk (eI c81) rfl rfl (ma tk (eI c81) rfl rfl (wpo_nil (awp_region rfl (mm tk (.ref id47 0) rfl rfl ?_))))))))
        refine mc tk (.ref id47 0) rfl rfl (fun _ => rfl) (mc tk (.ref id47 0) rfl rfl (fun _ => rfl) (wpo_rd (a := (.vec id30 4 (c82).length)) rfl rfl rfl (h_ld tk hH 0 rfl rfl rfl) (mm tk (eI c81) rfl rfl (mm tk (eI c81) rfl rfl ?_))))
        refine l_ H94 eI rfl (o_ar tk rfl rfl rfl) fun v96 H95 => ?_
        refine l_ H95 e_lists_link rfl (o_c tk false rfl (fun _ => rfl)) fun v98 H97 => ?_
        refine b_ H97 (fun _ => .ref id30 (0 + (c81 : Int).toNat * 4 + 0)) rfl (fun v100 hv => o_vecx tk hv td102 sz106 (by decide) rfl rfl) fun v100 hv100 H99 => ?_
        obtain ⟨c102, hc103, H101⟩ := ob H99
        refine wpo_z rfl rfl (h_stx tk hH 4 hc103 rfl enc106 ty106 (by simp) rfl rfl wr (b := (e_lists_link v98)) (enc106.flat _) rfl (by decide) (fun _ => (repl_all (enc106.len _) (enc106.len _)))) fun τ hH => ?_
        refine wpo_nil (awp_region rfl ?_)
        refine l_ H101 eI rfl (o_ar tk rfl rfl rfl) fun v105 H104 => ?_
        refine mm tk (eI v105) rfl rfl (wpo_nil ?_)
        exact ⟨(v105, c102), inj_inl H104, (wc (wc (wc (wc (wkf_nil _))))), (Holds.cells hH 0 [(.vec id30 4 (c102).length), (.vec id35 1 (s61.2).length), (.vec id40 1 (s61.1).length), (.vec id45 1 (v43).length), (eI (⟨v28, v33, v38, v43, 0, 0⟩ : lists_Lists).free), (eI (⟨v28, v33, v38, v43, 0, 0⟩ : lists_Lists).clock)] rfl (by first | rfl | simp only [updA_len hc103]))⟩
       ·refine awp_exit ?_
        have hz := hy89 _ (inj_inr H94)
        subst hz
        exact ⟨⟨_, inj_inr H94⟩, (wc (wc (wkf_nil _))), hH⟩
     ·refine awp_loopO (body := fun s => lists_New_b0 x1 v28 v33 v38 v43 v50 s.1 s.2.1 s.2.2) hs55 (fun (s : Int × (List Int) × (List Int)) fr τ => WkF fr (fm [(1, (eI x1)), (6, (.ref id47 0)), (39, (eI v50)), (40, (eI s.1))]) ∧ Holds σ [(id47, [(.vec id30 4 (v28).length), (.vec id35 1 (s.2.2).length), (.vec id40 1 (s.2.1).length), (.vec id45 1 (v43).length), (eI (⟨v28, v33, v38, v43, 0, 0⟩ : lists_Lists).free), (eI (⟨v28, v33, v38, v43, 0, 0⟩ : lists_Lists).clock)]), (id45, (cL eI v43)), (id40, (cL eI s.2.1)), (id35, (cL eI s.2.2)), (id30, (cL e_lists_link v28))] [] τ) ⟨(wc (wc (wc (wc (wkf_nil _))))), hH⟩ ?_
      rintro ⟨c51, c52, c53⟩ fr τ y57 ⟨hfr, hH⟩ hb59 hy60
      have H62 : lists_New_b0 x1 v28 v33 v38 v43 v50 c51 c52 c53 = some y57 := hb59
      unfold lists_New_b0 at H62
      refine AWP.fm [(1, (eI x1)), (6, (.ref id47 0)), (39, (eI v50)), (40, (eI c51))] hfr ?_
      have hH : Holds σ [(id47, [(.vec id30 4 (v28).length), (.vec id35 1 (c53).length), (.vec id40 1 (c52).length), (.vec id45 1 (v43).length), (eI (⟨v28, v33, v38, v43, 0, 0⟩ : lists_Lists).free), (eI (⟨v28, v33, v38, v43, 0, 0⟩ : lists_Lists).clock)]), (id45, (cL eI v43)), (id40, (cL eI c52)), (id35, (cL eI c53)), (id30, (cL e_lists_link v28))] [] τ := hH
      refine sr rfl ?_
      refine l_ H62 eB rfl (o_ar tk rfl rfl rfl) fun v64 H63 => ?_
      refine wpo_nil (awp_seq ?_)
      refine awp_if H63 rfl (fun H65 => ?_) (fun H65 => ?_)
      ·refine awp_skip (awp_seq (awp_block (sr rfl (mm tk (eI c51) rfl rfl (ma tk (eI c51) rfl rfl (wpo_nil ?_))))))
       refine awp_drawS mixed [11, 13] rfl (by decide +kernel) rfl rfl ?_
       refine wpdS_mv (a := (.ref id47 0)) rfl rfl rfl (o_mv tk rfl (Wk.refl _)) (wpdS_mv (a := (.ref id47 0)) rfl rfl rfl (o_c tk false rfl (fun _ => rfl)) (wpdS_mv (a := (.ref id47 1)) rfl rfl rfl (o_c tk false rfl (fun _ => rfl)) (wpdS_rd (a := (.vec id35 1 (c53).length)) rfl (by decide +kernel) rfl rfl (h_ld tk hH 0 rfl rfl rfl) (wpdS_mv (a := (eI c51)) rfl rfl rfl (o_mv tk rfl (Wk.refl _)) (wpdS_mv (a := (.ref id47 0)) rfl rfl rfl (o_mv tk rfl (Wk.refl _)) (wpdS_mv (a := (.ref id47 0)) rfl rfl rfl (o_c tk false rfl (fun _ => rfl)) (wpdS_mv (a := (.ref id47 2)) rfl rfl rfl (o_c tk false rfl (fun _ => rfl)) (wpdS_rd (a := (.vec id40 1 (c52).length)) rfl (by decide +kernel) rfl rfl (h_ld tk hH 0 rfl rfl rfl) ?_))))))))
       refine wpdS_mv (a := (eI c51)) rfl rfl rfl (o_mv tk rfl (Wk.refl _)) ?_
       refine wpdS_bd H65 (fun _ => .ref id35 (0 + (c51 : Int).toNat * 1 + 0)) rfl rfl rfl (fun v67 hv => o_vecx tk hv td70 sz3 (by decide) rfl rfl) fun v67 hv67 H66 => ?_
       obtain ⟨c69, hc70, H68⟩ := ob H66
       refine wpdS_z rfl rfl rfl (h_stx tk hH 3 hc70 rfl (enc_i64 td3 sz3) ty3 (by simp) rfl rfl wr (b := (eI (-1 : Int))) rfl rfl (by decide) (fun _ => rfl)) fun τ hH => ?_
       refine wpdS_bd H68 (fun _ => .ref id40 (0 + (c51 : Int).toNat * 1 + 0)) rfl rfl rfl (fun v72 hv => o_vecx tk hv td70 sz3 (by decide) rfl rfl) fun v72 hv72 H71 => ?_
       obtain ⟨c74, hc75, H73⟩ := ob H71
       refine wpdS_z rfl rfl rfl (h_stx tk hH 2 hc75 rfl (enc_i64 td3 sz3) ty3 (by simp) rfl rfl wr (b := (eI (-1 : Int))) rfl rfl (by decide) (fun _ => rfl)) fun τ hH => ?_
       refine wpdS_nil (awp_region rfl ?_)
       refine l_ H73 eI rfl (o_ar tk rfl rfl rfl) fun v77 H76 => ?_
       refine mm tk (eI v77) rfl rfl (wpo_nil ?_)
       exact ⟨(v77, c74, c69), inj_inl H76, (wc (wc (wc (wc (wkf_nil _))))), (Holds.cells hH 0 [(.vec id30 4 (v28).length), (.vec id35 1 (c69).length), (.vec id40 1 (c74).length), (.vec id45 1 (v43).length), (eI (⟨v28, v33, v38, v43, 0, 0⟩ : lists_Lists).free), (eI (⟨v28, v33, v38, v43, 0, 0⟩ : lists_Lists).clock)] rfl (by first | rfl | simp only [updA_len hc70, updA_len hc75]))⟩
      ·refine awp_exit ?_
       have hz := hy60 _ (inj_inr H65)
       subst hz
       exact ⟨⟨_, inj_inr H65⟩, (wc (wc (wkf_nil _))), hH⟩
   ·refine awp_region rfl (mm tk (eI x1) rfl rfl ?_)
    refine l_ hs16 eB rfl (o_ar tk rfl rfl rfl) fun v19 H18 => ?_
    refine mm tk (eB v19) rfl rfl ?_
    refine if_split H18 (fun hb H20 => ?_) (fun hb H20 => ?_)
    ·subst hb
     refine k_ rfl (k_ rfl (pt tk (eB true) rfl rfl rfl (wpo_nil ?_)))
     have e := oi H20
     subst e
     exact ⟨(wc (wc (wc (wkf_nil _)))), hH⟩
    ·subst hb
     refine mm tk (eI x1) rfl rfl ?_
     refine l_ H20 eB rfl (o_ar tk rfl rfl rfl) fun v22 H21 => ?_
     refine pf tk (eB v22) rfl rfl rfl (wpo_nil ?_)
     have e := oi H21
     subst e
     exact ⟨(wc (wc (wc (wkf_nil _)))), hH⟩
 ·refine awp_region rfl (mm tk (eI x0) rfl rfl ?_)
  refine l_ hs3 eB rfl (o_ar tk rfl rfl rfl) fun v6 H5 => ?_
  refine mm tk (eB v6) rfl rfl ?_
  refine if_split H5 (fun hb H7 => ?_) (fun hb H7 => ?_)
  ·subst hb
   refine k_ rfl (k_ rfl (pt tk (eB true) rfl rfl rfl (wpo_nil ?_)))
   have e := oi H7
   subst e
   exact ⟨(wc (wc (wc (wkf_nil _)))), hH⟩
  ·subst hb
   refine mm tk (eI x0) rfl rfl ?_
   refine l_ H7 eB rfl (o_ar tk rfl rfl rfl) fun v9 H8 => ?_
   refine pf tk (eB v9) rfl rfl rfl (wpo_nil ?_)
   have e := oi H8
   subst e
   exact ⟨(wc (wc (wc (wkf_nil _)))), hH⟩
theorem ram_New_ok {x0 : Int} {r : (Option ram_Ram) × Err} (H : ram_New x0 = some r) (σ : St)  : ACall Tryd.prog 8 [(eI x0)] σ (fun a τ => NewB (fun f c => [[(.ref (f 1) 0), (.ref (f 2) 0), (.vec (f 7) 1 (c.heads).length), (.vec (f 8) 1 (c.next_).length), (.vec (f 9) 5 (c.things).length), (eI c.count)], (c_slab_Budget c.budget), [(.vec (f 3) 4 (c.lists.nodes).length), (.vec (f 4) 1 (c.lists.first_).length), (.vec (f 5) 1 (c.lists.last_).length), (.vec (f 6) 1 (c.lists.count).length), (eI c.lists.free), (eI c.lists.clock)], (cL e_lists_link c.lists.nodes), (cL eI c.lists.first_), (cL eI c.lists.last_), (cL eI c.lists.count), (cL eI c.heads), (cL eI c.next_), (cL e_aEn c.things)]) [eErr r.2] σ r.1 a τ) := by
 unfold ram_New at H
 refine ACall.newB 10 (fun f c => rfl) (by decide) (fun ρ κ => by simp only [cutL, encErr.cut ρ κ]) (fun c ρ κ f g h => by exact (.cons rfl (.cons (.of_eq (cut_ref_id (h 1 (by decide)))) (.cons (.of_eq (cut_ref_id (h 2 (by decide)))) (.cons (cut_vec (h 7 (by decide))) (.cons (cut_vec (h 8 (by decide))) (.cons (cut_vec (h 9 (by decide))) (.cons (.of_eq ((enc_i64 td3 sz3).cut ρ κ _)) .nil)))))) (.cons rfl (by rw [c_slab_Budget_cut ρ κ]; exact .refl _) (.cons rfl (.cons (cut_vec (h 3 (by decide))) (.cons (cut_vec (h 4 (by decide))) (.cons (cut_vec (h 5 (by decide))) (.cons (cut_vec (h 6 (by decide))) (.cons (.of_eq ((enc_i64 td3 sz3).cut ρ κ _)) (.cons (.of_eq ((enc_i64 td3 sz3).cut ρ κ _)) .nil)))))) (.cons (by first | rfl | exact (cutL_spcl ρ κ _).trans (spcl_cL enc106 _)) (by rw [cut_cL enc106.cut ρ κ]; exact .refl _) (.cons (by first | rfl | exact (cutL_spcl ρ κ _).trans (spcl_cL (enc_i64 td3 sz3) _)) (by rw [cut_cL (enc_i64 td3 sz3).cut ρ κ]; exact .refl _) (.cons (by first | rfl | exact (cutL_spcl ρ κ _).trans (spcl_cL (enc_i64 td3 sz3) _)) (by rw [cut_cL (enc_i64 td3 sz3).cut ρ κ]; exact .refl _) (.cons (by first | rfl | exact (cutL_spcl ρ κ _).trans (spcl_cL (enc_i64 td3 sz3) _)) (by rw [cut_cL (enc_i64 td3 sz3).cut ρ κ]; exact .refl _) (.cons (by first | rfl | exact (cutL_spcl ρ κ _).trans (spcl_cL (enc_i64 td3 sz3) _)) (by rw [cut_cL (enc_i64 td3 sz3).cut ρ κ]; exact .refl _) (.cons (by first | rfl | exact (cutL_spcl ρ κ _).trans (spcl_cL (enc_i64 td3 sz3) _)) (by rw [cut_cL (enc_i64 td3 sz3).cut ρ κ]; exact .refl _) (.cons (by first | rfl | exact (cutL_spcl ρ κ _).trans (spcl_cL enc39 _)) (by rw [cut_cL enc39.cut ρ κ]; exact .refl _) .nil))))))))))) (acall_start tk Tryd.func8 (by decide) rfl (nb rfl) ?_)
 have hH := Holds.init σ
 refine sr rfl (ma tk .nilp rfl rfl (ma tk (eErr Err.nil) rfl rfl (wpo_nil (awp_seq (sr rfl (mm tk (eI x0) rfl rfl ?_))))))
 refine l_ H eB rfl (o_ar tk rfl rfl rfl) fun v2 H1 => ?_
 refine wpo_nil ?_
 refine awp_if H1 rfl (fun H3 => ?_) (fun H3 => ?_)
 ·refine sr rfl (mm tk (eI x0) rfl rfl ?_)
  refine b_ H3 eErr rfl (fun v5 hv => OpP.of_call rfl rfl (.cons wr (.cons wr (.cons wr .nil))) (trouble_New_ok hv)) fun v5 hv5 H4 => ?_
  refine ma tk .nilp rfl rfl (ma tk (eErr v5) rfl rfl (wpo_nil (awp_ret ?_)))
  obtain rfl := oi H4
  exact ⟨_, .tup [.nilp, (eErr v5)], rfl, .of_eq rfl, NewBE.none hH.noT⟩
 ·refine awp_skip (sr rfl (mm tk (eI x0) rfl rfl ?_))
  obtain ⟨v7, hvv7, H6⟩ := ob H3
  rcases hz11 : v7.1 with _ | c8
  ·rw [hz11, Option.elim_none] at H6
   refine wpo_a (av := fun _ => .tup [.nilp, (eErr v7.2)]) rfl rfl rfl (h_callno0 hH hz11 rfl rfl (.cons wr .nil) (slab_New_ok hvv7 _)) fun _ τ hH => ?_
   refine mm tk (.tup [.nilp, (eErr v7.2)]) rfl rfl (m_ .nilp rfl (o_ext tk rfl rfl) (m_ (eErr v7.2) rfl (o_ext tk rfl rfl) (ma tk .nilp rfl rfl (ma tk (eErr v7.2) rfl rfl (wpo_nil (awp_seq (sr rfl (mm tk (eErr v7.2) rfl rfl ?_))))))))
   refine l_ H6 eB rfl (o_err_neq tk rfl rfl rfl) fun v13 H12 => ?_
   refine wpo_nil ?_
   refine awp_if H12 rfl (fun H14 => ?_) (fun H14 => ?_)
   ·refine sr rfl (mm tk (eI x0) rfl rfl (mm tk (eErr v7.2) rfl rfl ?_))
    refine b_ H14 eErr rfl (fun v16 hv => OpP.of_call rfl rfl (.cons wr (.cons wr (.cons wr .nil))) (trouble_Wrap_ok hv)) fun v16 hv16 H15 => ?_
    refine ma tk .nilp rfl rfl (ma tk (eErr v16) rfl rfl (wpo_nil (awp_ret ?_)))
    obtain rfl := oi H15
    exact ⟨_, .tup [.nilp, (eErr v16)], rfl, .of_eq rfl, NewBE.none hH.noT⟩
   ·refine awp_skip (sr rfl (mm tk (eI x0) rfl rfl ?_))
    refine l_ H14 eI rfl (o_quo tk (z := (32 : Int)) rfl rfl rfl) fun v18 H17 => ?_
    refine l_ H17 eI rfl (o_max tk rfl rfl) fun v20 H19 => ?_
    refine ma tk (eI v20) rfl rfl (wpo_nil (sr rfl (mm tk (eI v20) rfl rfl ?_)))
    obtain ⟨v22, hvv22, H21⟩ := ob H19
    rcases hz26 : v22.1 with _ | c23
    ·rw [hz26, Option.elim_none] at H21
     refine wpo_a (av := fun _ => .tup [.nilp, (eErr v22.2)]) rfl rfl rfl (h_callnb0 hH hz26 rfl rfl (.cons wr (.cons wr .nil)) (lists_New_ok hvv22 _)) fun _ τ hH => ?_
     refine mm tk (.tup [.nilp, (eErr v22.2)]) rfl rfl (m_ .nilp rfl (o_ext tk rfl rfl) (m_ (eErr v22.2) rfl (o_ext tk rfl rfl) (ma tk .nilp rfl rfl (ma tk (eErr v22.2) rfl rfl (wpo_nil (awp_seq (sr rfl (mm tk (eErr v22.2) rfl rfl ?_))))))))
     refine l_ H21 eB rfl (o_err_neq tk rfl rfl rfl) fun v28 H27 => ?_
     refine wpo_nil ?_
     refine awp_if H27 rfl (fun H29 => ?_) (fun H29 => ?_)
     ·refine sr rfl (mm tk (eI x0) rfl rfl (mm tk (eErr v22.2) rfl rfl ?_))
      refine b_ H29 eErr rfl (fun v31 hv => OpP.of_call rfl rfl (.cons wr (.cons wr (.cons wr .nil))) (trouble_Wrap_ok hv)) fun v31 hv31 H30 => ?_
      refine ma tk .nilp rfl rfl (ma tk (eErr v31) rfl rfl (wpo_nil (awp_ret ?_)))
      obtain rfl := oi H30
      exact ⟨_, .tup [.nilp, (eErr v31)], rfl, .of_eq rfl, NewBE.none hH.noT⟩
     ·refine awp_skip (awp_seq ?_)
      obtain ⟨v33, hv34, H32⟩ := lt_ex H29
      obtain ⟨v36, hv37, H35⟩ := ob H32
      obtain ⟨v41, hv42, H40⟩ := ob H35
      obtain ⟨v46, hv47, H45⟩ := ob H40
      refine awp_drawU mixed hH 9 [4, 6, 8] [(.p, fun _ => .nilp), (.p, fun _ => .nilp), (.p, fun _ => (eI v20)), (.p, fun _ => (eI v33)), (.a (cL eI v36), fun b => .vec b 1 (v36).length), (.p, fun _ => (eI v20)), (.a (cL eI v41), fun b => .vec b 1 (v41).length), (.p, fun _ => (eI v20)), (.a (cL e_aEn v46), fun b => .vec b 5 (v46).length)] [10] rfl rfl rfl (by decide +kernel) rfl rfl rfl (by decide +kernel) rfl ?_
      refine wpdU_mv rfl rfl (o_mv tk rfl (Wk.refl _)) ?_
      refine wpdU_mv rfl rfl (o_mv tk rfl (Wk.refl _)) ?_
      refine wpdU_mv rfl rfl (o_mv tk rfl (Wk.refl _)) ?_
      refine wpdU_mv rfl rfl (by rw [← hv34]; exact (o_min tk rfl rfl)) ?_
      refine wpdU_a rfl rfl (fun σ1 O1 A1 hH => (h_makeV (e := eI) tk hH hv37 td70 ty3 rfl rfl rfl rfl)) fun id38 n39 => ?_
      refine wpdU_mv rfl rfl (o_mv tk rfl (Wk.refl _)) ?_
      refine wpdU_a rfl rfl (fun σ1 O1 A1 hH => (h_makeV (e := eI) tk hH hv42 td70 ty3 rfl rfl rfl rfl)) fun id43 n44 => ?_
      refine wpdU_mv rfl rfl (o_mv tk rfl (Wk.refl _)) ?_
      refine wpdU_a rfl rfl (fun σ1 O1 A1 hH => (h_makeVw tk hH hv47 td31 ty39 rfl enc39 (.cons wr (.cons wr (.cons wr (.cons wr (.cons (by exact wk_nils _) .nil))))) rfl rfl)) fun id48 n49 => ?_
      refine wpdU_nil fun τ hH => ?_
      have hH : Holds σ [(id48, (cL e_aEn v46)), (id43, (cL eI v41)), (id38, (cL eI v36))] [] τ := hH
      cases H45
    ·rw [hz26, Option.elim_some] at H21
     refine wpo_a (av := fun id => .tup [.ref id 0, (eErr v22.2)]) rfl rfl rfl (h_callnb1 hH hz26 rfl rfl (.cons wr (.cons wr .nil)) (lists_New_ok hvv22 _)) fun id24 τ ⟨hH, n25⟩ => ?_
     obtain ⟨id24_nodes, h_id24_nodes⟩ : ∃ x, x = id24 + 1 := ⟨_, rfl⟩
     obtain ⟨id24_first_, h_id24_first_⟩ : ∃ x, x = id24 + 2 := ⟨_, rfl⟩
     obtain ⟨id24_last_, h_id24_last_⟩ : ∃ x, x = id24 + 3 := ⟨_, rfl⟩
     obtain ⟨id24_count, h_id24_count⟩ : ∃ x, x = id24 + 4 := ⟨_, rfl⟩
     have hH : Holds σ [(id24, [(.vec id24_nodes 4 (c23.nodes).length), (.vec id24_first_ 1 (c23.first_).length), (.vec id24_last_ 1 (c23.last_).length), (.vec id24_count 1 (c23.count).length), (eI c23.free), (eI c23.clock)]), (id24_nodes, (cL e_lists_link c23.nodes)), (id24_first_, (cL eI c23.first_)), (id24_last_, (cL eI c23.last_)), (id24_count, (cL eI c23.count))] [] τ := by rw [h_id24_nodes, h_id24_first_, h_id24_last_, h_id24_count]; exact hH
     have n25_1 : σ.objs.length ≤ id24_nodes := by omega
     have n25_2 : σ.objs.length ≤ id24_first_ := by omega
     have n25_3 : σ.objs.length ≤ id24_last_ := by omega
     have n25_4 : σ.objs.length ≤ id24_count := by omega
     refine mm tk (.tup [(.ref id24 0), (eErr v22.2)]) rfl rfl (m_ (.ref id24 0) rfl (o_ext tk rfl rfl) (m_ (eErr v22.2) rfl (o_ext tk rfl rfl) (ma tk (.ref id24 0) rfl rfl (ma tk (eErr v22.2) rfl rfl (wpo_nil (awp_seq (sr rfl (mm tk (eErr v22.2) rfl rfl ?_))))))))
     refine l_ H21 eB rfl (o_err_neq tk rfl rfl rfl) fun v51 H50 => ?_
     refine wpo_nil ?_
     refine awp_if H50 rfl (fun H52 => ?_) (fun H52 => ?_)
     ·refine sr rfl (mm tk (eI x0) rfl rfl (mm tk (eErr v22.2) rfl rfl ?_))
      refine b_ H52 eErr rfl (fun v54 hv => OpP.of_call rfl rfl (.cons wr (.cons wr (.cons wr .nil))) (trouble_Wrap_ok hv)) fun v54 hv54 H53 => ?_
      refine ma tk .nilp rfl rfl (ma tk (eErr v54) rfl rfl (wpo_nil (awp_ret ?_)))
      obtain rfl := oi H53
      exact ⟨_, .tup [.nilp, (eErr v54)], rfl, .of_eq rfl, NewBE.none (((((hH.noT.drop n25).drop n25_1).drop n25_2).drop n25_3).drop n25_4)⟩
     ·refine awp_skip (awp_seq ?_)
      obtain ⟨v56, hv57, H55⟩ := lt_ex H52
      obtain ⟨v59, hv60, H58⟩ := ob H55
      obtain ⟨v64, hv65, H63⟩ := ob H58
      obtain ⟨v69, hv70, H68⟩ := ob H63
      refine awp_drawU mixed hH 9 [4, 6, 8] [(.p, fun _ => .nilp), (.p, fun _ => (.ref id24 0)), (.p, fun _ => (eI v20)), (.p, fun _ => (eI v56)), (.a (cL eI v59), fun b => .vec b 1 (v59).length), (.p, fun _ => (eI v20)), (.a (cL eI v64), fun b => .vec b 1 (v64).length), (.p, fun _ => (eI v20)), (.a (cL e_aEn v69), fun b => .vec b 5 (v69).length)] [10] rfl rfl rfl (by decide +kernel) rfl rfl rfl (by decide +kernel) rfl ?_
      refine wpdU_mv rfl rfl (o_mv tk rfl (Wk.refl _)) ?_
      refine wpdU_mv rfl rfl (o_mv tk rfl (Wk.refl _)) ?_
      refine wpdU_mv rfl rfl (o_mv tk rfl (Wk.refl _)) ?_
      refine wpdU_mv rfl rfl (by rw [← hv57]; exact (o_min tk rfl rfl)) ?_
      refine wpdU_a rfl rfl (fun σ1 O1 A1 hH => (h_makeV (e := eI) tk hH hv60 td70 ty3 rfl rfl rfl rfl)) fun id61 n62 => ?_
      refine wpdU_mv rfl rfl (o_mv tk rfl (Wk.refl _)) ?_
      refine wpdU_a rfl rfl (fun σ1 O1 A1 hH => (h_makeV (e := eI) tk hH hv65 td70 ty3 rfl rfl rfl rfl)) fun id66 n67 => ?_
      refine wpdU_mv rfl rfl (o_mv tk rfl (Wk.refl _)) ?_
      refine wpdU_a rfl rfl (fun σ1 O1 A1 hH => (h_makeVw tk hH hv70 td31 ty39 rfl enc39 (.cons wr (.cons wr (.cons wr (.cons wr (.cons (by exact wk_nils _) .nil))))) rfl rfl)) fun id71 n72 => ?_
      refine wpdU_nil fun τ hH => ?_
      have hH : Holds σ [(id71, (cL e_aEn v69)), (id66, (cL eI v64)), (id61, (cL eI v59)), (id24, [(.vec id24_nodes 4 (c23.nodes).length), (.vec id24_first_ 1 (c23.first_).length), (.vec id24_last_ 1 (c23.last_).length), (.vec id24_count 1 (c23.count).length), (eI c23.free), (eI c23.clock)]), (id24_nodes, (cL e_lists_link c23.nodes)), (id24_first_, (cL eI c23.first_)), (id24_last_, (cL eI c23.last_)), (id24_count, (cL eI c23.count))] [] τ := hH
      cases H68
  ·rw [hz11, Option.elim_some] at H6
   refine wpo_a (av := fun id => .tup [.ref id 0, (eErr v7.2)]) rfl rfl rfl (h_callno1 hH hz11 rfl rfl (.cons wr .nil) (slab_New_ok hvv7 _)) fun id9 τ ⟨hH, n10⟩ => ?_
   refine mm tk (.tup [(.ref id9 0), (eErr v7.2)]) rfl rfl (m_ (.ref id9 0) rfl (o_ext tk rfl rfl) (m_ (eErr v7.2) rfl (o_ext tk rfl rfl) (ma tk (.ref id9 0) rfl rfl (ma tk (eErr v7.2) rfl rfl (wpo_nil (awp_seq (sr rfl (mm tk (eErr v7.2) rfl rfl ?_))))))))
   refine l_ H6 eB rfl (o_err_neq tk rfl rfl rfl) fun v74 H73 => ?_
   refine wpo_nil ?_
   refine awp_if H73 rfl (fun H75 => ?_) (fun H75 => ?_)
   ·refine sr rfl (mm tk (eI x0) rfl rfl (mm tk (eErr v7.2) rfl rfl ?_))
    refine b_ H75 eErr rfl (fun v77 hv => OpP.of_call rfl rfl (.cons wr (.cons wr (.cons wr .nil))) (trouble_Wrap_ok hv)) fun v77 hv77 H76 => ?_
    refine ma tk .nilp rfl rfl (ma tk (eErr v77) rfl rfl (wpo_nil (awp_ret ?_)))
    obtain rfl := oi H76
    exact ⟨_, .tup [.nilp, (eErr v77)], rfl, .of_eq rfl, NewBE.none (hH.noT.drop n10)⟩
   ·refine awp_skip (sr rfl (mm tk (eI x0) rfl rfl ?_))
    refine l_ H75 eI rfl (o_quo tk (z := (32 : Int)) rfl rfl rfl) fun v79 H78 => ?_
    refine l_ H78 eI rfl (o_max tk rfl rfl) fun v81 H80 => ?_
    refine ma tk (eI v81) rfl rfl (wpo_nil (sr rfl (mm tk (eI v81) rfl rfl ?_)))
    obtain ⟨v83, hvv83, H82⟩ := ob H80
    rcases hz87 : v83.1 with _ | c84
    ·rw [hz87, Option.elim_none] at H82
     refine wpo_a (av := fun _ => .tup [.nilp, (eErr v83.2)]) rfl rfl rfl (h_callnb0 hH hz87 rfl rfl (.cons wr (.cons wr .nil)) (lists_New_ok hvv83 _)) fun _ τ hH => ?_
     refine mm tk (.tup [.nilp, (eErr v83.2)]) rfl rfl (m_ .nilp rfl (o_ext tk rfl rfl) (m_ (eErr v83.2) rfl (o_ext tk rfl rfl) (ma tk .nilp rfl rfl (ma tk (eErr v83.2) rfl rfl (wpo_nil (awp_seq (sr rfl (mm tk (eErr v83.2) rfl rfl ?_))))))))
     refine l_ H82 eB rfl (o_err_neq tk rfl rfl rfl) fun v89 H88 => ?_
     refine wpo_nil ?_
     refine awp_if H88 rfl (fun H90 => ?_) (fun H90 => ?_)
     ·refine sr rfl (mm tk (eI x0) rfl rfl (mm tk (eErr v83.2) rfl rfl ?_))
      refine b_ H90 eErr rfl (fun v92 hv => OpP.of_call rfl rfl (.cons wr (.cons wr (.cons wr .nil))) (trouble_Wrap_ok hv)) fun v92 hv92 H91 => ?_
      refine ma tk .nilp rfl rfl (ma tk (eErr v92) rfl rfl (wpo_nil (awp_ret ?_)))
      obtain rfl := oi H91
      exact ⟨_, .tup [.nilp, (eErr v92)], rfl, .of_eq rfl, NewBE.none (hH.noT.drop n10)⟩
     ·refine awp_skip (awp_seq ?_)
      obtain ⟨v94, hv95, H93⟩ := lt_ex H90
      obtain ⟨v97, hv98, H96⟩ := ob H93
      obtain ⟨v102, hv103, H101⟩ := ob H96
      obtain ⟨v107, hv108, H106⟩ := ob H101
      refine awp_drawU mixed hH 9 [4, 6, 8] [(.p, fun _ => (.ref id9 0)), (.p, fun _ => .nilp), (.p, fun _ => (eI v81)), (.p, fun _ => (eI v94)), (.a (cL eI v97), fun b => .vec b 1 (v97).length), (.p, fun _ => (eI v81)), (.a (cL eI v102), fun b => .vec b 1 (v102).length), (.p, fun _ => (eI v81)), (.a (cL e_aEn v107), fun b => .vec b 5 (v107).length)] [10] rfl rfl rfl (by decide +kernel) rfl rfl rfl (by decide +kernel) rfl ?_
      refine wpdU_mv rfl rfl (o_mv tk rfl (Wk.refl _)) ?_
      refine wpdU_mv rfl rfl (o_mv tk rfl (Wk.refl _)) ?_
      refine wpdU_mv rfl rfl (o_mv tk rfl (Wk.refl _)) ?_
      refine wpdU_mv rfl rfl (by rw [← hv95]; exact (o_min tk rfl rfl)) ?_
      refine wpdU_a rfl rfl (fun σ1 O1 A1 hH => (h_makeV (e := eI) tk hH hv98 td70 ty3 rfl rfl rfl rfl)) fun id99 n100 => ?_
      refine wpdU_mv rfl rfl (o_mv tk rfl (Wk.refl _)) ?_
      refine wpdU_a rfl rfl (fun σ1 O1 A1 hH => (h_makeV (e := eI) tk hH hv103 td70 ty3 rfl rfl rfl rfl)) fun id104 n105 => ?_
      refine wpdU_mv rfl rfl (o_mv tk rfl (Wk.refl _)) ?_
      refine wpdU_a rfl rfl (fun σ1 O1 A1 hH => (h_makeVw tk hH hv108 td31 ty39 rfl enc39 (.cons wr (.cons wr (.cons wr (.cons wr (.cons (by exact wk_nils _) .nil))))) rfl rfl)) fun id109 n110 => ?_
      refine wpdU_nil fun τ hH => ?_
      have hH : Holds σ [(id109, (cL e_aEn v107)), (id104, (cL eI v102)), (id99, (cL eI v97)), (id9, (c_slab_Budget c8))] [] τ := hH
      cases H106
    ·rw [hz87, Option.elim_some] at H82
     refine wpo_a (av := fun id => .tup [.ref id 0, (eErr v83.2)]) rfl rfl rfl (h_callnb1 hH hz87 rfl rfl (.cons wr (.cons wr .nil)) (lists_New_ok hvv83 _)) fun id85 τ ⟨hH, n86⟩ => ?_
     obtain ⟨id85_nodes, h_id85_nodes⟩ : ∃ x, x = id85 + 1 := ⟨_, rfl⟩
     obtain ⟨id85_first_, h_id85_first_⟩ : ∃ x, x = id85 + 2 := ⟨_, rfl⟩
     obtain ⟨id85_last_, h_id85_last_⟩ : ∃ x, x = id85 + 3 := ⟨_, rfl⟩
     obtain ⟨id85_count, h_id85_count⟩ : ∃ x, x = id85 + 4 := ⟨_, rfl⟩
     have hH : Holds σ [(id85, [(.vec id85_nodes 4 (c84.nodes).length), (.vec id85_first_ 1 (c84.first_).length), (.vec id85_last_ 1 (c84.last_).length), (.vec id85_count 1 (c84.count).length), (eI c84.free), (eI c84.clock)]), (id85_nodes, (cL e_lists_link c84.nodes)), (id85_first_, (cL eI c84.first_)), (id85_last_, (cL eI c84.last_)), (id85_count, (cL eI c84.count)), (id9, (c_slab_Budget c8))] [] τ := by rw [h_id85_nodes, h_id85_first_, h_id85_last_, h_id85_count]; exact hH
     have n86_1 : σ.objs.length ≤ id85_nodes := by omega
     have n86_2 : σ.objs.length ≤ id85_first_ := by omega
     have n86_3 : σ.objs.length ≤ id85_last_ := by omega
     have n86_4 : σ.objs.length ≤ id85_count := by omega
     refine mm tk (.tup [(.ref id85 0), (eErr v83.2)]) rfl rfl (m_ (.ref id85 0) rfl (o_ext tk rfl rfl) (m_ (eErr v83.2) rfl (o_ext tk rfl rfl) (ma tk (.ref id85 0) rfl rfl (ma tk (eErr v83.2) rfl rfl (wpo_nil (awp_seq (sr rfl (mm tk (eErr v83.2) rfl rfl ?_))))))))
     refine l_ H82 eB rfl (o_err_neq tk rfl rfl rfl) fun v112 H111 => ?_
     refine wpo_nil ?_
     refine awp_if H111 rfl (fun H113 => ?_) (fun H113 => ?_)
     ·refine sr rfl (mm tk (eI x0) rfl rfl (mm tk (eErr v83.2) rfl rfl ?_))
      refine b_ H113 eErr rfl (fun v115 hv => OpP.of_call rfl rfl (.cons wr (.cons wr (.cons wr .nil))) (trouble_Wrap_ok hv)) fun v115 hv115 H114 => ?_
      refine ma tk .nilp rfl rfl (ma tk (eErr v115) rfl rfl (wpo_nil (awp_ret ?_)))
      obtain rfl := oi H114
      exact ⟨_, .tup [.nilp, (eErr v115)], rfl, .of_eq rfl, NewBE.none ((((((hH.noT.drop n86).drop n86_1).drop n86_2).drop n86_3).drop n86_4).drop n10)⟩
     ·refine awp_skip (awp_seq ?_)
      obtain ⟨v117, hv118, H116⟩ := lt_ex H113
      obtain ⟨v120, hv121, H119⟩ := ob H116
      obtain ⟨v125, hv126, H124⟩ := ob H119
      obtain ⟨v130, hv131, H129⟩ := ob H124
      refine awp_drawU mixed hH 9 [4, 6, 8] [(.p, fun _ => (.ref id9 0)), (.p, fun _ => (.ref id85 0)), (.p, fun _ => (eI v81)), (.p, fun _ => (eI v117)), (.a (cL eI v120), fun b => .vec b 1 (v120).length), (.p, fun _ => (eI v81)), (.a (cL eI v125), fun b => .vec b 1 (v125).length), (.p, fun _ => (eI v81)), (.a (cL e_aEn v130), fun b => .vec b 5 (v130).length)] [10] rfl rfl rfl (by decide +kernel) rfl rfl rfl (by decide +kernel) rfl ?_
      refine wpdU_mv rfl rfl (o_mv tk rfl (Wk.refl _)) ?_
      refine wpdU_mv rfl rfl (o_mv tk rfl (Wk.refl _)) ?_
      refine wpdU_mv rfl rfl (o_mv tk rfl (Wk.refl _)) ?_
      refine wpdU_mv rfl rfl (by rw [← hv118]; exact (o_min tk rfl rfl)) ?_
      refine wpdU_a rfl rfl (fun σ1 O1 A1 hH => (h_makeV (e := eI) tk hH hv121 td70 ty3 rfl rfl rfl rfl)) fun id122 n123 => ?_
      refine wpdU_mv rfl rfl (o_mv tk rfl (Wk.refl _)) ?_
      refine wpdU_a rfl rfl (fun σ1 O1 A1 hH => (h_makeV (e := eI) tk hH hv126 td70 ty3 rfl rfl rfl rfl)) fun id127 n128 => ?_
      refine wpdU_mv rfl rfl (o_mv tk rfl (Wk.refl _)) ?_
      refine wpdU_a rfl rfl (fun σ1 O1 A1 hH => (h_makeVw tk hH hv131 td31 ty39 rfl enc39 (.cons wr (.cons wr (.cons wr (.cons wr (.cons (by exact wk_nils _) .nil))))) rfl rfl)) fun id132 n133 => ?_
      refine wpdU_nil fun τ hH => ?_
      have hH : Holds σ [(id132, (cL e_aEn v130)), (id127, (cL eI v125)), (id122, (cL eI v120)), (id85, [(.vec id85_nodes 4 (c84.nodes).length), (.vec id85_first_ 1 (c84.first_).length), (.vec id85_last_ 1 (c84.last_).length), (.vec id85_count 1 (c84.count).length), (eI c84.free), (eI c84.clock)]), (id85_nodes, (cL e_lists_link c84.nodes)), (id85_first_, (cL eI c84.first_)), (id85_last_, (cL eI c84.last_)), (id85_count, (cL eI c84.count)), (id9, (c_slab_Budget c8))] [] τ := hH
      refine wpdS_mv (a := (.agg [(.ref id9 0), (.ref id85 0), (.vec id122 1 (v120).length), (.vec id127 1 (v125).length), (.vec id132 5 (v130).length), (eI (⟨c8, c84, v120, v125, v130, (0 : Int)⟩ : ram_Ram).count)])) rfl rfl rfl (o_c tk false rfl (fun _ => rfl)) ?_
      refine wpdS_a (av := fun id => .ref id 0) rfl rfl rfl (h_box tk hH rfl wr (b := (.agg [(.ref id9 0), (.ref id85 0), (.vec id122 1 (v120).length), (.vec id127 1 (v125).length), (.vec id132 5 (v130).length), (eI (⟨c8, c84, v120, v125, v130, (0 : Int)⟩ : ram_Ram).count)])) rfl [(.ref id9 0), (.ref id85 0), (.vec id122 1 (v120).length), (.vec id127 1 (v125).length), (.vec id132 5 (v130).length), (eI (⟨c8, c84, v120, v125, v130, (0 : Int)⟩ : ram_Ram).count)] rfl) fun id134 τ ⟨hH, n135⟩ => ?_
      refine wpdS_mv (a := (.ref id134 0)) rfl rfl rfl (o_as tk rfl (Wk.refl _)) (wpdS_nil (awp_seq (sr rfl (mm tk (.ref id134 0) rfl rfl (mc tk (.ref id134 0) rfl rfl (fun _ => rfl) (mc tk (.ref id134 2) rfl rfl (fun _ => rfl) (wpo_rd (a := (.vec id122 1 (v120).length)) rfl rfl rfl (h_ld tk hH 0 rfl rfl rfl) ?_)))))))
      refine l_ H129 eI rfl (o_vlen tk td70 rfl) fun v137 H136 => ?_
      refine mm tk (eI (0 : Int)) rfl rfl (wpo_nil (awp_block ?_))
      obtain ⟨s147, hs141, hj142⟩ := ob H136
      refine awp_cutx 0 (fun fr τ => WkF fr (fm [(8, (.ref id134 0))]) ∧ Holds σ [(id134, [(.ref id9 0), (.ref id85 0), (.vec id122 1 (s147).length), (.vec id127 1 (v125).length), (.vec id132 5 (v130).length), (eI (⟨c8, c84, v120, v125, v130, (0 : Int)⟩ : ram_Ram).count)]), (id132, (cL e_aEn v130)), (id127, (cL eI v125)), (id122, (cL eI s147)), (id85, [(.vec id85_nodes 4 (c84.nodes).length), (.vec id85_first_ 1 (c84.first_).length), (.vec id85_last_ 1 (c84.last_).length), (.vec id85_count 1 (c84.count).length), (eI c84.free), (eI c84.clock)]), (id85_nodes, (cL e_lists_link c84.nodes)), (id85_first_, (cL eI c84.first_)), (id85_last_, (cL eI c84.last_)), (id85_count, (cL eI c84.count)), (id9, (c_slab_Budget c8))] [] τ) ?_ ?_
      ·rintro fr τ ⟨hfr, hH⟩
       have H159 := hj142
       refine AWP.fm [(8, (.ref id134 0))] hfr ?_
       refine sr rfl (mm tk (.ref id134 0) rfl rfl (ma tk (.ref id134 0) rfl rfl (ma tk (eErr Err.nil) rfl rfl (wpo_nil (awp_ret ?_)))))
       obtain rfl := oi H159
       refine ⟨_, .tup [.ref id134 0, (eErr Err.nil)], rfl, .of_eq rfl, NewBE.some (fun i => [id134, id9, id85, id85_nodes, id85_first_, id85_last_, id85_count, id122, id127, id132].getD i 0) (by intro i hi; match i, hi with | 0, _ => exact n135 | 1, _ => exact n10 | 2, _ => exact n86 | 3, _ => exact n86_1 | 4, _ => exact n86_2 | 5, _ => exact n86_3 | 6, _ => exact n86_4 | 7, _ => exact n123 | 8, _ => exact n128 | 9, _ => exact n133 | k + 10, hi => exact absurd hi (by simp)) (hH.pick (by simp only [zipB, List.mem_cons, List.not_mem_nil, or_false]; rintro _ (rfl | rfl | rfl | rfl | rfl | rfl | rfl | rfl | rfl | rfl) <;> simp) ?_ (by simp only [List.mem_cons, List.not_mem_nil, or_false]; rintro _ (rfl | rfl | rfl | rfl | rfl | rfl | rfl | rfl | rfl | rfl) <;> first | exact .inl (by assumption) | exact .inr (by simp [zipB])) (fun t h => by cases h) .nil)⟩
       exact pw_zip (hH.pw [0, 9, 4, 5, 6, 7, 8, 3, 2, 1] rfl (by decide))
      ·refine awp_loopO (body := fun s => ram_New_b0 c8 c84 v120 v125 v130 v137 s.1 s.2) hs141 (fun (s : Int × (List Int)) fr τ => WkF fr (fm [(8, (.ref id134 0)), (52, (eI v137)), (53, (eI s.1))]) ∧ Holds σ [(id134, [(.ref id9 0), (.ref id85 0), (.vec id122 1 (s.2).length), (.vec id127 1 (v125).length), (.vec id132 5 (v130).length), (eI (⟨c8, c84, v120, v125, v130, (0 : Int)⟩ : ram_Ram).count)]), (id132, (cL e_aEn v130)), (id127, (cL eI v125)), (id122, (cL eI s.2)), (id85, [(.vec id85_nodes 4 (c84.nodes).length), (.vec id85_first_ 1 (c84.first_).length), (.vec id85_last_ 1 (c84.last_).length), (.vec id85_count 1 (c84.count).length), (eI c84.free), (eI c84.clock)]), (id85_nodes, (cL e_lists_link c84.nodes)), (id85_first_, (cL eI c84.first_)), (id85_last_, (cL eI c84.last_)), (id85_count, (cL eI c84.count)), (id9, (c_slab_Budget c8))] [] τ) ⟨(wc (wc (wc (wkf_nil _)))), hH⟩ ?_
       rintro ⟨c138, c139⟩ fr τ y143 ⟨hfr, hH⟩ hb145 hy146
       have H148 : ram_New_b0 c8 c84 v120 v125 v130 v137 c138 c139 = some y143 := hb145
       unfold ram_New_b0 at H148
       refine AWP.fm [(8, (.ref id134 0)), (52, (eI v137)), (53, (eI c138))] hfr ?_
       have hH : Holds σ [(id134, [(.ref id9 0), (.ref id85 0), (.vec id122 1 (c139).length), (.vec id127 1 (v125).length), (.vec id132 5 (v130).length), (eI (⟨c8, c84, v120, v125, v130, (0 : Int)⟩ : ram_Ram).count)]), (id132, (cL e_aEn v130)), (id127, (cL eI v125)), (id122, (cL eI c139)), (id85, [(.vec id85_nodes 4 (c84.nodes).length), (.vec id85_first_ 1 (c84.first_).length), (.vec id85_last_ 1 (c84.last_).length), (.vec id85_count 1 (c84.count).length), (eI c84.free), (eI c84.clock)]), (id85_nodes, (cL e_lists_link c84.nodes)), (id85_first_, (cL eI c84.first_)), (id85_last_, (cL eI c84.last_)), (id85_count, (cL eI c84.count)), (id9, (c_slab_Budget c8))] [] τ := hH
       refine sr rfl ?_
       refine l_ H148 eB rfl (o_ar tk rfl rfl rfl) fun v150 H149 => ?_
       refine wpo_nil (awp_seq ?_)
       refine awp_if H149 rfl (fun H151 => ?_) (fun H151 => ?_)
       ·refine awp_skip (awp_seq (awp_block (sr rfl (mm tk (eI c138) rfl rfl (ma tk (eI c138) rfl rfl (wpo_nil (awp_region rfl (mm tk (.ref id134 0) rfl rfl ?_))))))))
        refine mc tk (.ref id134 0) rfl rfl (fun _ => rfl) (mc tk (.ref id134 2) rfl rfl (fun _ => rfl) (wpo_rd (a := (.vec id122 1 (c139).length)) rfl rfl rfl (h_ld tk hH 0 rfl rfl rfl) (mm tk (eI c138) rfl rfl ?_)))
        refine b_ H151 (fun _ => .ref id122 (0 + (c138 : Int).toNat * 1 + 0)) rfl (fun v153 hv => o_vecx tk hv td70 sz3 (by decide) rfl rfl) fun v153 hv153 H152 => ?_
        obtain ⟨c155, hc156, H154⟩ := ob H152
        refine wpo_z rfl rfl (h_stx tk hH 3 hc156 rfl (enc_i64 td3 sz3) ty3 (by simp) rfl rfl wr (b := (eI (-1 : Int))) rfl rfl (by decide) (fun _ => rfl)) fun τ hH => ?_
        refine wpo_nil (awp_region rfl ?_)
        refine l_ H154 eI rfl (o_ar tk rfl rfl rfl) fun v158 H157 => ?_
        refine mm tk (eI v158) rfl rfl (wpo_nil ?_)
        exact ⟨(v158, c155), inj_inl H157, (wc (wc (wc (wkf_nil _)))), (Holds.cells hH 0 [(.ref id9 0), (.ref id85 0), (.vec id122 1 (c155).length), (.vec id127 1 (v125).length), (.vec id132 5 (v130).length), (eI (⟨c8, c84, v120, v125, v130, (0 : Int)⟩ : ram_Ram).count)] rfl (by first | rfl | simp only [updA_len hc156]))⟩
       ·refine awp_exit ?_
        have hz := hy146 _ (inj_inr H151)
        subst hz
        exact ⟨⟨_, inj_inr H151⟩, (wc (wkf_nil _)), hH⟩
end Go.Proofs.YtggeboakilalhaaDoor
namespace Go.Proofs.YtggeboakilalhaaDoor
open Go Go.Va
set_option linter.unusedVariables false
set_option linter.unusedSimpArgs false
set_option maxRecDepth 20000
set_option maxHeartbeats 2000000
theorem L11_works_ok  {r : Bool} (H : L11_works = some r) (σ : St)  (hg : σ.gl = gls) : ACall Tryd.prog 7 [] σ (fun a τ => a = eB r ∧ τ = σ) := by
 unfold L11_works at H
 refine ACall.pure (acall_start tk Tryd.func7 (by decide) rfl (nb rfl) ?_)
 have hH := Holds.init σ
 refine sr rfl (ma tk (eB false) rfl rfl (wpo_nil (sr rfl ?_)))
 obtain ⟨v2, hvv2, H1⟩ := ob H
 rcases hz6 : v2.1 with _ | c3
 ·rw [hz6, Option.elim_none] at H1
  refine wpo_a (av := fun _ => .tup [.nilp, (eErr v2.2)]) rfl rfl rfl (h_callnb0 hH hz6 rfl rfl (.cons wr .nil) (ram_New_ok hvv2 _)) fun _ τ hH => ?_
  refine mm tk (.tup [.nilp, (eErr v2.2)]) rfl rfl (m_ .nilp rfl (o_ext tk rfl rfl) (m_ (eErr v2.2) rfl (o_ext tk rfl rfl) (ma tk .nilp rfl rfl (ma tk (eErr v2.2) rfl rfl (wpo_nil (sr rfl ?_))))))
  obtain ⟨v8, hvv8, H7⟩ := ob H1
  refine wpo_a (av := fun _ => .tup [.junk, (eErr v8.2)]) rfl rfl rfl (h_callnbj hH rfl rfl (.cons wr .nil) (ram_New_ok hvv8 _)) fun _ τ hH => ?_
  refine mm tk (.tup [.junk, (eErr v8.2)]) rfl rfl (m_ .junk rfl (o_ext tk rfl rfl) (m_ (eErr v8.2) rfl (o_ext tk rfl rfl) (ma tk .junk rfl rfl (ma tk (eErr v8.2) rfl rfl (wpo_nil (awp_seq (sr rfl (mm tk .nilp rfl rfl ?_))))))))
  refine mc tk (eB true) rfl rfl (fun _ => rfl) (mm tk (eB true) rfl rfl (k_ rfl (k_ rfl (pt tk (eB true) rfl rfl rfl (wpo_nil ?_)))))
  refine awp_true rfl ?_
  refine sr rfl (ma tk (eB false) rfl rfl (wpo_nil (awp_ret ?_)))
  obtain rfl := oi H7
  exact ⟨_, (eB false), rfl, wr, .of_eq ((enc_b td4 sz4).cut _ _ _), hH.noT⟩
 ·rw [hz6, Option.elim_some] at H1
  refine wpo_a (av := fun id => .tup [.ref id 0, (eErr v2.2)]) rfl rfl rfl (h_callnb1 hH hz6 rfl rfl (.cons wr .nil) (ram_New_ok hvv2 _)) fun id4 τ ⟨hH, n5⟩ => ?_
  obtain ⟨id4B, h_id4B⟩ : ∃ x, x = id4 + 1 := ⟨_, rfl⟩
  obtain ⟨id4I, h_id4I⟩ : ∃ x, x = id4 + 2 := ⟨_, rfl⟩
  obtain ⟨id4N, h_id4N⟩ : ∃ x, x = id4 + 3 := ⟨_, rfl⟩
  obtain ⟨id4F, h_id4F⟩ : ∃ x, x = id4 + 4 := ⟨_, rfl⟩
  obtain ⟨id4L, h_id4L⟩ : ∃ x, x = id4 + 5 := ⟨_, rfl⟩
  obtain ⟨id4C, h_id4C⟩ : ∃ x, x = id4 + 6 := ⟨_, rfl⟩
  obtain ⟨id4H, h_id4H⟩ : ∃ x, x = id4 + 7 := ⟨_, rfl⟩
  obtain ⟨id4X, h_id4X⟩ : ∃ x, x = id4 + 8 := ⟨_, rfl⟩
  obtain ⟨id4G, h_id4G⟩ : ∃ x, x = id4 + 9 := ⟨_, rfl⟩
  have hH : Holds σ [(id4, [(.ref id4B 0), (.ref id4I 0), (.vec id4H 1 (c3.heads).length), (.vec id4X 1 (c3.next_).length), (.vec id4G 5 (c3.things).length), (eI c3.count)]), (id4B, (c_slab_Budget c3.budget)), (id4I, [(.vec id4N 4 (c3.lists.nodes).length), (.vec id4F 1 (c3.lists.first_).length), (.vec id4L 1 (c3.lists.last_).length), (.vec id4C 1 (c3.lists.count).length), (eI c3.lists.free), (eI c3.lists.clock)]), (id4N, (cL e_lists_link c3.lists.nodes)), (id4F, (cL eI c3.lists.first_)), (id4L, (cL eI c3.lists.last_)), (id4C, (cL eI c3.lists.count)), (id4H, (cL eI c3.heads)), (id4X, (cL eI c3.next_)), (id4G, (cL e_aEn c3.things))] [] τ := by rw [h_id4B, h_id4I, h_id4N, h_id4F, h_id4L, h_id4C, h_id4H, h_id4X, h_id4G]; exact hH
  have n5_1 : σ.objs.length ≤ id4B := by omega
  have n5_2 : σ.objs.length ≤ id4I := by omega
  have n5_3 : σ.objs.length ≤ id4N := by omega
  have n5_4 : σ.objs.length ≤ id4F := by omega
  have n5_5 : σ.objs.length ≤ id4L := by omega
  have n5_6 : σ.objs.length ≤ id4C := by omega
  have n5_7 : σ.objs.length ≤ id4H := by omega
  have n5_8 : σ.objs.length ≤ id4X := by omega
  have n5_9 : σ.objs.length ≤ id4G := by omega
  refine mm tk (.tup [(.ref id4 0), (eErr v2.2)]) rfl rfl (m_ (.ref id4 0) rfl (o_ext tk rfl rfl) (m_ (eErr v2.2) rfl (o_ext tk rfl rfl) (ma tk (.ref id4 0) rfl rfl (ma tk (eErr v2.2) rfl rfl (wpo_nil (sr rfl ?_))))))
  obtain ⟨v10, hvv10, H9⟩ := ob H1
  refine wpo_a (av := fun _ => .tup [.junk, (eErr v10.2)]) rfl rfl rfl (h_callnbj hH rfl rfl (.cons wr .nil) (ram_New_ok hvv10 _)) fun _ τ hH => ?_
  refine mm tk (.tup [.junk, (eErr v10.2)]) rfl rfl (m_ .junk rfl (o_ext tk rfl rfl) (m_ (eErr v10.2) rfl (o_ext tk rfl rfl) (ma tk .junk rfl rfl (ma tk (eErr v10.2) rfl rfl (wpo_nil (awp_seq (sr rfl (mm tk (.ref id4 0) rfl rfl ?_))))))))
  refine mc tk (eB false) rfl rfl (fun _ => rfl) (mm tk (eB false) rfl rfl (mm tk (eErr v2.2) rfl rfl ?_))
  refine l_ H9 eB rfl (o_err_neq tk rfl rfl rfl) fun v12 H11 => ?_
  refine pf tk (eB v12) rfl rfl rfl (wpo_nil ?_)
  refine awp_if H11 rfl (fun H13 => ?_) (fun H13 => ?_)
  ·refine sr rfl (ma tk (eB false) rfl rfl (wpo_nil (awp_ret ?_)))
   obtain rfl := oi H13
   exact ⟨_, (eB false), rfl, wr, .of_eq ((enc_b td4 sz4).cut _ _ _), ((((((((((hH.noT.drop n5).drop n5_1).drop n5_2).drop n5_3).drop n5_4).drop n5_5).drop n5_6).drop n5_7).drop n5_8).drop n5_9)⟩
  ·refine awp_skip (sr rfl (mm tk (.ref id4 0) rfl rfl (mc tk (.agg [(eS (⟨[97#8], 1, 1, 0, []⟩ : aEn).Key), (eI (⟨[97#8], 1, 1, 0, []⟩ : aEn).Version), (eI (⟨[97#8], 1, 1, 0, []⟩ : aEn).AsOf), (eI (⟨[97#8], 1, 1, 0, []⟩ : aEn).Ends), AV.nils]) rfl rfl (fun _ => rfl) ?_)))
   refine wpo_cb H13 (fun x _ => .tup [(eL 5 e_aEn) x.1, eErr x.2.1]) rfl rfl rfl (fun v15 hv => h_call1 hH [(0, (id4, [(.ref id4B 0), (.ref id4I 0), (.vec id4H 1 (v15.2.2.heads).length), (.vec id4X 1 (v15.2.2.next_).length), (.vec id4G 5 (v15.2.2.things).length), (eI v15.2.2.count)])), (1, (id4B, (c_slab_Budget v15.2.2.budget))), (2, (id4I, [(.vec id4N 4 (v15.2.2.lists.nodes).length), (.vec id4F 1 (v15.2.2.lists.first_).length), (.vec id4L 1 (v15.2.2.lists.last_).length), (.vec id4C 1 (v15.2.2.lists.count).length), (eI v15.2.2.lists.free), (eI v15.2.2.lists.clock)])), (3, (id4N, (cL e_lists_link v15.2.2.lists.nodes))), (4, (id4F, (cL eI v15.2.2.lists.first_))), (5, (id4L, (cL eI v15.2.2.lists.last_))), (6, (id4C, (cL eI v15.2.2.lists.count))), (7, (id4H, (cL eI v15.2.2.heads))), (8, (id4X, (cL eI v15.2.2.next_))), (9, (id4G, (cL e_aEn v15.2.2.things)))] ⟨⟨_, rfl⟩, ⟨⟨_, rfl⟩, ⟨⟨_, rfl⟩, ⟨⟨_, rfl⟩, ⟨⟨_, rfl⟩, ⟨⟨_, rfl⟩, ⟨⟨_, rfl⟩, ⟨⟨_, rfl⟩, ⟨⟨_, rfl⟩, ⟨⟨_, rfl⟩, trivial⟩⟩⟩⟩⟩⟩⟩⟩⟩⟩ rfl rfl (.cons wr (.cons (wk_agg (.cons wr (.cons wr (.cons wr (.cons wr (.cons (wk_nils _) .nil)))))) (.cons wr .nil))) (ram_Ram_Set_ok hv _ (hH.at_ 0 rfl) (hH.at_ 1 rfl) (hH.at_ 2 rfl) (hH.at_ 3 rfl) (hH.at_ 4 rfl) (hH.at_ 5 rfl) (hH.at_ 6 rfl) (hH.at_ 7 rfl) (hH.at_ 8 rfl) (hH.at_ 9 rfl) (hH.pw [0, 1, 2, 3, 4, 5, 6, 7, 8, 9] rfl (by decide)))) fun v15 _ τ hv15 H14 (hH : Holds σ [(id4, [(.ref id4B 0), (.ref id4I 0), (.vec id4H 1 (v15.2.2.heads).length), (.vec id4X 1 (v15.2.2.next_).length), (.vec id4G 5 (v15.2.2.things).length), (eI v15.2.2.count)]), (id4B, (c_slab_Budget v15.2.2.budget)), (id4I, [(.vec id4N 4 (v15.2.2.lists.nodes).length), (.vec id4F 1 (v15.2.2.lists.first_).length), (.vec id4L 1 (v15.2.2.lists.last_).length), (.vec id4C 1 (v15.2.2.lists.count).length), (eI v15.2.2.lists.free), (eI v15.2.2.lists.clock)]), (id4N, (cL e_lists_link v15.2.2.lists.nodes)), (id4F, (cL eI v15.2.2.lists.first_)), (id4L, (cL eI v15.2.2.lists.last_)), (id4C, (cL eI v15.2.2.lists.count)), (id4H, (cL eI v15.2.2.heads)), (id4X, (cL eI v15.2.2.next_)), (id4G, (cL e_aEn v15.2.2.things))] [] τ) => ?_
   refine mm tk (.tup [((eL 5 e_aEn) v15.1), (eErr v15.2.1)]) rfl rfl (m_ ((eL 5 e_aEn) v15.1) rfl (o_ext tk rfl rfl) (m_ (eErr v15.2.1) rfl (o_ext tk rfl rfl) (ma tk ((eL 5 e_aEn) v15.1) rfl rfl (ma tk (eErr v15.2.1) rfl rfl (wpo_nil (sr rfl (mm tk (.ref id4 0) rfl rfl ?_)))))))
   obtain ⟨v17, hv18, H16⟩ := ob H14
   refine wpo_a (av := fun t => eT t 1 (@eU .u8 8) v17) rfl rfl rfl (h_make tk hH hv18 td37 ty5 rfl rfl rfl rfl) fun tk19 τ hH => ?_
   refine l_ H16 e_aEn rfl (OpP.wk (wkf_up (t := 37) (a := ((eL 1 (@eU .u8 8)) v17)) wk_no) (o_c tk false rfl (fun _ => rfl))) fun v21 H20 => ?_
   refine wpo_cb H20 (fun x _ => .tup [(eL 5 e_aEn) x.1, eErr x.2.1]) rfl rfl rfl (fun v23 hv => h_call1 hH [(0, (id4, [(.ref id4B 0), (.ref id4I 0), (.vec id4H 1 (v23.2.2.heads).length), (.vec id4X 1 (v23.2.2.next_).length), (.vec id4G 5 (v23.2.2.things).length), (eI v23.2.2.count)])), (1, (id4B, (c_slab_Budget v23.2.2.budget))), (2, (id4I, [(.vec id4N 4 (v23.2.2.lists.nodes).length), (.vec id4F 1 (v23.2.2.lists.first_).length), (.vec id4L 1 (v23.2.2.lists.last_).length), (.vec id4C 1 (v23.2.2.lists.count).length), (eI v23.2.2.lists.free), (eI v23.2.2.lists.clock)])), (3, (id4N, (cL e_lists_link v23.2.2.lists.nodes))), (4, (id4F, (cL eI v23.2.2.lists.first_))), (5, (id4L, (cL eI v23.2.2.lists.last_))), (6, (id4C, (cL eI v23.2.2.lists.count))), (7, (id4H, (cL eI v23.2.2.heads))), (8, (id4X, (cL eI v23.2.2.next_))), (9, (id4G, (cL e_aEn v23.2.2.things)))] ⟨⟨_, rfl⟩, ⟨⟨_, rfl⟩, ⟨⟨_, rfl⟩, ⟨⟨_, rfl⟩, ⟨⟨_, rfl⟩, ⟨⟨_, rfl⟩, ⟨⟨_, rfl⟩, ⟨⟨_, rfl⟩, ⟨⟨_, rfl⟩, ⟨⟨_, rfl⟩, trivial⟩⟩⟩⟩⟩⟩⟩⟩⟩⟩ rfl rfl (.cons wr (.cons wr (.cons wr .nil))) (ram_Ram_Set_ok hv _ (hH.at_ 0 rfl) (hH.at_ 1 rfl) (hH.at_ 2 rfl) (hH.at_ 3 rfl) (hH.at_ 4 rfl) (hH.at_ 5 rfl) (hH.at_ 6 rfl) (hH.at_ 7 rfl) (hH.at_ 8 rfl) (hH.at_ 9 rfl) (hH.pw [0, 1, 2, 3, 4, 5, 6, 7, 8, 9] rfl (by decide)))) fun v23 _ τ hv23 H22 (hH : Holds σ [(id4, [(.ref id4B 0), (.ref id4I 0), (.vec id4H 1 (v23.2.2.heads).length), (.vec id4X 1 (v23.2.2.next_).length), (.vec id4G 5 (v23.2.2.things).length), (eI v23.2.2.count)]), (id4B, (c_slab_Budget v23.2.2.budget)), (id4I, [(.vec id4N 4 (v23.2.2.lists.nodes).length), (.vec id4F 1 (v23.2.2.lists.first_).length), (.vec id4L 1 (v23.2.2.lists.last_).length), (.vec id4C 1 (v23.2.2.lists.count).length), (eI v23.2.2.lists.free), (eI v23.2.2.lists.clock)]), (id4N, (cL e_lists_link v23.2.2.lists.nodes)), (id4F, (cL eI v23.2.2.lists.first_)), (id4L, (cL eI v23.2.2.lists.last_)), (id4C, (cL eI v23.2.2.lists.count)), (id4H, (cL eI v23.2.2.heads)), (id4X, (cL eI v23.2.2.next_)), (id4G, (cL e_aEn v23.2.2.things))] [tk19] τ) => ?_
   refine mm tk (.tup [((eL 5 e_aEn) v23.1), (eErr v23.2.1)]) rfl rfl (m_ ((eL 5 e_aEn) v23.1) rfl (o_ext tk rfl rfl) (m_ (eErr v23.2.1) rfl (o_ext tk rfl rfl) (ma tk ((eL 5 e_aEn) v23.1) rfl rfl (ma tk (eErr v23.2.1) rfl rfl (wpo_nil (sr rfl (mm tk (.ref id4 0) rfl rfl ?_)))))))
   refine wpo_cb H22 (fun x _ => .tup [e_aEn x.1, eB x.2.1]) rfl rfl rfl (fun v25 hv => h_call1 hH [(0, (id4, [(.ref id4B 0), (.ref id4I 0), (.vec id4H 1 (v25.2.2.heads).length), (.vec id4X 1 (v25.2.2.next_).length), (.vec id4G 5 (v25.2.2.things).length), (eI v25.2.2.count)])), (1, (id4B, (c_slab_Budget v25.2.2.budget))), (2, (id4I, [(.vec id4N 4 (v25.2.2.lists.nodes).length), (.vec id4F 1 (v25.2.2.lists.first_).length), (.vec id4L 1 (v25.2.2.lists.last_).length), (.vec id4C 1 (v25.2.2.lists.count).length), (eI v25.2.2.lists.free), (eI v25.2.2.lists.clock)])), (3, (id4N, (cL e_lists_link v25.2.2.lists.nodes))), (4, (id4F, (cL eI v25.2.2.lists.first_))), (5, (id4L, (cL eI v25.2.2.lists.last_))), (6, (id4C, (cL eI v25.2.2.lists.count))), (7, (id4H, (cL eI v25.2.2.heads))), (8, (id4X, (cL eI v25.2.2.next_))), (9, (id4G, (cL e_aEn v25.2.2.things)))] ⟨⟨_, rfl⟩, ⟨⟨_, rfl⟩, ⟨⟨_, rfl⟩, ⟨⟨_, rfl⟩, ⟨⟨_, rfl⟩, ⟨⟨_, rfl⟩, ⟨⟨_, rfl⟩, ⟨⟨_, rfl⟩, ⟨⟨_, rfl⟩, ⟨⟨_, rfl⟩, trivial⟩⟩⟩⟩⟩⟩⟩⟩⟩⟩ rfl rfl (.cons wr (.cons wr (.cons wr .nil))) (ram_Ram_Get_ok hv _ (hH.at_ 0 rfl) (hH.at_ 1 rfl) (hH.at_ 2 rfl) (hH.at_ 3 rfl) (hH.at_ 4 rfl) (hH.at_ 5 rfl) (hH.at_ 6 rfl) (hH.at_ 7 rfl) (hH.at_ 8 rfl) (hH.at_ 9 rfl) (hH.pw [0, 1, 2, 3, 4, 5, 6, 7, 8, 9] rfl (by decide)))) fun v25 _ τ hv25 H24 (hH : Holds σ [(id4, [(.ref id4B 0), (.ref id4I 0), (.vec id4H 1 (v25.2.2.heads).length), (.vec id4X 1 (v25.2.2.next_).length), (.vec id4G 5 (v25.2.2.things).length), (eI v25.2.2.count)]), (id4B, (c_slab_Budget v25.2.2.budget)), (id4I, [(.vec id4N 4 (v25.2.2.lists.nodes).length), (.vec id4F 1 (v25.2.2.lists.first_).length), (.vec id4L 1 (v25.2.2.lists.last_).length), (.vec id4C 1 (v25.2.2.lists.count).length), (eI v25.2.2.lists.free), (eI v25.2.2.lists.clock)]), (id4N, (cL e_lists_link v25.2.2.lists.nodes)), (id4F, (cL eI v25.2.2.lists.first_)), (id4L, (cL eI v25.2.2.lists.last_)), (id4C, (cL eI v25.2.2.lists.count)), (id4H, (cL eI v25.2.2.heads)), (id4X, (cL eI v25.2.2.next_)), (id4G, (cL e_aEn v25.2.2.things))] [tk19] τ) => ?_
   refine mm tk (.tup [(e_aEn v25.1), (eB v25.2.1)]) rfl rfl (m_ (e_aEn v25.1) rfl (o_ext tk rfl rfl) (m_ (eB v25.2.1) rfl (o_ext tk rfl rfl) ?_))
   refine wpo_a (av := fun id => .ref id 0) rfl rfl rfl (h_alloc tk hH ty39 [(eS z_aEn.Key), (eI z_aEn.Version), (eI z_aEn.AsOf), (eI z_aEn.Ends), AV.nils] rfl) fun id26 τ ⟨hH, n27⟩ => ?_
   refine wpo_z rfl rfl (h_st tk hH 0 rfl ty39 (by simp) rfl rfl wr (b := (e_aEn v25.1)) (enc39.flat _) rfl (nb rfl) (c_aEn (v25.1 : aEn)) rfl) fun τ hH => ?_
   refine ma tk (eB v25.2.1) rfl rfl (wpo_nil (sr rfl (mm tk (.ref id4 0) rfl rfl (mc tk (.agg [(eS (⟨[99#8], 1, 1, 0, []⟩ : aEn).Key), (eI (⟨[99#8], 1, 1, 0, []⟩ : aEn).Version), (eI (⟨[99#8], 1, 1, 0, []⟩ : aEn).AsOf), (eI (⟨[99#8], 1, 1, 0, []⟩ : aEn).Ends), AV.nils]) rfl rfl (fun _ => rfl) ?_))))
   refine wpo_cb H24 (fun x _ => .tup [(eL 5 e_aEn) x.1, eErr x.2.1]) rfl rfl rfl (fun v30 hv => h_call1 hH [(1, (id4, [(.ref id4B 0), (.ref id4I 0), (.vec id4H 1 (v30.2.2.heads).length), (.vec id4X 1 (v30.2.2.next_).length), (.vec id4G 5 (v30.2.2.things).length), (eI v30.2.2.count)])), (2, (id4B, (c_slab_Budget v30.2.2.budget))), (3, (id4I, [(.vec id4N 4 (v30.2.2.lists.nodes).length), (.vec id4F 1 (v30.2.2.lists.first_).length), (.vec id4L 1 (v30.2.2.lists.last_).length), (.vec id4C 1 (v30.2.2.lists.count).length), (eI v30.2.2.lists.free), (eI v30.2.2.lists.clock)])), (4, (id4N, (cL e_lists_link v30.2.2.lists.nodes))), (5, (id4F, (cL eI v30.2.2.lists.first_))), (6, (id4L, (cL eI v30.2.2.lists.last_))), (7, (id4C, (cL eI v30.2.2.lists.count))), (8, (id4H, (cL eI v30.2.2.heads))), (9, (id4X, (cL eI v30.2.2.next_))), (10, (id4G, (cL e_aEn v30.2.2.things)))] ⟨⟨_, rfl⟩, ⟨⟨_, rfl⟩, ⟨⟨_, rfl⟩, ⟨⟨_, rfl⟩, ⟨⟨_, rfl⟩, ⟨⟨_, rfl⟩, ⟨⟨_, rfl⟩, ⟨⟨_, rfl⟩, ⟨⟨_, rfl⟩, ⟨⟨_, rfl⟩, trivial⟩⟩⟩⟩⟩⟩⟩⟩⟩⟩ rfl rfl (.cons wr (.cons (wk_agg (.cons wr (.cons wr (.cons wr (.cons wr (.cons (wk_nils _) .nil)))))) (.cons wr .nil))) (ram_Ram_Set_ok hv _ (hH.at_ 1 rfl) (hH.at_ 2 rfl) (hH.at_ 3 rfl) (hH.at_ 4 rfl) (hH.at_ 5 rfl) (hH.at_ 6 rfl) (hH.at_ 7 rfl) (hH.at_ 8 rfl) (hH.at_ 9 rfl) (hH.at_ 10 rfl) (hH.pw [1, 2, 3, 4, 5, 6, 7, 8, 9, 10] rfl (by decide)))) fun v30 _ τ hv30 H29 (hH : Holds σ [(id26, (c_aEn (v25.1 : aEn))), (id4, [(.ref id4B 0), (.ref id4I 0), (.vec id4H 1 (v30.2.2.heads).length), (.vec id4X 1 (v30.2.2.next_).length), (.vec id4G 5 (v30.2.2.things).length), (eI v30.2.2.count)]), (id4B, (c_slab_Budget v30.2.2.budget)), (id4I, [(.vec id4N 4 (v30.2.2.lists.nodes).length), (.vec id4F 1 (v30.2.2.lists.first_).length), (.vec id4L 1 (v30.2.2.lists.last_).length), (.vec id4C 1 (v30.2.2.lists.count).length), (eI v30.2.2.lists.free), (eI v30.2.2.lists.clock)]), (id4N, (cL e_lists_link v30.2.2.lists.nodes)), (id4F, (cL eI v30.2.2.lists.first_)), (id4L, (cL eI v30.2.2.lists.last_)), (id4C, (cL eI v30.2.2.lists.count)), (id4H, (cL eI v30.2.2.heads)), (id4X, (cL eI v30.2.2.next_)), (id4G, (cL e_aEn v30.2.2.things))] [tk19] τ) => ?_
   refine mm tk (.tup [((eL 5 e_aEn) v30.1), (eErr v30.2.1)]) rfl rfl (m_ ((eL 5 e_aEn) v30.1) rfl (o_ext tk rfl rfl) (m_ (eErr v30.2.1) rfl (o_ext tk rfl rfl) (ma tk ((eL 5 e_aEn) v30.1) rfl rfl (ma tk (eErr v30.2.1) rfl rfl (wpo_nil (sr rfl (mm tk (.ref id4 0) rfl rfl ?_)))))))
   obtain ⟨v32, hv33, H31⟩ := ob H29
   refine wpo_a (av := fun t => eT t 1 (@eU .u8 8) v32) rfl rfl rfl (h_make tk hH hv33 td37 ty5 rfl rfl rfl rfl) fun tk34 τ hH => ?_
   refine l_ H31 e_aEn rfl (OpP.wk (wkf_up (t := 55) (a := ((eL 1 (@eU .u8 8)) v32)) wk_no) (o_c tk false rfl (fun _ => rfl))) fun v36 H35 => ?_
   refine wpo_cb H35 (fun x _ => .tup [(eL 5 e_aEn) x.1, eErr x.2.1]) rfl rfl rfl (fun v38 hv => h_call1 hH [(1, (id4, [(.ref id4B 0), (.ref id4I 0), (.vec id4H 1 (v38.2.2.heads).length), (.vec id4X 1 (v38.2.2.next_).length), (.vec id4G 5 (v38.2.2.things).length), (eI v38.2.2.count)])), (2, (id4B, (c_slab_Budget v38.2.2.budget))), (3, (id4I, [(.vec id4N 4 (v38.2.2.lists.nodes).length), (.vec id4F 1 (v38.2.2.lists.first_).length), (.vec id4L 1 (v38.2.2.lists.last_).length), (.vec id4C 1 (v38.2.2.lists.count).length), (eI v38.2.2.lists.free), (eI v38.2.2.lists.clock)])), (4, (id4N, (cL e_lists_link v38.2.2.lists.nodes))), (5, (id4F, (cL eI v38.2.2.lists.first_))), (6, (id4L, (cL eI v38.2.2.lists.last_))), (7, (id4C, (cL eI v38.2.2.lists.count))), (8, (id4H, (cL eI v38.2.2.heads))), (9, (id4X, (cL eI v38.2.2.next_))), (10, (id4G, (cL e_aEn v38.2.2.things)))] ⟨⟨_, rfl⟩, ⟨⟨_, rfl⟩, ⟨⟨_, rfl⟩, ⟨⟨_, rfl⟩, ⟨⟨_, rfl⟩, ⟨⟨_, rfl⟩, ⟨⟨_, rfl⟩, ⟨⟨_, rfl⟩, ⟨⟨_, rfl⟩, ⟨⟨_, rfl⟩, trivial⟩⟩⟩⟩⟩⟩⟩⟩⟩⟩ rfl rfl (.cons wr (.cons wr (.cons wr .nil))) (ram_Ram_Set_ok hv _ (hH.at_ 1 rfl) (hH.at_ 2 rfl) (hH.at_ 3 rfl) (hH.at_ 4 rfl) (hH.at_ 5 rfl) (hH.at_ 6 rfl) (hH.at_ 7 rfl) (hH.at_ 8 rfl) (hH.at_ 9 rfl) (hH.at_ 10 rfl) (hH.pw [1, 2, 3, 4, 5, 6, 7, 8, 9, 10] rfl (by decide)))) fun v38 _ τ hv38 H37 (hH : Holds σ [(id26, (c_aEn (v25.1 : aEn))), (id4, [(.ref id4B 0), (.ref id4I 0), (.vec id4H 1 (v38.2.2.heads).length), (.vec id4X 1 (v38.2.2.next_).length), (.vec id4G 5 (v38.2.2.things).length), (eI v38.2.2.count)]), (id4B, (c_slab_Budget v38.2.2.budget)), (id4I, [(.vec id4N 4 (v38.2.2.lists.nodes).length), (.vec id4F 1 (v38.2.2.lists.first_).length), (.vec id4L 1 (v38.2.2.lists.last_).length), (.vec id4C 1 (v38.2.2.lists.count).length), (eI v38.2.2.lists.free), (eI v38.2.2.lists.clock)]), (id4N, (cL e_lists_link v38.2.2.lists.nodes)), (id4F, (cL eI v38.2.2.lists.first_)), (id4L, (cL eI v38.2.2.lists.last_)), (id4C, (cL eI v38.2.2.lists.count)), (id4H, (cL eI v38.2.2.heads)), (id4X, (cL eI v38.2.2.next_)), (id4G, (cL e_aEn v38.2.2.things))] [tk34, tk19] τ) => ?_
   refine mm tk (.tup [((eL 5 e_aEn) v38.1), (eErr v38.2.1)]) rfl rfl (m_ ((eL 5 e_aEn) v38.1) rfl (o_ext tk rfl rfl) (m_ (eErr v38.2.1) rfl (o_ext tk rfl rfl) (ma tk ((eL 5 e_aEn) v38.1) rfl rfl (ma tk (eErr v38.2.1) rfl rfl (wpo_nil (sr rfl (mm tk (eErr v10.2) rfl rfl ?_)))))))
   refine wpo_bdr H37 eI rfl rfl rfl (fun v40 hv => h_callr rfl rfl (.cons wr .nil) (trouble_Of_ok hv _ (hH.gl.trans hg))) fun v40 hv40 H39 => ?_
   refine l_ H39 eB rfl (o_ar tk rfl rfl rfl) fun v42 H41 => ?_
   refine mm tk (eB v42) rfl rfl ?_
   refine if_split H41 (fun hb H43 => ?_) (fun hb H43 => ?_)
   ·subst hb
    refine mm tk (eErr v15.2.1) rfl rfl ?_
    refine l_ H43 eB rfl (o_err_eql tk rfl rfl rfl) fun v45 H44 => ?_
    refine pt tk (eB v45) rfl rfl rfl (mm tk (eB v45) rfl rfl ?_)
    refine if_split H44 (fun hb H46 => ?_) (fun hb H46 => ?_)
    ·subst hb
     refine mm tk (eErr v23.2.1) rfl rfl ?_
     refine l_ H46 eB rfl (o_err_eql tk rfl rfl rfl) fun v48 H47 => ?_
     refine pt tk (eB v48) rfl rfl rfl (mm tk (eB v48) rfl rfl ?_)
     refine if_split H47 (fun hb H49 => ?_) (fun hb H49 => ?_)
     ·subst hb
      refine mm tk (eErr v30.2.1) rfl rfl ?_
      refine l_ H49 eB rfl (o_err_eql tk rfl rfl rfl) fun v51 H50 => ?_
      refine pt tk (eB v51) rfl rfl rfl (mm tk (eB v51) rfl rfl ?_)
      refine if_split H50 (fun hb H52 => ?_) (fun hb H52 => ?_)
      ·subst hb
       refine mm tk (eB v25.2.1) rfl rfl (pt tk (eB v25.2.1) rfl rfl rfl (mm tk (eB v25.2.1) rfl rfl ?_))
       refine if_split H52 (fun hb H53 => ?_) (fun hb H53 => ?_)
       ·rw [hb]
        refine mm tk ((eL 5 e_aEn) v15.1) rfl rfl ?_
        refine l_ H53 eI rfl (o_len tk td31 rfl) fun v55 H54 => ?_
        refine l_ H54 eB rfl (o_ar tk rfl rfl rfl) fun v57 H56 => ?_
        refine pt tk (eB v57) rfl rfl rfl (mm tk (eB v57) rfl rfl ?_)
        refine if_split H56 (fun hb H58 => ?_) (fun hb H58 => ?_)
        ·subst hb
         refine mm tk ((eL 5 e_aEn) v23.1) rfl rfl ?_
         refine l_ H58 eI rfl (o_len tk td31 rfl) fun v60 H59 => ?_
         refine l_ H59 eB rfl (o_ar tk rfl rfl rfl) fun v62 H61 => ?_
         refine pt tk (eB v62) rfl rfl rfl (mm tk (eB v62) rfl rfl ?_)
         refine if_split H61 (fun hb H63 => ?_) (fun hb H63 => ?_)
         ·subst hb
          refine mm tk ((eL 5 e_aEn) v30.1) rfl rfl ?_
          refine l_ H63 eI rfl (o_len tk td31 rfl) fun v65 H64 => ?_
          refine l_ H64 eB rfl (o_ar tk rfl rfl rfl) fun v67 H66 => ?_
          refine pt tk (eB v67) rfl rfl rfl (mm tk (eB v67) rfl rfl ?_)
          refine if_split H66 (fun hb H68 => ?_) (fun hb H68 => ?_)
          ·subst hb
           refine mm tk ((eL 5 e_aEn) v30.1) rfl rfl ?_
           refine b_ H68 (fun y => .fptr (e_aEn y).cells 0) rfl (fun v70 hv => o_ixa tk hv td31 enc39 rfl rfl) fun v70 hv70 H69 => ?_
           refine mc tk (.fptr (c_aEn v70) 0) rfl rfl (fun _ => rfl) (m_ (eS v70.Key) rfl (o_ld tk rfl rfl) ?_)
           refine l_ H69 eB rfl (o_eql_s tk rfl rfl) fun v72 H71 => ?_
           refine pt tk (eB v72) rfl rfl rfl (mm tk (eB v72) rfl rfl ?_)
           refine if_split H71 (fun hb H73 => ?_) (fun hb H73 => ?_)
           ·subst hb
            refine mm tk (eErr v38.2.1) rfl rfl ?_
            refine wpo_bdr H73 eI rfl rfl rfl (fun v75 hv => h_callr rfl rfl (.cons wr .nil) (trouble_Of_ok hv _ (hH.gl.trans hg))) fun v75 hv75 H74 => ?_
            refine l_ H74 eB rfl (o_ar tk rfl rfl rfl) fun v77 H76 => ?_
            refine pt tk (eB v77) rfl rfl rfl (mm tk (eB v77) rfl rfl ?_)
            refine if_split H76 (fun hb H78 => ?_) (fun hb H78 => ?_)
            ·subst hb
             refine mm tk (.ref id4 0) rfl rfl ?_
             refine wpo_bdr H78 eI rfl rfl rfl (fun v80 hv => h_callr rfl rfl (.cons wr .nil) (ram_Ram_Used_ok hv _ (hH.at_ 1 rfl) (hH.at_ 2 rfl) (hH.at_ 3 rfl) (hH.at_ 4 rfl) (hH.at_ 5 rfl) (hH.at_ 6 rfl) (hH.at_ 7 rfl) (hH.at_ 8 rfl) (hH.at_ 9 rfl) (hH.at_ 10 rfl) (hH.pw [1, 2, 3, 4, 5, 6, 7, 8, 9, 10] rfl (by decide)))) fun v80 hv80 H79 => ?_
             refine l_ H79 eB rfl (o_ar tk rfl rfl rfl) fun v82 H81 => ?_
             refine pt tk (eB v82) rfl rfl rfl (mm tk (eB v82) rfl rfl ?_)
             refine if_split H81 (fun hb H83 => ?_) (fun hb H83 => ?_)
             ·subst hb
              refine mm tk (.ref id4 0) rfl rfl ?_
              refine wpo_bdr H83 eI rfl rfl rfl (fun v85 hv => h_callr rfl rfl (.cons wr .nil) (ram_Ram_Len_ok hv _ (hH.at_ 1 rfl) (hH.at_ 2 rfl) (hH.at_ 3 rfl) (hH.at_ 4 rfl) (hH.at_ 5 rfl) (hH.at_ 6 rfl) (hH.at_ 7 rfl) (hH.at_ 8 rfl) (hH.at_ 9 rfl) (hH.at_ 10 rfl) (hH.pw [1, 2, 3, 4, 5, 6, 7, 8, 9, 10] rfl (by decide)))) fun v85 hv85 H84 => ?_
              refine l_ H84 eB rfl (o_ar tk rfl rfl rfl) fun v87 H86 => ?_
              refine pt tk (eB v87) rfl rfl rfl (mm tk (eB v87) rfl rfl ?_)
              refine if_split H86 (fun hb H88 => ?_) (fun hb H88 => ?_)
              ·subst hb
               refine mm tk (.ref id4 0) rfl rfl ?_
               refine wpo_bdr H88 eI rfl rfl rfl (fun v90 hv => h_callr rfl rfl (.cons wr .nil) (ram_Ram_Limit_ok hv _ (hH.at_ 1 rfl) (hH.at_ 2 rfl) (hH.at_ 3 rfl) (hH.at_ 4 rfl) (hH.at_ 5 rfl) (hH.at_ 6 rfl) (hH.at_ 7 rfl) (hH.at_ 8 rfl) (hH.at_ 9 rfl) (hH.at_ 10 rfl) (hH.pw [1, 2, 3, 4, 5, 6, 7, 8, 9, 10] rfl (by decide)))) fun v90 hv90 H89 => ?_
               refine l_ H89 eB rfl (o_ar tk rfl rfl rfl) fun v92 H91 => ?_
               refine pt tk (eB v92) rfl rfl rfl (ma tk (eB v92) rfl rfl (wpo_nil (awp_ret ?_)))
               obtain rfl := oi H91
               exact ⟨_, (eB v92), rfl, wr, .of_eq ((enc_b td4 sz4).cut _ _ _), (((((((((((hH.noT.drop n27).drop n5).drop n5_1).drop n5_2).drop n5_3).drop n5_4).drop n5_5).drop n5_6).drop n5_7).drop n5_8).drop n5_9)⟩
              ·subst hb
               refine k_ rfl (k_ rfl (k_ rfl (pf tk (eB false) rfl rfl rfl (ma tk (eB false) rfl rfl (wpo_nil (awp_ret ?_))))))
               obtain rfl := oi H88
               exact ⟨_, (eB false), rfl, wr, .of_eq ((enc_b td4 sz4).cut _ _ _), (((((((((((hH.noT.drop n27).drop n5).drop n5_1).drop n5_2).drop n5_3).drop n5_4).drop n5_5).drop n5_6).drop n5_7).drop n5_8).drop n5_9)⟩
             ·subst hb
              refine k_ rfl (k_ rfl (k_ rfl (pf tk (eB false) rfl rfl rfl (mm tk (eB false) rfl rfl (k_ rfl (k_ rfl (k_ rfl (pf tk (eB false) rfl rfl rfl ?_))))))))
              refine ma tk (eB false) rfl rfl (wpo_nil (awp_ret ?_))
              obtain rfl := oi H83
              exact ⟨_, (eB false), rfl, wr, .of_eq ((enc_b td4 sz4).cut _ _ _), (((((((((((hH.noT.drop n27).drop n5).drop n5_1).drop n5_2).drop n5_3).drop n5_4).drop n5_5).drop n5_6).drop n5_7).drop n5_8).drop n5_9)⟩
            ·subst hb
             refine k_ rfl (k_ rfl (k_ rfl (pf tk (eB false) rfl rfl rfl (mm tk (eB false) rfl rfl (k_ rfl (k_ rfl (k_ rfl (pf tk (eB false) rfl rfl rfl ?_))))))))
             refine mm tk (eB false) rfl rfl (k_ rfl (k_ rfl (k_ rfl (pf tk (eB false) rfl rfl rfl (ma tk (eB false) rfl rfl (wpo_nil (awp_ret ?_)))))))
             obtain rfl := oi H78
             exact ⟨_, (eB false), rfl, wr, .of_eq ((enc_b td4 sz4).cut _ _ _), (((((((((((hH.noT.drop n27).drop n5).drop n5_1).drop n5_2).drop n5_3).drop n5_4).drop n5_5).drop n5_6).drop n5_7).drop n5_8).drop n5_9)⟩
           ·subst hb
            refine k_ rfl (k_ rfl (k_ rfl (pf tk (eB false) rfl rfl rfl (mm tk (eB false) rfl rfl (k_ rfl (k_ rfl (k_ rfl (pf tk (eB false) rfl rfl rfl ?_))))))))
            refine mm tk (eB false) rfl rfl (k_ rfl (k_ rfl (k_ rfl (pf tk (eB false) rfl rfl rfl (mm tk (eB false) rfl rfl (k_ rfl (k_ rfl (k_ rfl ?_))))))))
            refine pf tk (eB false) rfl rfl rfl (ma tk (eB false) rfl rfl (wpo_nil (awp_ret ?_)))
            obtain rfl := oi H73
            exact ⟨_, (eB false), rfl, wr, .of_eq ((enc_b td4 sz4).cut _ _ _), (((((((((((hH.noT.drop n27).drop n5).drop n5_1).drop n5_2).drop n5_3).drop n5_4).drop n5_5).drop n5_6).drop n5_7).drop n5_8).drop n5_9)⟩
          ·subst hb
           refine k_ rfl (k_ rfl (k_ rfl (k_ rfl (k_ rfl (pf tk (eB false) rfl rfl rfl (mm tk (eB false) rfl rfl (k_ rfl (k_ rfl ?_))))))))
           refine k_ rfl (pf tk (eB false) rfl rfl rfl (mm tk (eB false) rfl rfl (k_ rfl (k_ rfl (k_ rfl (pf tk (eB false) rfl rfl rfl (mm tk (eB false) rfl rfl (k_ rfl ?_))))))))
           refine k_ rfl (k_ rfl (pf tk (eB false) rfl rfl rfl (mm tk (eB false) rfl rfl (k_ rfl (k_ rfl (k_ rfl (pf tk (eB false) rfl rfl rfl (ma tk (eB false) rfl rfl ?_))))))))
           refine wpo_nil (awp_ret ?_)
           obtain rfl := oi H68
           exact ⟨_, (eB false), rfl, wr, .of_eq ((enc_b td4 sz4).cut _ _ _), (((((((((((hH.noT.drop n27).drop n5).drop n5_1).drop n5_2).drop n5_3).drop n5_4).drop n5_5).drop n5_6).drop n5_7).drop n5_8).drop n5_9)⟩
         ·subst hb
          refine k_ rfl (k_ rfl (k_ rfl (pf tk (eB false) rfl rfl rfl (mm tk (eB false) rfl rfl (k_ rfl (k_ rfl (k_ rfl (k_ rfl ?_))))))))
          refine k_ rfl (pf tk (eB false) rfl rfl rfl (mm tk (eB false) rfl rfl (k_ rfl (k_ rfl (k_ rfl (pf tk (eB false) rfl rfl rfl (mm tk (eB false) rfl rfl (k_ rfl ?_))))))))
          refine k_ rfl (k_ rfl (pf tk (eB false) rfl rfl rfl (mm tk (eB false) rfl rfl (k_ rfl (k_ rfl (k_ rfl (pf tk (eB false) rfl rfl rfl (mm tk (eB false) rfl rfl ?_))))))))
          refine k_ rfl (k_ rfl (k_ rfl (pf tk (eB false) rfl rfl rfl (ma tk (eB false) rfl rfl (wpo_nil (awp_ret ?_))))))
          obtain rfl := oi H63
          exact ⟨_, (eB false), rfl, wr, .of_eq ((enc_b td4 sz4).cut _ _ _), (((((((((((hH.noT.drop n27).drop n5).drop n5_1).drop n5_2).drop n5_3).drop n5_4).drop n5_5).drop n5_6).drop n5_7).drop n5_8).drop n5_9)⟩
        ·subst hb
         refine k_ rfl (k_ rfl (k_ rfl (pf tk (eB false) rfl rfl rfl (mm tk (eB false) rfl rfl (k_ rfl (k_ rfl (k_ rfl (pf tk (eB false) rfl rfl rfl ?_))))))))
         refine mm tk (eB false) rfl rfl (k_ rfl (k_ rfl (k_ rfl (k_ rfl (k_ rfl (pf tk (eB false) rfl rfl rfl (mm tk (eB false) rfl rfl (k_ rfl ?_))))))))
         refine k_ rfl (k_ rfl (pf tk (eB false) rfl rfl rfl (mm tk (eB false) rfl rfl (k_ rfl (k_ rfl (k_ rfl (pf tk (eB false) rfl rfl rfl (mm tk (eB false) rfl rfl ?_))))))))
         refine k_ rfl (k_ rfl (k_ rfl (pf tk (eB false) rfl rfl rfl (mm tk (eB false) rfl rfl (k_ rfl (k_ rfl (k_ rfl (pf tk (eB false) rfl rfl rfl ?_))))))))
         refine ma tk (eB false) rfl rfl (wpo_nil (awp_ret ?_))
         obtain rfl := oi H58
         exact ⟨_, (eB false), rfl, wr, .of_eq ((enc_b td4 sz4).cut _ _ _), (((((((((((hH.noT.drop n27).drop n5).drop n5_1).drop n5_2).drop n5_3).drop n5_4).drop n5_5).drop n5_6).drop n5_7).drop n5_8).drop n5_9)⟩
       ·rw [hb]
        refine k_ rfl (k_ rfl (k_ rfl (pf tk (eB false) rfl rfl rfl (mm tk (eB false) rfl rfl (k_ rfl (k_ rfl (k_ rfl (pf tk (eB false) rfl rfl rfl ?_))))))))
        refine mm tk (eB false) rfl rfl (k_ rfl (k_ rfl (k_ rfl (pf tk (eB false) rfl rfl rfl (mm tk (eB false) rfl rfl (k_ rfl (k_ rfl (k_ rfl ?_))))))))
        refine k_ rfl (k_ rfl (pf tk (eB false) rfl rfl rfl (mm tk (eB false) rfl rfl (k_ rfl (k_ rfl (k_ rfl (pf tk (eB false) rfl rfl rfl (mm tk (eB false) rfl rfl ?_))))))))
        refine k_ rfl (k_ rfl (k_ rfl (pf tk (eB false) rfl rfl rfl (mm tk (eB false) rfl rfl (k_ rfl (k_ rfl (k_ rfl (pf tk (eB false) rfl rfl rfl ?_))))))))
        refine mm tk (eB false) rfl rfl (k_ rfl (k_ rfl (k_ rfl (pf tk (eB false) rfl rfl rfl (ma tk (eB false) rfl rfl (wpo_nil (awp_ret ?_)))))))
        obtain rfl := oi H53
        exact ⟨_, (eB false), rfl, wr, .of_eq ((enc_b td4 sz4).cut _ _ _), (((((((((((hH.noT.drop n27).drop n5).drop n5_1).drop n5_2).drop n5_3).drop n5_4).drop n5_5).drop n5_6).drop n5_7).drop n5_8).drop n5_9)⟩
      ·subst hb
       refine k_ rfl (pf tk (eB false) rfl rfl rfl (mm tk (eB false) rfl rfl (k_ rfl (k_ rfl (k_ rfl (pf tk (eB false) rfl rfl rfl (mm tk (eB false) rfl rfl (k_ rfl ?_))))))))
       refine k_ rfl (k_ rfl (pf tk (eB false) rfl rfl rfl (mm tk (eB false) rfl rfl (k_ rfl (k_ rfl (k_ rfl (pf tk (eB false) rfl rfl rfl (mm tk (eB false) rfl rfl ?_))))))))
       refine k_ rfl (k_ rfl (k_ rfl (k_ rfl (k_ rfl (pf tk (eB false) rfl rfl rfl (mm tk (eB false) rfl rfl (k_ rfl (k_ rfl ?_))))))))
       refine k_ rfl (pf tk (eB false) rfl rfl rfl (mm tk (eB false) rfl rfl (k_ rfl (k_ rfl (k_ rfl (pf tk (eB false) rfl rfl rfl (mm tk (eB false) rfl rfl (k_ rfl ?_))))))))
       refine k_ rfl (k_ rfl (pf tk (eB false) rfl rfl rfl (mm tk (eB false) rfl rfl (k_ rfl (k_ rfl (k_ rfl (pf tk (eB false) rfl rfl rfl (ma tk (eB false) rfl rfl ?_))))))))
       refine wpo_nil (awp_ret ?_)
       obtain rfl := oi H52
       exact ⟨_, (eB false), rfl, wr, .of_eq ((enc_b td4 sz4).cut _ _ _), (((((((((((hH.noT.drop n27).drop n5).drop n5_1).drop n5_2).drop n5_3).drop n5_4).drop n5_5).drop n5_6).drop n5_7).drop n5_8).drop n5_9)⟩
     ·subst hb
      refine k_ rfl (k_ rfl (pf tk (eB false) rfl rfl rfl (mm tk (eB false) rfl rfl (k_ rfl (pf tk (eB false) rfl rfl rfl (mm tk (eB false) rfl rfl (k_ rfl (k_ rfl ?_))))))))
      refine k_ rfl (pf tk (eB false) rfl rfl rfl (mm tk (eB false) rfl rfl (k_ rfl (k_ rfl (k_ rfl (pf tk (eB false) rfl rfl rfl (mm tk (eB false) rfl rfl (k_ rfl ?_))))))))
      refine k_ rfl (k_ rfl (pf tk (eB false) rfl rfl rfl (mm tk (eB false) rfl rfl (k_ rfl (k_ rfl (k_ rfl (k_ rfl (k_ rfl ?_))))))))
      refine pf tk (eB false) rfl rfl rfl (mm tk (eB false) rfl rfl (k_ rfl (k_ rfl (k_ rfl (pf tk (eB false) rfl rfl rfl (mm tk (eB false) rfl rfl (k_ rfl (k_ rfl ?_))))))))
      refine k_ rfl (pf tk (eB false) rfl rfl rfl (mm tk (eB false) rfl rfl (k_ rfl (k_ rfl (k_ rfl (pf tk (eB false) rfl rfl rfl (mm tk (eB false) rfl rfl (k_ rfl ?_))))))))
      refine k_ rfl (k_ rfl (pf tk (eB false) rfl rfl rfl (ma tk (eB false) rfl rfl (wpo_nil (awp_ret ?_)))))
      obtain rfl := oi H49
      exact ⟨_, (eB false), rfl, wr, .of_eq ((enc_b td4 sz4).cut _ _ _), (((((((((((hH.noT.drop n27).drop n5).drop n5_1).drop n5_2).drop n5_3).drop n5_4).drop n5_5).drop n5_6).drop n5_7).drop n5_8).drop n5_9)⟩
    ·subst hb
     refine k_ rfl (k_ rfl (pf tk (eB false) rfl rfl rfl (mm tk (eB false) rfl rfl (k_ rfl (k_ rfl (pf tk (eB false) rfl rfl rfl (mm tk (eB false) rfl rfl (k_ rfl ?_))))))))
     refine pf tk (eB false) rfl rfl rfl (mm tk (eB false) rfl rfl (k_ rfl (k_ rfl (k_ rfl (pf tk (eB false) rfl rfl rfl (mm tk (eB false) rfl rfl (k_ rfl (k_ rfl ?_))))))))
     refine k_ rfl (pf tk (eB false) rfl rfl rfl (mm tk (eB false) rfl rfl (k_ rfl (k_ rfl (k_ rfl (pf tk (eB false) rfl rfl rfl (mm tk (eB false) rfl rfl (k_ rfl ?_))))))))
     refine k_ rfl (k_ rfl (k_ rfl (k_ rfl (pf tk (eB false) rfl rfl rfl (mm tk (eB false) rfl rfl (k_ rfl (k_ rfl (k_ rfl ?_))))))))
     refine pf tk (eB false) rfl rfl rfl (mm tk (eB false) rfl rfl (k_ rfl (k_ rfl (k_ rfl (pf tk (eB false) rfl rfl rfl (mm tk (eB false) rfl rfl (k_ rfl (k_ rfl ?_))))))))
     refine k_ rfl (pf tk (eB false) rfl rfl rfl (mm tk (eB false) rfl rfl (k_ rfl (k_ rfl (k_ rfl (pf tk (eB false) rfl rfl rfl (ma tk (eB false) rfl rfl (wpo_nil ?_))))))))
     refine awp_ret ?_
     obtain rfl := oi H46
     exact ⟨_, (eB false), rfl, wr, .of_eq ((enc_b td4 sz4).cut _ _ _), (((((((((((hH.noT.drop n27).drop n5).drop n5_1).drop n5_2).drop n5_3).drop n5_4).drop n5_5).drop n5_6).drop n5_7).drop n5_8).drop n5_9)⟩
   ·subst hb
    refine k_ rfl (k_ rfl (pf tk (eB false) rfl rfl rfl (mm tk (eB false) rfl rfl (k_ rfl (k_ rfl (pf tk (eB false) rfl rfl rfl (mm tk (eB false) rfl rfl (k_ rfl ?_))))))))
    refine k_ rfl (pf tk (eB false) rfl rfl rfl (mm tk (eB false) rfl rfl (k_ rfl (pf tk (eB false) rfl rfl rfl (mm tk (eB false) rfl rfl (k_ rfl (k_ rfl (k_ rfl ?_))))))))
    refine pf tk (eB false) rfl rfl rfl (mm tk (eB false) rfl rfl (k_ rfl (k_ rfl (k_ rfl (pf tk (eB false) rfl rfl rfl (mm tk (eB false) rfl rfl (k_ rfl (k_ rfl ?_))))))))
    refine k_ rfl (pf tk (eB false) rfl rfl rfl (mm tk (eB false) rfl rfl (k_ rfl (k_ rfl (k_ rfl (k_ rfl (k_ rfl (pf tk (eB false) rfl rfl rfl ?_))))))))
    refine mm tk (eB false) rfl rfl (k_ rfl (k_ rfl (k_ rfl (pf tk (eB false) rfl rfl rfl (mm tk (eB false) rfl rfl (k_ rfl (k_ rfl (k_ rfl ?_))))))))
    refine pf tk (eB false) rfl rfl rfl (mm tk (eB false) rfl rfl (k_ rfl (k_ rfl (k_ rfl (pf tk (eB false) rfl rfl rfl (mm tk (eB false) rfl rfl (k_ rfl (k_ rfl ?_))))))))
    refine k_ rfl (pf tk (eB false) rfl rfl rfl (ma tk (eB false) rfl rfl (wpo_nil (awp_ret ?_))))
    obtain rfl := oi H43
    exact ⟨_, (eB false), rfl, wr, .of_eq ((enc_b td4 sz4).cut _ _ _), (((((((((((hH.noT.drop n27).drop n5).drop n5_1).drop n5_2).drop n5_3).drop n5_4).drop n5_5).drop n5_6).drop n5_7).drop n5_8).drop n5_9)⟩
end Go.Proofs.YtggeboakilalhaaDoor
namespace Go.Proofs.YtggeboakilalhaaDoor
open Go Go.Va
set_option linter.unusedVariables false
set_option linter.unusedSimpArgs false
set_option maxRecDepth 20000
theorem R11_New_ok {x0 : Int} {r : R11_Ram × Int} (H : R11_New x0 = some r) (σ : St)  : ACall Tryd.prog 9 [(eI x0)] σ (fun a τ => a = .tup [e_R11_Ram r.1, eI r.2] ∧ τ = σ) := by
 unfold R11_New at H
 refine ACall.pure (acall_start tk Tryd.func9 (by decide) rfl (nb rfl) ?_)
 have hH := Holds.init σ
 refine sr rfl ?_
 refine wpo_a (av := fun id => .ref id 0) rfl rfl rfl (h_alloc tk hH ty33 [(eI z_R11_Ram.Limit), AV.nils] rfl) fun id1 τ ⟨hH, n2⟩ => ?_
 refine ma tk (eI (0 : Int)) rfl rfl (wpo_nil (awp_seq (awp_seq ?_)))
 obtain ⟨s3, hs5, hj6⟩ := ob H
 refine awp_cutn (fun fr τ => WkF fr (fm [(0, (eI x0)), (2, (.ref id1 0)), (9, (eB s3))]) ∧ Holds σ [(id1, [(eI z_R11_Ram.Limit), AV.nils])] [] τ) ?_ ?_
 ·rintro fr τ ⟨hfr, hH⟩
  have H12 := hj6
  refine AWP.fm [(0, (eI x0)), (2, (.ref id1 0)), (9, (eB s3))] hfr ?_
  refine awp_if H12 rfl (fun H13 => ?_) (fun H13 => ?_)
  ·refine sr rfl (mc tk (.agg [(eI (⟨(0 : Int), ([] : List aEn)⟩ : R11_Ram).Limit), AV.nils]) rfl rfl (fun _ => rfl) ?_)
   refine wpo_z rfl rfl (h_st (y := (.agg [(eI (⟨(0 : Int), ([] : List aEn)⟩ : R11_Ram).Limit), AV.nils])) tk hH 0 rfl ty33 (by simp) rfl rfl wr (b := (.agg [(eI (⟨(0 : Int), ([] : List aEn)⟩ : R11_Ram).Limit), AV.nils])) rfl rfl (nb rfl) [(eI ((⟨(0 : Int), ([] : List aEn)⟩ : R11_Ram) : R11_Ram).Limit), AV.nils] rfl) fun τ hH => ?_
   refine ma tk (eI (2 : Int)) rfl rfl (wpo_nil (awp_ret ?_))
   obtain rfl := oi H13
   exact ⟨_, (.tup [(e_R11_Ram ((⟨(0 : Int), ([] : List aEn)⟩ : R11_Ram) : R11_Ram)), (eI (2 : Int))]), (ares_2 (ares_cell hH 0 rfl rfl rfl) rfl), (wk_tup (.cons (wk_agg (.cons wr (.cons (wk_nils _) .nil))) (.cons wr .nil))), .of_eq (by simp only [cutAV, cutL, enc33.cut _ _ _, (enc_i64 td34 sz34).cut _ _ _]), (hH.noT.drop n2)⟩
  ·refine awp_skip (sr rfl (mm tk (eI x0) rfl rfl (mc tk (.agg [(eI (⟨x0, ([] : List aEn)⟩ : R11_Ram).Limit), AV.nils]) rfl rfl (fun _ => rfl) ?_)))
   refine wpo_z rfl rfl (h_st (y := (.agg [(eI (⟨x0, ([] : List aEn)⟩ : R11_Ram).Limit), AV.nils])) tk hH 0 rfl ty33 (by simp) rfl rfl wr (b := (.agg [(eI (⟨x0, ([] : List aEn)⟩ : R11_Ram).Limit), AV.nils])) rfl rfl (nb rfl) [(eI ((⟨x0, ([] : List aEn)⟩ : R11_Ram) : R11_Ram).Limit), AV.nils] rfl) fun τ hH => ?_
   refine ma tk (eI (0 : Int)) rfl rfl (wpo_nil (awp_ret ?_))
   obtain rfl := oi H13
   exact ⟨_, (.tup [(e_R11_Ram ((⟨x0, ([] : List aEn)⟩ : R11_Ram) : R11_Ram)), (eI (0 : Int))]), (ares_2 (ares_cell hH 0 rfl rfl rfl) rfl), (wk_tup (.cons (wk_agg (.cons wr (.cons (wk_nils _) .nil))) (.cons wr .nil))), .of_eq (by simp only [cutAV, cutL, enc33.cut _ _ _, (enc_i64 td34 sz34).cut _ _ _]), (hH.noT.drop n2)⟩
 ·refine awp_region rfl (mm tk (eI x0) rfl rfl ?_)
  refine l_ hs5 eB rfl (o_ar tk rfl rfl rfl) fun v8 H7 => ?_
  refine mm tk (eB v8) rfl rfl ?_
  refine if_split H7 (fun hb H9 => ?_) (fun hb H9 => ?_)
  ·subst hb
   refine k_ rfl (k_ rfl (pt tk (eB true) rfl rfl rfl (wpo_nil ?_)))
   have e := oi H9
   subst e
   exact ⟨(wc (wc (wc (wkf_nil _)))), hH⟩
  ·subst hb
   refine mm tk (eI x0) rfl rfl ?_
   refine l_ H9 eB rfl (o_ar tk rfl rfl rfl) fun v11 H10 => ?_
   refine pf tk (eB v11) rfl rfl rfl (wpo_nil ?_)
   have e := oi H10
   subst e
   exact ⟨(wc (wc (wc (wkf_nil _)))), hH⟩
theorem L11_RamEnds_ok {x0 : BitVec 16} {x1 : List L11_Op} {x2 : Int} {x3 : List (BitVec 8)} {r : Bool} (H : L11_RamEnds x0 x1 x2 x3 = some r) (σ : St)  (hg : σ.gl = gls) : ACall Tryd.prog 5 [((@eU .u16 16) x0), ((eL 7 e_L11_Op) x1), (eI x2), (eS x3)] σ (fun a τ => a = eB r ∧ τ = σ) := by
 unfold L11_RamEnds at H
 refine ACall.pure (acall_start tk Tryd.func5 (by decide) rfl (nb rfl) ?_)
 have hH := Holds.init σ
 refine sr rfl (ma tk (eB false) rfl rfl (wpo_nil (awp_seq (awp_seq ?_))))
 obtain ⟨s1, hs3, hj4⟩ := ob H
 refine awp_cutn (fun fr τ => WkF fr (fm [(0, ((@eU .u16 16) x0)), (1, ((eL 7 e_L11_Op) x1)), (2, (eI x2)), (3, (eS x3)), (28, (eB s1))]) ∧ Holds σ [] [] τ) ?_ ?_
 ·rintro fr τ ⟨hfr, hH⟩
  have H14 := hj4
  refine AWP.fm [(0, ((@eU .u16 16) x0)), (1, ((eL 7 e_L11_Op) x1)), (2, (eI x2)), (3, (eS x3)), (28, (eB s1))] hfr ?_
  refine awp_if H14 rfl (fun H15 => ?_) (fun H15 => ?_)
  ·refine sr rfl ?_
   refine wpo_bdr H15 eB rfl rfl rfl (fun v17 hv => h_callr rfl rfl .nil (L11_works_ok hv _ (hH.gl.trans hg))) fun v17 hv17 H16 => ?_
   refine ma tk (eB v17) rfl rfl (wpo_nil (awp_ret ?_))
   obtain rfl := oi H16
   exact ⟨_, (eB v17), rfl, wr, .of_eq ((enc_b td4 sz4).cut _ _ _), hH.noT⟩
  ·refine awp_skip (sr rfl (mm tk ((@eU .u16 16) x0) rfl rfl ?_))
   refine l_ H15 eI rfl (o_cv_ui tk td22 td3 (by decide) rfl) fun v19 H18 => ?_
   refine l_ H18 eI rfl (o_rem tk (z := (9000 : Int)) rfl rfl rfl) fun v21 H20 => ?_
   refine l_ H20 eI rfl (o_ar tk rfl rfl rfl) fun v23 H22 => ?_
   obtain ⟨v25, hvv25, H24⟩ := ob H22
   rcases hz29 : v25.1 with _ | c26
   ·rw [hz29, Option.elim_none] at H24
    refine wpo_a (av := fun _ => .tup [.nilp, (eErr v25.2)]) rfl rfl rfl (h_callnb0 hH hz29 rfl rfl (.cons wr .nil) (ram_New_ok hvv25 _)) fun _ τ hH => ?_
    refine mm tk (.tup [.nilp, (eErr v25.2)]) rfl rfl (m_ .nilp rfl (o_ext tk rfl rfl) (m_ (eErr v25.2) rfl (o_ext tk rfl rfl) (ma tk .nilp rfl rfl (ma tk (eErr v25.2) rfl rfl (wpo_nil (awp_seq (awp_seq ?_)))))))
    obtain ⟨s30, hs32, hj33⟩ := ob H24
    refine awp_cutn (fun fr τ => WkF fr (fm [(0, ((@eU .u16 16) x0)), (1, ((eL 7 e_L11_Op) x1)), (2, (eI x2)), (3, (eS x3)), (9, .nilp), (43, (eB true))]) ∧ Holds σ [] [] τ) ?_ ?_
    ·rintro fr τ ⟨hfr, hH⟩
     have H37 := hj33
     refine AWP.fm [(0, ((@eU .u16 16) x0)), (1, ((eL 7 e_L11_Op) x1)), (2, (eI x2)), (3, (eS x3)), (9, .nilp), (43, (eB true))] hfr ?_
     refine awp_true rfl ?_
     refine sr rfl (ma tk (eB false) rfl rfl (wpo_nil (awp_ret ?_)))
     obtain rfl := oi H37
     exact ⟨_, (eB false), rfl, wr, .of_eq ((enc_b td4 sz4).cut _ _ _), hH.noT⟩
    ·refine awp_region rfl (mm tk (eErr v25.2) rfl rfl ?_)
     refine l_ hs32 eB rfl (o_err_neq tk rfl rfl rfl) fun v35 H34 => ?_
     refine mm tk (eB v35) rfl rfl ?_
     refine if_split H34 (fun hb H36 => ?_) (fun hb H36 => ?_)
     ·subst hb
      refine k_ rfl (k_ rfl (pt tk (eB true) rfl rfl rfl (wpo_nil ?_)))
      have e := oi H36
      subst e
      exact ⟨(wc (wc (wc (wc (wc (wc (wkf_nil _))))))), hH⟩
     ·subst hb
      refine mm tk .nilp rfl rfl (mc tk (eB true) rfl rfl (fun _ => rfl) (pf tk (eB true) rfl rfl rfl (wpo_nil ?_)))
      have e := oi H36
      subst e
      exact ⟨(wc (wc (wc (wc (wc (wc (wkf_nil _))))))), hH⟩
   ·rw [hz29, Option.elim_some] at H24
    refine wpo_a (av := fun id => .tup [.ref id 0, (eErr v25.2)]) rfl rfl rfl (h_callnb1 hH hz29 rfl rfl (.cons wr .nil) (ram_New_ok hvv25 _)) fun id27 τ ⟨hH, n28⟩ => ?_
    obtain ⟨id27B, h_id27B⟩ : ∃ x, x = id27 + 1 := ⟨_, rfl⟩
    obtain ⟨id27I, h_id27I⟩ : ∃ x, x = id27 + 2 := ⟨_, rfl⟩
    obtain ⟨id27N, h_id27N⟩ : ∃ x, x = id27 + 3 := ⟨_, rfl⟩
    obtain ⟨id27F, h_id27F⟩ : ∃ x, x = id27 + 4 := ⟨_, rfl⟩
    obtain ⟨id27L, h_id27L⟩ : ∃ x, x = id27 + 5 := ⟨_, rfl⟩
    obtain ⟨id27C, h_id27C⟩ : ∃ x, x = id27 + 6 := ⟨_, rfl⟩
    obtain ⟨id27H, h_id27H⟩ : ∃ x, x = id27 + 7 := ⟨_, rfl⟩
    obtain ⟨id27X, h_id27X⟩ : ∃ x, x = id27 + 8 := ⟨_, rfl⟩
    obtain ⟨id27G, h_id27G⟩ : ∃ x, x = id27 + 9 := ⟨_, rfl⟩
    have hH : Holds σ [(id27, [(.ref id27B 0), (.ref id27I 0), (.vec id27H 1 (c26.heads).length), (.vec id27X 1 (c26.next_).length), (.vec id27G 5 (c26.things).length), (eI c26.count)]), (id27B, (c_slab_Budget c26.budget)), (id27I, [(.vec id27N 4 (c26.lists.nodes).length), (.vec id27F 1 (c26.lists.first_).length), (.vec id27L 1 (c26.lists.last_).length), (.vec id27C 1 (c26.lists.count).length), (eI c26.lists.free), (eI c26.lists.clock)]), (id27N, (cL e_lists_link c26.lists.nodes)), (id27F, (cL eI c26.lists.first_)), (id27L, (cL eI c26.lists.last_)), (id27C, (cL eI c26.lists.count)), (id27H, (cL eI c26.heads)), (id27X, (cL eI c26.next_)), (id27G, (cL e_aEn c26.things))] [] τ := by rw [h_id27B, h_id27I, h_id27N, h_id27F, h_id27L, h_id27C, h_id27H, h_id27X, h_id27G]; exact hH
    have n28_1 : σ.objs.length ≤ id27B := by omega
    have n28_2 : σ.objs.length ≤ id27I := by omega
    have n28_3 : σ.objs.length ≤ id27N := by omega
    have n28_4 : σ.objs.length ≤ id27F := by omega
    have n28_5 : σ.objs.length ≤ id27L := by omega
    have n28_6 : σ.objs.length ≤ id27C := by omega
    have n28_7 : σ.objs.length ≤ id27H := by omega
    have n28_8 : σ.objs.length ≤ id27X := by omega
    have n28_9 : σ.objs.length ≤ id27G := by omega
    refine mm tk (.tup [(.ref id27 0), (eErr v25.2)]) rfl rfl (m_ (.ref id27 0) rfl (o_ext tk rfl rfl) (m_ (eErr v25.2) rfl (o_ext tk rfl rfl) (ma tk (.ref id27 0) rfl rfl (ma tk (eErr v25.2) rfl rfl (wpo_nil (awp_seq (awp_seq ?_)))))))
    obtain ⟨s38, hs40, hj41⟩ := ob H24
    refine awp_cutn (fun fr τ => WkF fr (fm [(0, ((@eU .u16 16) x0)), (1, ((eL 7 e_L11_Op) x1)), (2, (eI x2)), (3, (eS x3)), (9, (.ref id27 0)), (43, (eB s38))]) ∧ Holds σ [(id27, [(.ref id27B 0), (.ref id27I 0), (.vec id27H 1 (c26.heads).length), (.vec id27X 1 (c26.next_).length), (.vec id27G 5 (c26.things).length), (eI c26.count)]), (id27B, (c_slab_Budget c26.budget)), (id27I, [(.vec id27N 4 (c26.lists.nodes).length), (.vec id27F 1 (c26.lists.first_).length), (.vec id27L 1 (c26.lists.last_).length), (.vec id27C 1 (c26.lists.count).length), (eI c26.lists.free), (eI c26.lists.clock)]), (id27N, (cL e_lists_link c26.lists.nodes)), (id27F, (cL eI c26.lists.first_)), (id27L, (cL eI c26.lists.last_)), (id27C, (cL eI c26.lists.count)), (id27H, (cL eI c26.heads)), (id27X, (cL eI c26.next_)), (id27G, (cL e_aEn c26.things))] [] τ) ?_ ?_
    ·rintro fr τ ⟨hfr, hH⟩
     have H45 := hj41
     refine AWP.fm [(0, ((@eU .u16 16) x0)), (1, ((eL 7 e_L11_Op) x1)), (2, (eI x2)), (3, (eS x3)), (9, (.ref id27 0)), (43, (eB s38))] hfr ?_
     refine awp_if H45 rfl (fun H46 => ?_) (fun H46 => ?_)
     ·refine sr rfl (ma tk (eB false) rfl rfl (wpo_nil (awp_ret ?_)))
      obtain rfl := oi H46
      exact ⟨_, (eB false), rfl, wr, .of_eq ((enc_b td4 sz4).cut _ _ _), ((((((((((hH.noT.drop n28).drop n28_1).drop n28_2).drop n28_3).drop n28_4).drop n28_5).drop n28_6).drop n28_7).drop n28_8).drop n28_9)⟩
     ·refine awp_skip (sr rfl (mm tk ((@eU .u16 16) x0) rfl rfl ?_))
      refine l_ H46 eI rfl (o_cv_ui tk td22 td3 (by decide) rfl) fun v48 H47 => ?_
      refine l_ H47 eI rfl (o_rem tk (z := (9000 : Int)) rfl rfl rfl) fun v50 H49 => ?_
      refine l_ H49 eI rfl (o_ar tk rfl rfl rfl) fun v52 H51 => ?_
      refine b_ H51 (fun r => .tup [e_R11_Ram r.1, eI r.2]) rfl (fun v54 hv => OpP.of_call rfl rfl (.cons wr .nil) (R11_New_ok hv)) fun v54 hv54 H53 => ?_
      refine mm tk (.tup [(e_R11_Ram v54.1), (eI v54.2)]) rfl rfl (m_ (e_R11_Ram v54.1) rfl (o_ext tk rfl rfl) (m_ (eI v54.2) rfl (o_ext tk rfl rfl) ?_))
      refine wpo_a (av := fun id => .ref id 0) rfl rfl rfl (h_alloc tk hH ty33 [(eI z_R11_Ram.Limit), AV.nils] rfl) fun id55 τ ⟨hH, n56⟩ => ?_
      refine wpo_z rfl rfl (h_st tk hH 0 rfl ty33 (by simp) rfl rfl wr (b := (e_R11_Ram v54.1)) (enc33.flat _) rfl (nb rfl) (c_R11_Ram (v54.1 : R11_Ram)) rfl) fun τ hH => ?_
      refine ma tk (eI v54.2) rfl rfl (wpo_nil (awp_seq (sr rfl (ma tk (eI (0 : Int)) rfl rfl (wpo_nil (awp_block ?_))))))
      obtain ⟨s77, hs71, hj72⟩ := ob H53
      refine awp_cutx 0 (fun fr τ => WkF fr (fm [(2, (eI x2)), (3, (eS x3)), (9, (.ref id27 0))]) ∧ Holds σ [(id55, (c_R11_Ram s77.1)), (id27, [(.ref id27B 0), (.ref id27I 0), (.vec id27H 1 (s77.2.2.2.2.2.2.2.2.1).length), (.vec id27X 1 (s77.2.2.2.2.2.2.2.2.2.1).length), (.vec id27G 5 (s77.2.2.2.2.2.2.2.2.2.2).length), (eI s77.2.1.count)]), (id27B, (c_slab_Budget s77.2.2.1)), (id27I, [(.vec id27N 4 (s77.2.2.2.2.1).length), (.vec id27F 1 (s77.2.2.2.2.2.1).length), (.vec id27L 1 (s77.2.2.2.2.2.2.1).length), (.vec id27C 1 (s77.2.2.2.2.2.2.2.1).length), (eI s77.2.2.2.1.free), (eI s77.2.2.2.1.clock)]), (id27N, (cL e_lists_link s77.2.2.2.2.1)), (id27F, (cL eI s77.2.2.2.2.2.1)), (id27L, (cL eI s77.2.2.2.2.2.2.1)), (id27C, (cL eI s77.2.2.2.2.2.2.2.1)), (id27H, (cL eI s77.2.2.2.2.2.2.2.2.1)), (id27X, (cL eI s77.2.2.2.2.2.2.2.2.2.1)), (id27G, (cL e_aEn s77.2.2.2.2.2.2.2.2.2.2))] [] τ) ?_ ?_
      ·rintro fr τ ⟨hfr, hH⟩
       have H93 := hj72
       refine AWP.fm [(2, (eI x2)), (3, (eS x3)), (9, (.ref id27 0))] hfr ?_
       refine sr rfl (mm tk (.ref id27 0) rfl rfl ?_)
       refine wpo_bdr H93 (eL 5 e_aEn) rfl rfl rfl (fun v95 hv => h_callr rfl rfl (.cons wr .nil) (ram_Ram_All_ok hv _ (hH.at_ 1 rfl) (hH.at_ 2 rfl) (hH.at_ 3 rfl) (hH.at_ 4 rfl) (hH.at_ 5 rfl) (hH.at_ 6 rfl) (hH.at_ 7 rfl) (hH.at_ 8 rfl) (hH.at_ 9 rfl) (hH.at_ 10 rfl) (hH.pw [1, 2, 3, 4, 5, 6, 7, 8, 9, 10] rfl (by decide)))) fun v95 hv95 H94 => ?_
       refine ma tk ((eL 5 e_aEn) v95) rfl rfl (wpo_nil (sr rfl (mm tk (.ref id27 0) rfl rfl (mm tk (eS x3) rfl rfl (mm tk (eI x2) rfl rfl ?_)))))
       refine wpo_cb H94 (fun x _ => .tup [e_aEn x.1, eB x.2.1]) rfl rfl rfl (fun v97 hv => h_call1 hH [(1, (id27, [(.ref id27B 0), (.ref id27I 0), (.vec id27H 1 (v97.2.2.heads).length), (.vec id27X 1 (v97.2.2.next_).length), (.vec id27G 5 (v97.2.2.things).length), (eI v97.2.2.count)])), (2, (id27B, (c_slab_Budget v97.2.2.budget))), (3, (id27I, [(.vec id27N 4 (v97.2.2.lists.nodes).length), (.vec id27F 1 (v97.2.2.lists.first_).length), (.vec id27L 1 (v97.2.2.lists.last_).length), (.vec id27C 1 (v97.2.2.lists.count).length), (eI v97.2.2.lists.free), (eI v97.2.2.lists.clock)])), (4, (id27N, (cL e_lists_link v97.2.2.lists.nodes))), (5, (id27F, (cL eI v97.2.2.lists.first_))), (6, (id27L, (cL eI v97.2.2.lists.last_))), (7, (id27C, (cL eI v97.2.2.lists.count))), (8, (id27H, (cL eI v97.2.2.heads))), (9, (id27X, (cL eI v97.2.2.next_))), (10, (id27G, (cL e_aEn v97.2.2.things)))] ⟨⟨_, rfl⟩, ⟨⟨_, rfl⟩, ⟨⟨_, rfl⟩, ⟨⟨_, rfl⟩, ⟨⟨_, rfl⟩, ⟨⟨_, rfl⟩, ⟨⟨_, rfl⟩, ⟨⟨_, rfl⟩, ⟨⟨_, rfl⟩, ⟨⟨_, rfl⟩, trivial⟩⟩⟩⟩⟩⟩⟩⟩⟩⟩ rfl rfl (.cons wr (.cons wr (.cons wr .nil))) (ram_Ram_Get_ok hv _ (hH.at_ 1 rfl) (hH.at_ 2 rfl) (hH.at_ 3 rfl) (hH.at_ 4 rfl) (hH.at_ 5 rfl) (hH.at_ 6 rfl) (hH.at_ 7 rfl) (hH.at_ 8 rfl) (hH.at_ 9 rfl) (hH.at_ 10 rfl) (hH.pw [1, 2, 3, 4, 5, 6, 7, 8, 9, 10] rfl (by decide)))) fun v97 _ τ hv97 H96 (hH : Holds σ [(id55, (c_R11_Ram s77.1)), (id27, [(.ref id27B 0), (.ref id27I 0), (.vec id27H 1 (v97.2.2.heads).length), (.vec id27X 1 (v97.2.2.next_).length), (.vec id27G 5 (v97.2.2.things).length), (eI v97.2.2.count)]), (id27B, (c_slab_Budget v97.2.2.budget)), (id27I, [(.vec id27N 4 (v97.2.2.lists.nodes).length), (.vec id27F 1 (v97.2.2.lists.first_).length), (.vec id27L 1 (v97.2.2.lists.last_).length), (.vec id27C 1 (v97.2.2.lists.count).length), (eI v97.2.2.lists.free), (eI v97.2.2.lists.clock)]), (id27N, (cL e_lists_link v97.2.2.lists.nodes)), (id27F, (cL eI v97.2.2.lists.first_)), (id27L, (cL eI v97.2.2.lists.last_)), (id27C, (cL eI v97.2.2.lists.count)), (id27H, (cL eI v97.2.2.heads)), (id27X, (cL eI v97.2.2.next_)), (id27G, (cL e_aEn v97.2.2.things))] [] τ) => ?_
       refine mm tk (.tup [(e_aEn v97.1), (eB v97.2.1)]) rfl rfl (m_ (e_aEn v97.1) rfl (o_ext tk rfl rfl) (m_ (eB v97.2.1) rfl (o_ext tk rfl rfl) ?_))
       refine wpo_a (av := fun id => .ref id 0) rfl rfl rfl (h_alloc tk hH ty39 [(eS z_aEn.Key), (eI z_aEn.Version), (eI z_aEn.AsOf), (eI z_aEn.Ends), AV.nils] rfl) fun id98 τ ⟨hH, n99⟩ => ?_
       refine wpo_z rfl rfl (h_st tk hH 0 rfl ty39 (by simp) rfl rfl wr (b := (e_aEn v97.1)) (enc39.flat _) rfl (nb rfl) (c_aEn (v97.1 : aEn)) rfl) fun τ hH => ?_
       refine ma tk (eB v97.2.1) rfl rfl (wpo_nil (awp_seq (awp_seq ?_)))
       obtain ⟨s101, hs103, hj104⟩ := ob H96
       refine awp_cutn (fun fr τ => WkF fr (fm [(2, (eI x2)), (9, (.ref id27 0)), (14, ((eL 5 e_aEn) v95)), (101, (eB s101))]) ∧ Holds σ [(id98, (c_aEn (v97.1 : aEn))), (id55, (c_R11_Ram s77.1)), (id27, [(.ref id27B 0), (.ref id27I 0), (.vec id27H 1 (v97.2.2.heads).length), (.vec id27X 1 (v97.2.2.next_).length), (.vec id27G 5 (v97.2.2.things).length), (eI v97.2.2.count)]), (id27B, (c_slab_Budget v97.2.2.budget)), (id27I, [(.vec id27N 4 (v97.2.2.lists.nodes).length), (.vec id27F 1 (v97.2.2.lists.first_).length), (.vec id27L 1 (v97.2.2.lists.last_).length), (.vec id27C 1 (v97.2.2.lists.count).length), (eI v97.2.2.lists.free), (eI v97.2.2.lists.clock)]), (id27N, (cL e_lists_link v97.2.2.lists.nodes)), (id27F, (cL eI v97.2.2.lists.first_)), (id27L, (cL eI v97.2.2.lists.last_)), (id27C, (cL eI v97.2.2.lists.count)), (id27H, (cL eI v97.2.2.heads)), (id27X, (cL eI v97.2.2.next_)), (id27G, (cL e_aEn v97.2.2.things))] [] τ) ?_ ?_
       ·rintro fr τ ⟨hfr, hH⟩
        have H141 := hj104
        refine AWP.fm [(2, (eI x2)), (9, (.ref id27 0)), (14, ((eL 5 e_aEn) v95)), (101, (eB s101))] hfr ?_
        refine awp_if H141 rfl (fun H142 => ?_) (fun H142 => ?_)
        ·refine sr rfl (ma tk (eB false) rfl rfl (wpo_nil (awp_ret ?_)))
         obtain rfl := oi H142
         exact ⟨_, (eB false), rfl, wr, .of_eq ((enc_b td4 sz4).cut _ _ _), ((((((((((((hH.noT.drop n99).drop n56).drop n28).drop n28_1).drop n28_2).drop n28_3).drop n28_4).drop n28_5).drop n28_6).drop n28_7).drop n28_8).drop n28_9)⟩
        ·refine awp_skip (sr rfl (mm tk (.ref id27 0) rfl rfl (mm tk (eI x2) rfl rfl ?_)))
         refine wpo_cb H142 (fun x _ => eI x.1) rfl rfl rfl (fun v144 hv => h_call1 hH [(2, (id27, [(.ref id27B 0), (.ref id27I 0), (.vec id27H 1 (v144.2.heads).length), (.vec id27X 1 (v144.2.next_).length), (.vec id27G 5 (v144.2.things).length), (eI v144.2.count)])), (3, (id27B, (c_slab_Budget v144.2.budget))), (4, (id27I, [(.vec id27N 4 (v144.2.lists.nodes).length), (.vec id27F 1 (v144.2.lists.first_).length), (.vec id27L 1 (v144.2.lists.last_).length), (.vec id27C 1 (v144.2.lists.count).length), (eI v144.2.lists.free), (eI v144.2.lists.clock)])), (5, (id27N, (cL e_lists_link v144.2.lists.nodes))), (6, (id27F, (cL eI v144.2.lists.first_))), (7, (id27L, (cL eI v144.2.lists.last_))), (8, (id27C, (cL eI v144.2.lists.count))), (9, (id27H, (cL eI v144.2.heads))), (10, (id27X, (cL eI v144.2.next_))), (11, (id27G, (cL e_aEn v144.2.things)))] ⟨⟨_, rfl⟩, ⟨⟨_, rfl⟩, ⟨⟨_, rfl⟩, ⟨⟨_, rfl⟩, ⟨⟨_, rfl⟩, ⟨⟨_, rfl⟩, ⟨⟨_, rfl⟩, ⟨⟨_, rfl⟩, ⟨⟨_, rfl⟩, ⟨⟨_, rfl⟩, trivial⟩⟩⟩⟩⟩⟩⟩⟩⟩⟩ rfl rfl (.cons wr (.cons wr .nil)) (ram_Ram_Sweep_ok hv _ (hH.at_ 2 rfl) (hH.at_ 3 rfl) (hH.at_ 4 rfl) (hH.at_ 5 rfl) (hH.at_ 6 rfl) (hH.at_ 7 rfl) (hH.at_ 8 rfl) (hH.at_ 9 rfl) (hH.at_ 10 rfl) (hH.at_ 11 rfl) (hH.pw [2, 3, 4, 5, 6, 7, 8, 9, 10, 11] rfl (by decide)))) fun v144 _ τ hv144 H143 (hH : Holds σ [(id98, (c_aEn (v97.1 : aEn))), (id55, (c_R11_Ram s77.1)), (id27, [(.ref id27B 0), (.ref id27I 0), (.vec id27H 1 (v144.2.heads).length), (.vec id27X 1 (v144.2.next_).length), (.vec id27G 5 (v144.2.things).length), (eI v144.2.count)]), (id27B, (c_slab_Budget v144.2.budget)), (id27I, [(.vec id27N 4 (v144.2.lists.nodes).length), (.vec id27F 1 (v144.2.lists.first_).length), (.vec id27L 1 (v144.2.lists.last_).length), (.vec id27C 1 (v144.2.lists.count).length), (eI v144.2.lists.free), (eI v144.2.lists.clock)]), (id27N, (cL e_lists_link v144.2.lists.nodes)), (id27F, (cL eI v144.2.lists.first_)), (id27L, (cL eI v144.2.lists.last_)), (id27C, (cL eI v144.2.lists.count)), (id27H, (cL eI v144.2.heads)), (id27X, (cL eI v144.2.next_)), (id27G, (cL e_aEn v144.2.things))] [] τ) => ?_
         refine ma tk (eI v144.1) rfl rfl (wpo_nil (sr rfl (mm tk (.ref id27 0) rfl rfl ?_)))
         refine wpo_bdr H143 (eL 5 e_aEn) rfl rfl rfl (fun v146 hv => h_callr rfl rfl (.cons wr .nil) (ram_Ram_All_ok hv _ (hH.at_ 2 rfl) (hH.at_ 3 rfl) (hH.at_ 4 rfl) (hH.at_ 5 rfl) (hH.at_ 6 rfl) (hH.at_ 7 rfl) (hH.at_ 8 rfl) (hH.at_ 9 rfl) (hH.at_ 10 rfl) (hH.at_ 11 rfl) (hH.pw [2, 3, 4, 5, 6, 7, 8, 9, 10, 11] rfl (by decide)))) fun v146 hv146 H145 => ?_
         refine ma tk ((eL 5 e_aEn) v146) rfl rfl (wpo_nil (awp_seq (sr rfl (ma tk (eI (0 : Int)) rfl rfl (wpo_nil (awp_block ?_))))))
         obtain ⟨o148, hs149, hj150⟩ := ob H145
         refine awp_cutx 2 (fun fr τ => ∃ s155 : Unit, o148 = .inl s155 ∧ WkF fr (fm [(2, (eI x2)), (14, ((eL 5 e_aEn) v95)), (17, (eI v144.1)), (18, ((eL 5 e_aEn) v146))]) ∧ Holds σ [(id98, (c_aEn (v97.1 : aEn))), (id55, (c_R11_Ram s77.1)), (id27, [(.ref id27B 0), (.ref id27I 0), (.vec id27H 1 (v144.2.heads).length), (.vec id27X 1 (v144.2.next_).length), (.vec id27G 5 (v144.2.things).length), (eI v144.2.count)]), (id27B, (c_slab_Budget v144.2.budget)), (id27I, [(.vec id27N 4 (v144.2.lists.nodes).length), (.vec id27F 1 (v144.2.lists.first_).length), (.vec id27L 1 (v144.2.lists.last_).length), (.vec id27C 1 (v144.2.lists.count).length), (eI v144.2.lists.free), (eI v144.2.lists.clock)]), (id27N, (cL e_lists_link v144.2.lists.nodes)), (id27F, (cL eI v144.2.lists.first_)), (id27L, (cL eI v144.2.lists.last_)), (id27C, (cL eI v144.2.lists.count)), (id27H, (cL eI v144.2.heads)), (id27X, (cL eI v144.2.next_)), (id27G, (cL e_aEn v144.2.things))] [] τ) ?_ ?_
         ·rintro fr τ ⟨s155, rfl, hfr, hH⟩
          have H172 := hj150
          simp only [Sum.elim_inl] at H172
          refine AWP.fm [(2, (eI x2)), (14, ((eL 5 e_aEn) v95)), (17, (eI v144.1)), (18, ((eL 5 e_aEn) v146))] hfr ?_
          refine awp_seq (sr rfl (ma tk (eI (0 : Int)) rfl rfl (wpo_nil (awp_block ?_))))
          obtain ⟨o174, hs175, hj176⟩ := ob H172
          refine awp_cutx 4 (fun fr τ => ∃ s181 : Unit, o174 = .inl s181 ∧ WkF fr (fm [(14, ((eL 5 e_aEn) v95)), (17, (eI v144.1)), (18, ((eL 5 e_aEn) v146))]) ∧ Holds σ [(id98, (c_aEn (v97.1 : aEn))), (id55, (c_R11_Ram s77.1)), (id27, [(.ref id27B 0), (.ref id27I 0), (.vec id27H 1 (v144.2.heads).length), (.vec id27X 1 (v144.2.next_).length), (.vec id27G 5 (v144.2.things).length), (eI v144.2.count)]), (id27B, (c_slab_Budget v144.2.budget)), (id27I, [(.vec id27N 4 (v144.2.lists.nodes).length), (.vec id27F 1 (v144.2.lists.first_).length), (.vec id27L 1 (v144.2.lists.last_).length), (.vec id27C 1 (v144.2.lists.count).length), (eI v144.2.lists.free), (eI v144.2.lists.clock)]), (id27N, (cL e_lists_link v144.2.lists.nodes)), (id27F, (cL eI v144.2.lists.first_)), (id27L, (cL eI v144.2.lists.last_)), (id27C, (cL eI v144.2.lists.count)), (id27H, (cL eI v144.2.heads)), (id27X, (cL eI v144.2.next_)), (id27G, (cL e_aEn v144.2.things))] [] τ) ?_ ?_
          ·rintro fr τ ⟨s181, rfl, hfr, hH⟩
           have H208 := hj176
           simp only [Sum.elim_inl] at H208
           refine AWP.fm [(14, ((eL 5 e_aEn) v95)), (17, (eI v144.1)), (18, ((eL 5 e_aEn) v146))] hfr ?_
           refine sr rfl (mm tk (eI v144.1) rfl rfl ?_)
           refine l_ H208 eB rfl (o_ar tk rfl rfl rfl) fun v210 H209 => ?_
           refine mm tk (eB v210) rfl rfl ?_
           refine if_split H209 (fun hb H211 => ?_) (fun hb H211 => ?_)
           ·subst hb
            refine mm tk ((eL 5 e_aEn) v146) rfl rfl ?_
            refine l_ H211 eI rfl (o_len tk td31 rfl) fun v213 H212 => ?_
            refine mm tk ((eL 5 e_aEn) v95) rfl rfl ?_
            refine l_ H212 eI rfl (o_len tk td31 rfl) fun v215 H214 => ?_
            refine l_ H214 eB rfl (o_ar tk rfl rfl rfl) fun v217 H216 => ?_
            refine pt tk (eB v217) rfl rfl rfl (mm tk (eB v217) rfl rfl ?_)
            refine if_split H216 (fun hb H218 => ?_) (fun hb H218 => ?_)
            ·subst hb
             refine wpo_bdr H218 eB rfl rfl rfl (fun v220 hv => h_callr rfl rfl .nil (L11_works_ok hv _ (hH.gl.trans hg))) fun v220 hv220 H219 => ?_
             refine pt tk (eB v220) rfl rfl rfl (ma tk (eB v220) rfl rfl (wpo_nil (awp_ret ?_)))
             obtain rfl := oi H219
             exact ⟨_, (eB v220), rfl, wr, .of_eq ((enc_b td4 sz4).cut _ _ _), ((((((((((((hH.noT.drop n99).drop n56).drop n28).drop n28_1).drop n28_2).drop n28_3).drop n28_4).drop n28_5).drop n28_6).drop n28_7).drop n28_8).drop n28_9)⟩
            ·subst hb
             refine k_ rfl (pf tk (eB false) rfl rfl rfl (ma tk (eB false) rfl rfl (wpo_nil (awp_ret ?_))))
             obtain rfl := oi H218
             exact ⟨_, (eB false), rfl, wr, .of_eq ((enc_b td4 sz4).cut _ _ _), ((((((((((((hH.noT.drop n99).drop n56).drop n28).drop n28_1).drop n28_2).drop n28_3).drop n28_4).drop n28_5).drop n28_6).drop n28_7).drop n28_8).drop n28_9)⟩
           ·subst hb
            refine k_ rfl (k_ rfl (k_ rfl (k_ rfl (k_ rfl (pf tk (eB false) rfl rfl rfl (mm tk (eB false) rfl rfl (k_ rfl (pf tk (eB false) rfl rfl rfl ?_))))))))
            refine ma tk (eB false) rfl rfl (wpo_nil (awp_ret ?_))
            obtain rfl := oi H211
            exact ⟨_, (eB false), rfl, wr, .of_eq ((enc_b td4 sz4).cut _ _ _), ((((((((((((hH.noT.drop n99).drop n56).drop n28).drop n28_1).drop n28_2).drop n28_3).drop n28_4).drop n28_5).drop n28_6).drop n28_7).drop n28_8).drop n28_9)⟩
          ·refine awp_loopO (body := fun s => L11_RamEnds_b2 x2 s77 v95 v97 v144 v146 s) hs175 (fun (s : Int) fr τ => WkF fr (fm [(2, (eI x2)), (14, ((eL 5 e_aEn) v95)), (17, (eI v144.1)), (18, ((eL 5 e_aEn) v146)), (20, (eI s))]) ∧ Holds σ [(id98, (c_aEn (v97.1 : aEn))), (id55, (c_R11_Ram s77.1)), (id27, [(.ref id27B 0), (.ref id27I 0), (.vec id27H 1 (v144.2.heads).length), (.vec id27X 1 (v144.2.next_).length), (.vec id27G 5 (v144.2.things).length), (eI v144.2.count)]), (id27B, (c_slab_Budget v144.2.budget)), (id27I, [(.vec id27N 4 (v144.2.lists.nodes).length), (.vec id27F 1 (v144.2.lists.first_).length), (.vec id27L 1 (v144.2.lists.last_).length), (.vec id27C 1 (v144.2.lists.count).length), (eI v144.2.lists.free), (eI v144.2.lists.clock)]), (id27N, (cL e_lists_link v144.2.lists.nodes)), (id27F, (cL eI v144.2.lists.first_)), (id27L, (cL eI v144.2.lists.last_)), (id27C, (cL eI v144.2.lists.count)), (id27H, (cL eI v144.2.heads)), (id27X, (cL eI v144.2.next_)), (id27G, (cL e_aEn v144.2.things))] [] τ) ⟨(wc (wc (wc (wc (wc (wkf_nil _)))))), hH⟩ ?_
           rintro c173 fr τ y177 ⟨hfr, hH⟩ hb179 hy180
           have H182 : L11_RamEnds_b2 x2 s77 v95 v97 v144 v146 c173 = some y177 := hb179
           unfold L11_RamEnds_b2 at H182
           refine AWP.fm [(2, (eI x2)), (14, ((eL 5 e_aEn) v95)), (17, (eI v144.1)), (18, ((eL 5 e_aEn) v146)), (20, (eI c173))] hfr ?_
           have hH : Holds σ [(id98, (c_aEn (v97.1 : aEn))), (id55, (c_R11_Ram s77.1)), (id27, [(.ref id27B 0), (.ref id27I 0), (.vec id27H 1 (v144.2.heads).length), (.vec id27X 1 (v144.2.next_).length), (.vec id27G 5 (v144.2.things).length), (eI v144.2.count)]), (id27B, (c_slab_Budget v144.2.budget)), (id27I, [(.vec id27N 4 (v144.2.lists.nodes).length), (.vec id27F 1 (v144.2.lists.first_).length), (.vec id27L 1 (v144.2.lists.last_).length), (.vec id27C 1 (v144.2.lists.count).length), (eI v144.2.lists.free), (eI v144.2.lists.clock)]), (id27N, (cL e_lists_link v144.2.lists.nodes)), (id27F, (cL eI v144.2.lists.first_)), (id27L, (cL eI v144.2.lists.last_)), (id27C, (cL eI v144.2.lists.count)), (id27H, (cL eI v144.2.heads)), (id27X, (cL eI v144.2.next_)), (id27G, (cL e_aEn v144.2.things))] [] τ := hH
           refine awp_seq (sr rfl (mm tk (eI c173) rfl rfl (mm tk ((eL 5 e_aEn) v95) rfl rfl ?_)))
           refine l_ H182 eI rfl (o_len tk td31 rfl) fun v184 H183 => ?_
           refine l_ H183 eB rfl (o_ar tk rfl rfl rfl) fun v186 H185 => ?_
           refine wpo_nil ?_
           refine awp_if H185 rfl (fun H187 => ?_) (fun H187 => ?_)
           ·refine awp_skip (awp_seq (awp_block (awp_seq ?_)))
            obtain ⟨s188, hs190, hj191⟩ := ob H187
            refine awp_cutn (fun fr τ => WkF fr (fm [(2, (eI x2)), (14, ((eL 5 e_aEn) v95)), (17, (eI v144.1)), (18, ((eL 5 e_aEn) v146)), (20, (eI c173)), (141, (eB s188))]) ∧ Holds σ [(id98, (c_aEn (v97.1 : aEn))), (id55, (c_R11_Ram s77.1)), (id27, [(.ref id27B 0), (.ref id27I 0), (.vec id27H 1 (v144.2.heads).length), (.vec id27X 1 (v144.2.next_).length), (.vec id27G 5 (v144.2.things).length), (eI v144.2.count)]), (id27B, (c_slab_Budget v144.2.budget)), (id27I, [(.vec id27N 4 (v144.2.lists.nodes).length), (.vec id27F 1 (v144.2.lists.first_).length), (.vec id27L 1 (v144.2.lists.last_).length), (.vec id27C 1 (v144.2.lists.count).length), (eI v144.2.lists.free), (eI v144.2.lists.clock)]), (id27N, (cL e_lists_link v144.2.lists.nodes)), (id27F, (cL eI v144.2.lists.first_)), (id27L, (cL eI v144.2.lists.last_)), (id27C, (cL eI v144.2.lists.count)), (id27H, (cL eI v144.2.heads)), (id27X, (cL eI v144.2.next_)), (id27G, (cL e_aEn v144.2.things))] [] τ) ?_ ?_
            ·rintro fr τ ⟨hfr, hH⟩
             have H203 := hj191
             refine AWP.fm [(2, (eI x2)), (14, ((eL 5 e_aEn) v95)), (17, (eI v144.1)), (18, ((eL 5 e_aEn) v146)), (20, (eI c173)), (141, (eB s188))] hfr ?_
             refine awp_if H203 rfl (fun H204 => ?_) (fun H204 => ?_)
             ·refine sr rfl (ma tk (eB false) rfl rfl (wpo_nil (awp_ret ?_)))
              have hz := hy180 _ (inj_inr H204)
              refine ⟨⟨_, inj_inr H204⟩, ?_⟩
              rw [← hz] at hj176
              have H205 := (show some _ = some _ from hj176)
              obtain rfl := oi H205
              exact ⟨_, (eB false), rfl, wr, .of_eq ((enc_b td4 sz4).cut _ _ _), ((((((((((((hH.noT.drop n99).drop n56).drop n28).drop n28_1).drop n28_2).drop n28_3).drop n28_4).drop n28_5).drop n28_6).drop n28_7).drop n28_8).drop n28_9)⟩
             ·refine awp_skip (awp_region rfl (mm tk (eI c173) rfl rfl ?_))
              refine l_ H204 eI rfl (o_ar tk rfl rfl rfl) fun v207 H206 => ?_
              refine ma tk (eI v207) rfl rfl (wpo_nil ?_)
              exact ⟨v207, inj_inl H206, (wc (wc (wc (wc (wc (wkf_nil _)))))), hH⟩
            ·refine awp_region rfl (mm tk ((eL 5 e_aEn) v95) rfl rfl (mm tk (eI c173) rfl rfl ?_))
             refine b_ hs190 (fun y => .fptr (e_aEn y).cells 0) rfl (fun v193 hv => o_ixa tk hv td31 enc39 rfl rfl) fun v193 hv193 H192 => ?_
             refine m_ (e_aEn v193) rfl (o_ld_e tk enc39 rfl rfl) (mm tk (eI x2) rfl rfl ?_)
             refine b_ H192 eB rfl (fun v195 hv => OpP.of_call rfl rfl (.cons wr (.cons wr .nil)) (R06_Live_ok hv)) fun v195 hv195 H194 => ?_
             refine mm tk (eB v195) rfl rfl ?_
             refine if_split H194 (fun hb H196 => ?_) (fun hb H196 => ?_)
             ·subst hb
              refine mm tk ((eL 5 e_aEn) v146) rfl rfl (mm tk ((eL 5 e_aEn) v95) rfl rfl (mm tk (eI c173) rfl rfl ?_))
              refine b_ H196 (fun y => .fptr (e_aEn y).cells 0) rfl (fun v198 hv => o_ixa tk hv td31 enc39 rfl rfl) fun v198 hv198 H197 => ?_
              refine mc tk (.fptr (c_aEn v198) 0) rfl rfl (fun _ => rfl) (m_ (eS v198.Key) rfl (o_ld tk rfl rfl) ?_)
              refine b_ H197 eI rfl (fun v200 hv => OpP.of_call rfl rfl (.cons wr (.cons wr .nil)) (R06_Find_ok hv)) fun v200 hv200 H199 => ?_
              refine l_ H199 eB rfl (o_ar tk rfl rfl rfl) fun v202 H201 => ?_
              refine pt tk (eB v202) rfl rfl rfl (wpo_nil ?_)
              have e := oi H201
              subst e
              exact ⟨(wc (wc (wc (wc (wc (wc (wkf_nil _))))))), hH⟩
             ·subst hb
              refine k_ rfl (k_ rfl (k_ rfl (k_ rfl (k_ rfl (k_ rfl (k_ rfl (k_ rfl (pf tk (eB false) rfl rfl rfl ?_))))))))
              refine wpo_nil ?_
              have e := oi H196
              subst e
              exact ⟨(wc (wc (wc (wc (wc (wc (wkf_nil _))))))), hH⟩
           ·refine awp_exit ?_
            have hz := hy180 _ (inj_inr H187)
            exact ⟨⟨_, inj_inr H187⟩, (), hz.symm, (wc (wc (wc (wkf_nil _)))), hH⟩
         ·refine awp_loopO (body := fun s => L11_RamEnds_b1 x2 s77 v95 v97 v144 v146 s) hs149 (fun (s : Int) fr τ => WkF fr (fm [(2, (eI x2)), (14, ((eL 5 e_aEn) v95)), (17, (eI v144.1)), (18, ((eL 5 e_aEn) v146)), (19, (eI s))]) ∧ Holds σ [(id98, (c_aEn (v97.1 : aEn))), (id55, (c_R11_Ram s77.1)), (id27, [(.ref id27B 0), (.ref id27I 0), (.vec id27H 1 (v144.2.heads).length), (.vec id27X 1 (v144.2.next_).length), (.vec id27G 5 (v144.2.things).length), (eI v144.2.count)]), (id27B, (c_slab_Budget v144.2.budget)), (id27I, [(.vec id27N 4 (v144.2.lists.nodes).length), (.vec id27F 1 (v144.2.lists.first_).length), (.vec id27L 1 (v144.2.lists.last_).length), (.vec id27C 1 (v144.2.lists.count).length), (eI v144.2.lists.free), (eI v144.2.lists.clock)]), (id27N, (cL e_lists_link v144.2.lists.nodes)), (id27F, (cL eI v144.2.lists.first_)), (id27L, (cL eI v144.2.lists.last_)), (id27C, (cL eI v144.2.lists.count)), (id27H, (cL eI v144.2.heads)), (id27X, (cL eI v144.2.next_)), (id27G, (cL e_aEn v144.2.things))] [] τ) ⟨(wc (wc (wc (wc (wc (wkf_nil _)))))), hH⟩ ?_
          rintro c147 fr τ y151 ⟨hfr, hH⟩ hb153 hy154
          have H156 : L11_RamEnds_b1 x2 s77 v95 v97 v144 v146 c147 = some y151 := hb153
          unfold L11_RamEnds_b1 at H156
          refine AWP.fm [(2, (eI x2)), (14, ((eL 5 e_aEn) v95)), (17, (eI v144.1)), (18, ((eL 5 e_aEn) v146)), (19, (eI c147))] hfr ?_
          have hH : Holds σ [(id98, (c_aEn (v97.1 : aEn))), (id55, (c_R11_Ram s77.1)), (id27, [(.ref id27B 0), (.ref id27I 0), (.vec id27H 1 (v144.2.heads).length), (.vec id27X 1 (v144.2.next_).length), (.vec id27G 5 (v144.2.things).length), (eI v144.2.count)]), (id27B, (c_slab_Budget v144.2.budget)), (id27I, [(.vec id27N 4 (v144.2.lists.nodes).length), (.vec id27F 1 (v144.2.lists.first_).length), (.vec id27L 1 (v144.2.lists.last_).length), (.vec id27C 1 (v144.2.lists.count).length), (eI v144.2.lists.free), (eI v144.2.lists.clock)]), (id27N, (cL e_lists_link v144.2.lists.nodes)), (id27F, (cL eI v144.2.lists.first_)), (id27L, (cL eI v144.2.lists.last_)), (id27C, (cL eI v144.2.lists.count)), (id27H, (cL eI v144.2.heads)), (id27X, (cL eI v144.2.next_)), (id27G, (cL e_aEn v144.2.things))] [] τ := hH
          refine awp_seq (sr rfl (mm tk (eI c147) rfl rfl (mm tk ((eL 5 e_aEn) v146) rfl rfl ?_)))
          refine l_ H156 eI rfl (o_len tk td31 rfl) fun v158 H157 => ?_
          refine l_ H157 eB rfl (o_ar tk rfl rfl rfl) fun v160 H159 => ?_
          refine wpo_nil ?_
          refine awp_if H159 rfl (fun H161 => ?_) (fun H161 => ?_)
          ·refine awp_skip (awp_seq (awp_block (sr rfl (mm tk ((eL 5 e_aEn) v146) rfl rfl (mm tk (eI c147) rfl rfl ?_)))))
           refine b_ H161 (fun y => .fptr (e_aEn y).cells 0) rfl (fun v163 hv => o_ixa tk hv td31 enc39 rfl rfl) fun v163 hv163 H162 => ?_
           refine m_ (e_aEn v163) rfl (o_ld_e tk enc39 rfl rfl) (mm tk (eI x2) rfl rfl ?_)
           refine b_ H162 eB rfl (fun v165 hv => OpP.of_call rfl rfl (.cons wr (.cons wr .nil)) (R06_Live_ok hv)) fun v165 hv165 H164 => ?_
           refine l_ H164 eB rfl (o_un tk rfl rfl) fun v167 H166 => ?_
           refine wpo_nil ?_
           refine awp_if H166 rfl (fun H168 => ?_) (fun H168 => ?_)
           ·refine sr rfl (ma tk (eB false) rfl rfl (wpo_nil (awp_ret ?_)))
            have hz := hy154 _ (inj_inr H168)
            refine ⟨⟨_, inj_inr H168⟩, ?_⟩
            rw [← hz] at hj150
            have H169 := (show some _ = some _ from hj150)
            obtain rfl := oi H169
            exact ⟨_, (eB false), rfl, wr, .of_eq ((enc_b td4 sz4).cut _ _ _), ((((((((((((hH.noT.drop n99).drop n56).drop n28).drop n28_1).drop n28_2).drop n28_3).drop n28_4).drop n28_5).drop n28_6).drop n28_7).drop n28_8).drop n28_9)⟩
           ·refine awp_skip (awp_region rfl (mm tk (eI c147) rfl rfl ?_))
            refine l_ H168 eI rfl (o_ar tk rfl rfl rfl) fun v171 H170 => ?_
            refine ma tk (eI v171) rfl rfl (wpo_nil ?_)
            exact ⟨v171, inj_inl H170, (wc (wc (wc (wc (wc (wkf_nil _)))))), hH⟩
          ·refine awp_exit ?_
           have hz := hy154 _ (inj_inr H161)
           exact ⟨⟨_, inj_inr H161⟩, (), hz.symm, (wc (wc (wc (wc (wkf_nil _))))), hH⟩
       ·refine awp_region rfl (mm tk (eB v97.2.1) rfl rfl (mm tk (eB v97.2.1) rfl rfl ?_))
        refine if_split hs103 (fun hb H105 => ?_) (fun hb H105 => ?_)
        ·rw [hb]
         refine wpo_rd (a := (e_aEn (v97.1 : aEn))) rfl rfl rfl (h_ld tk hH 0 rfl rfl rfl) (mm tk (eI x2) rfl rfl ?_)
         refine b_ H105 eB rfl (fun v107 hv => OpP.of_call rfl rfl (.cons wr (.cons wr .nil)) (R06_Live_ok hv)) fun v107 hv107 H106 => ?_
         refine l_ H106 eB rfl (o_un tk rfl rfl) fun v109 H108 => ?_
         refine pt tk (eB v109) rfl rfl rfl (mm tk (eB v109) rfl rfl ?_)
         refine if_split H108 (fun hb H110 => ?_) (fun hb H110 => ?_)
         ·subst hb
          refine k_ rfl (k_ rfl (k_ rfl (k_ rfl (k_ rfl (k_ rfl (k_ rfl (k_ rfl (k_ rfl ?_))))))))
          refine k_ rfl (k_ rfl (k_ rfl (k_ rfl (k_ rfl (k_ rfl (k_ rfl (pt tk (eB true) rfl rfl rfl (wpo_nil ?_))))))))
          have e := oi H110
          subst e
          exact ⟨(wc (wc (wc (wc (wkf_nil _))))), hH⟩
         ·subst hb
          refine mm tk (eB true) rfl rfl (mm tk ((eL 5 e_aEn) v95) rfl rfl (mm tk (eS x3) rfl rfl ?_))
          refine b_ H110 eI rfl (fun v112 hv => OpP.of_call rfl rfl (.cons wr (.cons wr .nil)) (R06_Find_ok hv)) fun v112 hv112 H111 => ?_
          refine l_ H111 eB rfl (o_ar tk rfl rfl rfl) fun v114 H113 => ?_
          refine mm tk (eB v114) rfl rfl ?_
          refine if_split H113 (fun hb H115 => ?_) (fun hb H115 => ?_)
          ·subst hb
           refine mm tk ((eL 5 e_aEn) v95) rfl rfl (mm tk ((eL 5 e_aEn) v95) rfl rfl (mm tk (eS x3) rfl rfl ?_))
           refine b_ H115 eI rfl (fun v117 hv => OpP.of_call rfl rfl (.cons wr (.cons wr .nil)) (R06_Find_ok hv)) fun v117 hv117 H116 => ?_
           refine b_ H116 (fun y => .fptr (e_aEn y).cells 0) rfl (fun v119 hv => o_ixa tk hv td31 enc39 rfl rfl) fun v119 hv119 H118 => ?_
           refine m_ (e_aEn v119) rfl (o_ld_e tk enc39 rfl rfl) (mm tk (eI x2) rfl rfl ?_)
           refine b_ H118 eB rfl (fun v121 hv => OpP.of_call rfl rfl (.cons wr (.cons wr .nil)) (R06_Live_ok hv)) fun v121 hv121 H120 => ?_
           refine pt tk (eB v121) rfl rfl rfl ?_
           refine l_ H120 eB rfl (o_bool_neq tk td4 rfl rfl) fun v123 H122 => ?_
           refine pf tk (eB v123) rfl rfl rfl (wpo_nil ?_)
           have e := oi H122
           subst e
           exact ⟨(wc (wc (wc (wc (wkf_nil _))))), hH⟩
          ·subst hb
           refine k_ rfl (k_ rfl (k_ rfl (k_ rfl (k_ rfl (k_ rfl (k_ rfl (k_ rfl (pf tk (eB false) rfl rfl rfl ?_))))))))
           refine l_ H115 eB rfl (o_bool_neq tk td4 rfl rfl) fun v125 H124 => ?_
           refine pf tk (eB v125) rfl rfl rfl (wpo_nil ?_)
           have e := oi H124
           subst e
           exact ⟨(wc (wc (wc (wc (wkf_nil _))))), hH⟩
        ·rw [hb]
         refine k_ rfl (k_ rfl (k_ rfl (k_ rfl (pf tk (eB false) rfl rfl rfl (mm tk (eB false) rfl rfl (mm tk (eB false) rfl rfl (mm tk ((eL 5 e_aEn) v95) rfl rfl (mm tk (eS x3) rfl rfl ?_))))))))
         refine b_ H105 eI rfl (fun v127 hv => OpP.of_call rfl rfl (.cons wr (.cons wr .nil)) (R06_Find_ok hv)) fun v127 hv127 H126 => ?_
         refine l_ H126 eB rfl (o_ar tk rfl rfl rfl) fun v129 H128 => ?_
         refine mm tk (eB v129) rfl rfl ?_
         refine if_split H128 (fun hb H130 => ?_) (fun hb H130 => ?_)
         ·subst hb
          refine mm tk ((eL 5 e_aEn) v95) rfl rfl (mm tk ((eL 5 e_aEn) v95) rfl rfl (mm tk (eS x3) rfl rfl ?_))
          refine b_ H130 eI rfl (fun v132 hv => OpP.of_call rfl rfl (.cons wr (.cons wr .nil)) (R06_Find_ok hv)) fun v132 hv132 H131 => ?_
          refine b_ H131 (fun y => .fptr (e_aEn y).cells 0) rfl (fun v134 hv => o_ixa tk hv td31 enc39 rfl rfl) fun v134 hv134 H133 => ?_
          refine m_ (e_aEn v134) rfl (o_ld_e tk enc39 rfl rfl) (mm tk (eI x2) rfl rfl ?_)
          refine b_ H133 eB rfl (fun v136 hv => OpP.of_call rfl rfl (.cons wr (.cons wr .nil)) (R06_Live_ok hv)) fun v136 hv136 H135 => ?_
          refine pt tk (eB v136) rfl rfl rfl ?_
          refine l_ H135 eB rfl (o_bool_neq tk td4 rfl rfl) fun v138 H137 => ?_
          refine pf tk (eB v138) rfl rfl rfl (wpo_nil ?_)
          have e := oi H137
          subst e
          exact ⟨(wc (wc (wc (wc (wkf_nil _))))), hH⟩
         ·subst hb
          refine k_ rfl (k_ rfl (k_ rfl (k_ rfl (k_ rfl (k_ rfl (k_ rfl (k_ rfl (pf tk (eB false) rfl rfl rfl ?_))))))))
          refine l_ H130 eB rfl (o_bool_neq tk td4 rfl rfl) fun v140 H139 => ?_
          refine pf tk (eB v140) rfl rfl rfl (wpo_nil ?_)
          have e := oi H139
          subst e
          exact ⟨(wc (wc (wc (wc (wkf_nil _))))), hH⟩
      ·refine awp_loopO (body := fun s => L11_RamEnds_b0 x1 x2 x3 s.1 s.2.1 s.2.2.1 s.2.2.2.1 s.2.2.2.2.1 s.2.2.2.2.2.1 s.2.2.2.2.2.2.1 s.2.2.2.2.2.2.2.1 s.2.2.2.2.2.2.2.2.1 s.2.2.2.2.2.2.2.2.2.1 s.2.2.2.2.2.2.2.2.2.2.1 s.2.2.2.2.2.2.2.2.2.2.2) hs71 (fun (s : Int × R11_Ram × ram_Ram × slab_Budget × lists_Lists × (List lists_link) × (List Int) × (List Int) × (List Int) × (List Int) × (List Int) × (List aEn)) fr τ => WkF fr (fm [(1, ((eL 7 e_L11_Op) x1)), (2, (eI x2)), (3, (eS x3)), (9, (.ref id27 0)), (11, (.ref id55 0)), (13, (eI s.1))]) ∧ Holds σ [(id55, (c_R11_Ram s.2.1)), (id27, [(.ref id27B 0), (.ref id27I 0), (.vec id27H 1 (s.2.2.2.2.2.2.2.2.2.1).length), (.vec id27X 1 (s.2.2.2.2.2.2.2.2.2.2.1).length), (.vec id27G 5 (s.2.2.2.2.2.2.2.2.2.2.2).length), (eI s.2.2.1.count)]), (id27B, (c_slab_Budget s.2.2.2.1)), (id27I, [(.vec id27N 4 (s.2.2.2.2.2.1).length), (.vec id27F 1 (s.2.2.2.2.2.2.1).length), (.vec id27L 1 (s.2.2.2.2.2.2.2.1).length), (.vec id27C 1 (s.2.2.2.2.2.2.2.2.1).length), (eI s.2.2.2.2.1.free), (eI s.2.2.2.2.1.clock)]), (id27N, (cL e_lists_link s.2.2.2.2.2.1)), (id27F, (cL eI s.2.2.2.2.2.2.1)), (id27L, (cL eI s.2.2.2.2.2.2.2.1)), (id27C, (cL eI s.2.2.2.2.2.2.2.2.1)), (id27H, (cL eI s.2.2.2.2.2.2.2.2.2.1)), (id27X, (cL eI s.2.2.2.2.2.2.2.2.2.2.1)), (id27G, (cL e_aEn s.2.2.2.2.2.2.2.2.2.2.2))] [] τ) ⟨(wc (wc (wc (wc (wc (wc (wkf_nil _))))))), hH⟩ ?_
       rintro ⟨c58, c59, c60, c61, c62, c63, c64, c65, c66, c67, c68, c69⟩ fr τ y73 ⟨hfr, hH⟩ hb75 hy76
       have H78 : L11_RamEnds_b0 x1 x2 x3 c58 c59 c60 c61 c62 c63 c64 c65 c66 c67 c68 c69 = some y73 := hb75
       unfold L11_RamEnds_b0 at H78
       refine AWP.fm [(1, ((eL 7 e_L11_Op) x1)), (2, (eI x2)), (3, (eS x3)), (9, (.ref id27 0)), (11, (.ref id55 0)), (13, (eI c58))] hfr ?_
       have hH : Holds σ [(id55, (c_R11_Ram c59)), (id27, [(.ref id27B 0), (.ref id27I 0), (.vec id27H 1 (c67).length), (.vec id27X 1 (c68).length), (.vec id27G 5 (c69).length), (eI c60.count)]), (id27B, (c_slab_Budget c61)), (id27I, [(.vec id27N 4 (c63).length), (.vec id27F 1 (c64).length), (.vec id27L 1 (c65).length), (.vec id27C 1 (c66).length), (eI c62.free), (eI c62.clock)]), (id27N, (cL e_lists_link c63)), (id27F, (cL eI c64)), (id27L, (cL eI c65)), (id27C, (cL eI c66)), (id27H, (cL eI c67)), (id27X, (cL eI c68)), (id27G, (cL e_aEn c69))] [] τ := hH
       refine awp_seq (sr rfl (mm tk (eI c58) rfl rfl (mm tk ((eL 7 e_L11_Op) x1) rfl rfl ?_)))
       refine l_ H78 eI rfl (o_len tk td23 rfl) fun v80 H79 => ?_
       refine l_ H79 eB rfl (o_ar tk rfl rfl rfl) fun v82 H81 => ?_
       refine wpo_nil ?_
       refine awp_if H81 rfl (fun H83 => ?_) (fun H83 => ?_)
       ·refine awp_skip (awp_seq (awp_block ?_))
        refine awp_drawS mixed [6, 10] rfl (by decide +kernel) rfl rfl ?_
        refine wpdS_mv (a := (.ref id27 0)) rfl rfl rfl (o_mv tk rfl (Wk.refl _)) (wpdS_rd (a := (e_R11_Ram c59)) rfl (by decide +kernel) rfl rfl (h_ld tk hH 0 rfl rfl rfl) (wpdS_mv (a := ((eL 7 e_L11_Op) x1)) rfl rfl rfl (o_mv tk rfl (Wk.refl _)) (wpdS_mv (a := (eI c58)) rfl rfl rfl (o_mv tk rfl (Wk.refl _)) ?_)))
        refine wpdS_bd H83 (fun y => .fptr (e_L11_Op y).cells 0) rfl rfl rfl (fun v85 hv => o_ixa tk hv td23 enc41 rfl rfl) fun v85 hv85 H84 => ?_
        refine wpdS_mv (a := (e_L11_Op v85)) rfl rfl rfl (o_ld_e tk enc41 rfl rfl) ?_
        refine wpdS_cb H84 (fun x _ => .tup [e_R11_Ram x.1, eB x.2.1]) rfl rfl rfl (fun v87 hv => h_call1 hH [(1, (id27, [(.ref id27B 0), (.ref id27I 0), (.vec id27H 1 (v87.2.2.heads).length), (.vec id27X 1 (v87.2.2.next_).length), (.vec id27G 5 (v87.2.2.things).length), (eI v87.2.2.count)])), (2, (id27B, (c_slab_Budget v87.2.2.budget))), (3, (id27I, [(.vec id27N 4 (v87.2.2.lists.nodes).length), (.vec id27F 1 (v87.2.2.lists.first_).length), (.vec id27L 1 (v87.2.2.lists.last_).length), (.vec id27C 1 (v87.2.2.lists.count).length), (eI v87.2.2.lists.free), (eI v87.2.2.lists.clock)])), (4, (id27N, (cL e_lists_link v87.2.2.lists.nodes))), (5, (id27F, (cL eI v87.2.2.lists.first_))), (6, (id27L, (cL eI v87.2.2.lists.last_))), (7, (id27C, (cL eI v87.2.2.lists.count))), (8, (id27H, (cL eI v87.2.2.heads))), (9, (id27X, (cL eI v87.2.2.next_))), (10, (id27G, (cL e_aEn v87.2.2.things)))] ⟨⟨_, rfl⟩, ⟨⟨_, rfl⟩, ⟨⟨_, rfl⟩, ⟨⟨_, rfl⟩, ⟨⟨_, rfl⟩, ⟨⟨_, rfl⟩, ⟨⟨_, rfl⟩, ⟨⟨_, rfl⟩, ⟨⟨_, rfl⟩, ⟨⟨_, rfl⟩, trivial⟩⟩⟩⟩⟩⟩⟩⟩⟩⟩ rfl rfl (.cons wr (.cons wr (.cons wr .nil))) (L11_do_ok hv _ (hH.at_ 1 rfl) (hH.at_ 2 rfl) (hH.at_ 3 rfl) (hH.at_ 4 rfl) (hH.at_ 5 rfl) (hH.at_ 6 rfl) (hH.at_ 7 rfl) (hH.at_ 8 rfl) (hH.at_ 9 rfl) (hH.at_ 10 rfl) (hH.pw [1, 2, 3, 4, 5, 6, 7, 8, 9, 10] rfl (by decide)) (hH.gl.trans hg))) fun v87 _ τ hv87 H86 (hH : Holds σ [(id55, (c_R11_Ram c59)), (id27, [(.ref id27B 0), (.ref id27I 0), (.vec id27H 1 (v87.2.2.heads).length), (.vec id27X 1 (v87.2.2.next_).length), (.vec id27G 5 (v87.2.2.things).length), (eI v87.2.2.count)]), (id27B, (c_slab_Budget v87.2.2.budget)), (id27I, [(.vec id27N 4 (v87.2.2.lists.nodes).length), (.vec id27F 1 (v87.2.2.lists.first_).length), (.vec id27L 1 (v87.2.2.lists.last_).length), (.vec id27C 1 (v87.2.2.lists.count).length), (eI v87.2.2.lists.free), (eI v87.2.2.lists.clock)]), (id27N, (cL e_lists_link v87.2.2.lists.nodes)), (id27F, (cL eI v87.2.2.lists.first_)), (id27L, (cL eI v87.2.2.lists.last_)), (id27C, (cL eI v87.2.2.lists.count)), (id27H, (cL eI v87.2.2.heads)), (id27X, (cL eI v87.2.2.next_)), (id27G, (cL e_aEn v87.2.2.things))] [] τ) => ?_
        refine wpdS_mv (a := (.tup [(e_R11_Ram v87.1), (eB v87.2.1)])) rfl rfl rfl (o_mv tk rfl (Wk.refl _)) (wpdS_mv (a := (e_R11_Ram v87.1)) rfl rfl rfl (o_ext tk rfl rfl) (wpdS_mv (a := (eB v87.2.1)) rfl rfl rfl (o_ext tk rfl rfl) ?_))
        obtain ⟨c89, hc90, H88⟩ := lt_ex H86
        refine wpdS_z rfl rfl rfl (h_st tk hH 0 rfl ty33 (by simp) rfl rfl wr (b := (e_R11_Ram v87.1)) (enc33.flat _) rfl (nb rfl) (c_R11_Ram c89) (by rw [← hc90]; rfl)) fun τ hH => ?_
        refine wpdS_nil (awp_region rfl (mm tk (eI c58) rfl rfl ?_))
        refine l_ H88 eI rfl (o_ar tk rfl rfl rfl) fun v92 H91 => ?_
        refine ma tk (eI v92) rfl rfl (wpo_nil ?_)
        exact ⟨(v92, c89, v87.2.2, v87.2.2.budget, v87.2.2.lists, v87.2.2.lists.nodes, v87.2.2.lists.first_, v87.2.2.lists.last_, v87.2.2.lists.count, v87.2.2.heads, v87.2.2.next_, v87.2.2.things), inj_inl H91, (wc (wc (wc (wc (wc (wc (wkf_nil _))))))), hH⟩
       ·refine awp_exit ?_
        have hz := hy76 _ (inj_inr H83)
        subst hz
        exact ⟨⟨_, inj_inr H83⟩, (wc (wc (wc (wkf_nil _)))), hH⟩
    ·refine awp_region rfl (mm tk (eErr v25.2) rfl rfl ?_)
     refine l_ hs40 eB rfl (o_err_neq tk rfl rfl rfl) fun v43 H42 => ?_
     refine mm tk (eB v43) rfl rfl ?_
     refine if_split H42 (fun hb H44 => ?_) (fun hb H44 => ?_)
     ·subst hb
      refine k_ rfl (k_ rfl (pt tk (eB true) rfl rfl rfl (wpo_nil ?_)))
      have e := oi H44
      subst e
      exact ⟨(wc (wc (wc (wc (wc (wc (wkf_nil _))))))), hH⟩
     ·subst hb
      refine mm tk (.ref id27 0) rfl rfl (mc tk (eB false) rfl rfl (fun _ => rfl) (pf tk (eB false) rfl rfl rfl (wpo_nil ?_)))
      have e := oi H44
      subst e
      exact ⟨(wc (wc (wc (wc (wc (wc (wkf_nil _))))))), hH⟩
 ·refine awp_region rfl (mm tk ((eL 7 e_L11_Op) x1) rfl rfl ?_)
  refine b_ hs3 eB rfl (fun v6 hv => OpP.of_call rfl rfl (.cons wr .nil) (L11_light_ok hv)) fun v6 hv6 H5 => ?_
  refine l_ H5 eB rfl (o_un tk rfl rfl) fun v8 H7 => ?_
  refine mm tk (eB v8) rfl rfl ?_
  refine if_split H7 (fun hb H9 => ?_) (fun hb H9 => ?_)
  ·subst hb
   refine k_ rfl (k_ rfl (k_ rfl (pt tk (eB true) rfl rfl rfl (wpo_nil ?_))))
   have e := oi H9
   subst e
   exact ⟨(wc (wc (wc (wc (wc (wkf_nil _)))))), hH⟩
  ·subst hb
   refine mm tk (eS x3) rfl rfl ?_
   refine l_ H9 eI rfl (o_len_s tk td9 rfl) fun v11 H10 => ?_
   refine l_ H10 eB rfl (o_ar tk rfl rfl rfl) fun v13 H12 => ?_
   refine pf tk (eB v13) rfl rfl rfl (wpo_nil ?_)
   have e := oi H12
   subst e
   exact ⟨(wc (wc (wc (wc (wc (wkf_nil _)))))), hH⟩
end Go.Proofs.YtggeboakilalhaaDoor
namespace Go.Va
open Go
set_option linter.unusedVariables false
set_option linter.unusedSimpArgs false
theorem shr64_nat {n m : Nat} (h : m ≤ 64) : shr64 (n : Int) m = ((n / 2 ^ m : Nat) : Int) := by
  unfold shr64
  rw [Nat.min_eq_left h]
  have : (2 : Int) ^ m = ((2 ^ m : Nat) : Int) := by simp
  rw [this, Int.fdiv_eq_ediv_of_nonneg _ (Int.natCast_nonneg _), ← Int.natCast_ediv]
theorem quo64_nat {n m : Nat} (h : n < 9223372036854775808) : quo64 (n : Int) (m : Int) = ((n / m : Nat) : Int) := by
  unfold quo64
  have := Nat.div_le_self n m
  rw [Int.tdiv_eq_ediv_of_nonneg (Int.natCast_nonneg _), ← Int.natCast_ediv]
  generalize n / m = q at *
  exact w64_eq (by omega) (by omega)
theorem tmod_nat (n m : Nat) : Int.tmod (n : Int) (m : Int) = ((n % m : Nat) : Int) := by
  rw [Int.tmod_eq_emod_of_nonneg (Int.natCast_nonneg _)]; rfl
theorem byte_int (n : Nat) : BitVec.ofInt 8 (n : Int) = BitVec.ofNat 8 n := by
  apply BitVec.eq_of_toNat_eq
  simp [BitVec.toNat_ofInt]
def pre (m : Nat) : List (BitVec 8) := if m = 0 then [] else pre (m / 128) ++ [BitVec.ofNat 8 (m % 128 + 128)]
termination_by m
decreasing_by omega
def num7 (n : Nat) : List (BitVec 8) := pre (n / 128) ++ [BitVec.ofNat 8 (n % 128)]
theorem pre_zero : pre 0 = [] := by rw [pre]; rfl
theorem pre_pos {m : Nat} (h : 0 < m) : pre m = pre (m / 128) ++ [BitVec.ofNat 8 (m % 128 + 128)] := by
  rw [pre, if_neg (by omega)]
theorem pre_len : ∀ (k m : Nat), m < 128 ^ k → (pre m).length ≤ k
  | 0, m, h => by
    have : m = 0 := by simpa using h
    subst this; rw [pre_zero]; simp
  | k + 1, m, h => by
    by_cases h0 : m = 0
    · subst h0; rw [pre_zero]; simp
    · rw [pre_pos (by omega)]
      have := pre_len k (m / 128) (by rw [Nat.div_lt_iff_lt_mul (by decide)]; rw [Nat.pow_succ] at h; exact h)
      simp; exact this
theorem num7_len {n : Nat} (h : n < 9223372036854775808) : (num7 n).length ≤ 9 := by
  have := pre_len 8 (n / 128) (by omega)
  simp [num7]; omega
theorem num7_small {n : Nat} (h : n < 128) : num7 n = [BitVec.ofNat 8 n] := by
  rw [num7, show n / 128 = 0 by omega, pre_zero, Nat.mod_eq_of_lt h]; rfl
def nlen (n : Nat) : Nat := if n < 128 then 1 else nlen (n / 128) + 1
termination_by n
decreasing_by omega
theorem nlen_lt {n : Nat} (h : n < 128) : nlen n = 1 := by rw [nlen, if_pos h]
theorem nlen_ge {n : Nat} (h : 128 ≤ n) : nlen n = nlen (n / 128) + 1 := by rw [nlen, if_neg (by omega)]
end Go.Va
namespace Go.Proofs.YtggeboakilalhaaDoor
open Go Go.Va
set_option linter.unusedVariables false
set_option linter.unusedSimpArgs false
theorem same_eq (x y : List (BitVec 8)) (hx : x.length < 9223372036854775807) : R02_Same x y = some (decide (x = y)) := by
  unfold R02_Same
  simp only [lt_eq]
  by_cases hl : x.length = y.length
  · rw [if_neg (by simp [hl])]
    have h := loopO_find (body := fun s => R02_Same_b0 x y s) (fun i : Nat => (i : Int)) x.length (fun i => if x[i]? ≠ y[i]? then some (Sum.inr false) else none) (x := .inl ()) (fun i hi => by
      simp only [R02_Same_b0, lt_eq, ix_nat hi, ix_nat (show i < y.length by omega), Option.bind_some]
      rw [if_pos (by simpa using hi)]
      by_cases he : x[i] = y[i]
      · rw [if_neg (by simp [he]), if_neg (by simp [hi, show i < y.length by omega, he]), w64_nat (by omega)]; rfl
      · rw [if_pos (by simpa using he), if_pos (by simp [hi, show i < y.length by omega, he])]; rfl) (by simp [R02_Same_b0, lt_eq])
    rw [show ((0 : Nat) : Int) = 0 from rfl] at h
    simp only [R02_Same_l0, h, Option.bind_some]
    by_cases he : x = y
    · rw [List.findSome?_eq_none_iff.2 (fun i _ => by rw [if_neg (by simp [he])])]
      simp [he]
    · cases hf : (List.range x.length).findSome? (fun i => if x[i]? ≠ y[i]? then some (Sum.inr (α := Unit) false) else none) with
      | none =>
        refine absurd (List.ext_getElem? fun i => ?_) he
        have h1 := List.findSome?_eq_none_iff.1 hf
        rcases Nat.lt_or_ge i x.length with hi | hi
        · have := h1 i (by simpa using hi)
          by_cases hne : x[i]? = y[i]?
          · exact hne
          · rw [if_pos hne] at this; cases this
        · rw [List.getElem?_eq_none hi, List.getElem?_eq_none (by omega)]
      | some w =>
        obtain ⟨i, _, h2⟩ := List.exists_of_findSome?_eq_some hf
        split at h2
        · cases h2; simp [he]
        · cases h2
  · rw [if_pos (by simpa using fun e => hl (by exact_mod_cast e))]
    rw [decide_eq_false (fun e => hl (by rw [e]))]
theorem refnum_l : ∀ (k m : Nat) (out : List (BitVec 8)), m < 128 ^ k → m < 9223372036854775808 → out.length + k ≤ 1000 → R02_num_l0 (out, (m : Int)) = some (pre m ++ out)
  | 0, m, out, h, h2, hl => by
    have : m = 0 := by simpa using h
    subst this
    rw [pre_zero]
    exact loopO_out (by simp [R02_num_b0, lt_eq])
  | k + 1, m, out, h, h2, hl => by
    by_cases h0 : m = 0
    · subst h0
      rw [pre_zero]
      exact loopO_out (by simp [R02_num_b0, lt_eq])
    · have hb : R02_num_b0 out (m : Int) = some (.inl (BitVec.ofNat 8 (m % 128 + 128) :: out, ((m / 128 : Nat) : Int))) := by
        simp only [R02_num_b0, lt_eq]
        rw [if_pos (by simp; omega)]
        have e1 : Int.tmod (m : Int) 128 = ((m % 128 : Nat) : Int) := tmod_nat m 128
        have e2 : quo64 (m : Int) 128 = ((m / 128 : Nat) : Int) := quo64_nat h2
        rw [e1, e2, w64_eq (by omega) (by omega), app_eq (by simp; omega)]
        rw [show (((m % 128 : Nat) : Int) + 128) = ((m % 128 + 128 : Nat) : Int) by omega, byte_int]
        rfl
      have := loopO_in (body := fun s => R02_num_b0 s.1 s.2) (s := (out, (m : Int))) hb
      rw [R02_num_l0, this]
      have ih := refnum_l k (m / 128) (BitVec.ofNat 8 (m % 128 + 128) :: out) (by rw [Nat.div_lt_iff_lt_mul (by decide)]; rw [Nat.pow_succ] at h; exact h) (by omega) (by simp; omega)
      rw [R02_num_l0] at ih
      rw [ih, pre_pos (m := m) (by omega)]
      simp
theorem refnum_eq {n : Nat} (h : n < 9223372036854775808) : R02_num (n : Int) = some (num7 n) := by
  simp only [R02_num, lt_eq]
  have e1 : Int.tmod (n : Int) 128 = ((n % 128 : Nat) : Int) := tmod_nat n 128
  have e2 : quo64 (n : Int) 128 = ((n / 128 : Nat) : Int) := quo64_nat h
  rw [e1, e2, byte_int, refnum_l 9 (n / 128) _ (by omega) (by omega) (by simp)]
  rfl
def nums (l : List Int) : List (BitVec 8) := l.flatMap fun n => num7 n.toNat
def okN (l : List Int) : Prop := l.length ≤ 1000 ∧ ∀ n ∈ l, 0 ≤ n ∧ n ≤ 9223372036854775807
theorem nums_len : ∀ {l : List Int}, (∀ n ∈ l, 0 ≤ n ∧ n ≤ 9223372036854775807) → (nums l).length ≤ 9 * l.length
  | [], _ => Nat.le_refl _
  | n :: l, h => by
    have h1 := nums_len (l := l) (fun m hm => h m (List.mem_cons_of_mem _ hm))
    have h2 := h n List.mem_cons_self
    have h3 := num7_len (n := n.toNat) (by omega)
    simp only [nums, List.flatMap_cons, List.length_append, List.length_cons] at h1 ⊢
    omega
theorem nums_snoc (l : List Int) (n : Int) : nums (l ++ [n]) = nums l ++ num7 n.toNat := by simp [nums]
theorem refPut_eq (b : List (BitVec 8)) {l : List Int} (hb : b.length ≤ 1000000) (hl : okN l) : R02_Put b l = some (b ++ nums l) := by
  simp only [R02_Put]
  rw [app_eq (by simp; omega)]
  simp only [List.nil_append, Option.bind_some]
  have h := loopO_up (body := fun s => R02_Put_b0 l s.1 s.2) (fun i => (b ++ nums (l.take i), (i : Int))) l.length (x := b ++ nums l) (fun i hi => by
    obtain ⟨hn0, hn1⟩ := hl.2 _ (List.getElem_mem hi)
    have hn : R02_num l[i] = some (num7 l[i].toNat) := by
      have := refnum_eq (n := l[i].toNat) (by omega)
      rwa [Int.toNat_of_nonneg hn0] at this
    have h1 := nums_len (l := l.take i) (fun m hm => hl.2 m (List.mem_of_mem_take hm))
    have h2 := num7_len (n := l[i].toNat) (by omega)
    have h3 := hl.1
    simp only [List.length_take] at h1
    simp only [R02_Put_b0, lt_eq, ix_nat hi, Option.bind_some, hn]
    rw [if_pos (by simpa using hi), app_eq (by simp only [List.length_append]; omega), w64_nat (by omega)]
    simp only [Option.bind_some]
    rw [List.take_succ_eq_append_getElem hi, nums_snoc, List.append_assoc]) (by simp [R02_Put_b0, lt_eq])
  simp only [R02_Put_l0]
  have h0 : b ++ nums (l.take 0) = b := by simp [nums]
  rw [h0] at h
  rw [show ((0 : Nat) : Int) = 0 from rfl] at h
  rw [h]; rfl
theorem okN_one {n : Nat} (h : n < 9223372036854775808) : okN [(n : Int)] := ⟨by simp, fun m hm => by simp at hm; omega⟩
theorem refBytes_eq (b t : List (BitVec 8)) (hb : b.length ≤ 1000000) (ht : t.length ≤ 1000000) : R02_Bytes b t = some (b ++ num7 t.length ++ t) := by
  have h2 := num7_len (n := t.length) (by omega)
  simp only [R02_Bytes, lt_eq, refPut_eq b hb (okN_one (n := t.length) (by omega)), Option.bind_some, nums, List.flatMap_cons, List.flatMap_nil, List.append_nil, Int.toNat_natCast]
  rw [app_eq (by simp only [List.length_append]; omega)]; rfl
theorem shr35 {n : Nat} : shr64 (n : Int) 35 = ((n / 34359738368 : Nat) : Int) := by rw [shr64_nat (by omega)]
theorem octLen_n {n : Nat} (h : n < 9223372036854775808) : ∀ k, octets_Len_n (k + 3) (n : Int) = some (nlen n : Int) := by
  have hs : ∀ (rec : Int → Option Int) {n : Nat}, n < 34359738368 → octets_Len_F rec (n : Int) = some (nlen n : Int) := by
    intro rec n hn
    simp only [octets_Len_F, lt_eq]
    rw [if_neg (by rw [decide_eq_false (by omega)]; simp)]
    by_cases h4 : 268435456 ≤ n
    · rw [if_pos (decide_eq_true (by omega)), nlen_ge (by omega), nlen_ge (by omega), nlen_ge (by omega), nlen_ge (by omega), nlen_lt (by omega)]; rfl
    rw [if_neg (by rw [decide_eq_false (by omega)]; simp)]
    by_cases h3 : 2097152 ≤ n
    · rw [if_pos (decide_eq_true (by omega)), nlen_ge (by omega), nlen_ge (by omega), nlen_ge (by omega), nlen_lt (by omega)]; rfl
    rw [if_neg (by rw [decide_eq_false (by omega)]; simp)]
    by_cases h2 : 16384 ≤ n
    · rw [if_pos (decide_eq_true (by omega)), nlen_ge (by omega), nlen_ge (by omega), nlen_lt (by omega)]; rfl
    rw [if_neg (by rw [decide_eq_false (by omega)]; simp)]
    by_cases h1 : 128 ≤ n
    · rw [if_pos (decide_eq_true (by omega)), nlen_ge (by omega), nlen_lt (by omega)]; rfl
    rw [if_neg (by rw [decide_eq_false (by omega)]; simp), nlen_lt (by omega)]; rfl
  intro k
  by_cases hn : n < 34359738368
  · exact hs (octets_Len_n (k + 2)) hn
  · show octets_Len_F (octets_Len_n (k + 2)) (n : Int) = _
    simp only [octets_Len_F, lt_eq]
    rw [if_pos (decide_eq_true (by omega)), shr35]
    have : octets_Len_n (k + 2) ((n / 34359738368 : Nat) : Int) = _ := hs (octets_Len_n (k + 1)) (by omega)
    rw [this, Option.bind_some]
    have hq : nlen n = nlen (n / 34359738368) + 5 := by
      rw [nlen_ge (n := n) (by omega), nlen_ge (n := n / 128) (by omega), nlen_ge (n := n / 128 / 128) (by omega), nlen_ge (n := n / 128 / 128 / 128) (by omega), nlen_ge (n := n / 128 / 128 / 128 / 128) (by omega)]
      rw [show n / 128 / 128 / 128 / 128 / 128 = n / 34359738368 by omega]
    have hb : nlen (n / 34359738368) ≤ 10 := by
      have : n / 34359738368 < 268435456 := by omega
      generalize n / 34359738368 = m at this
      rcases Nat.lt_or_ge m 128 with h1 | h1
      · rw [nlen_lt h1]; omega
      rw [nlen_ge h1]
      rcases Nat.lt_or_ge (m / 128) 128 with h2 | h2
      · rw [nlen_lt h2]; omega
      rw [nlen_ge h2]
      rcases Nat.lt_or_ge (m / 128 / 128) 128 with h3 | h3
      · rw [nlen_lt h3]; omega
      rw [nlen_ge h3, nlen_lt (by omega)]; omega
    rw [w64_eq (by omega) (by omega), hq]
    congr 1; omega
theorem octLen_eq {n : Nat} (h : n < 9223372036854775808) : octets_Len (n : Int) = some (nlen n : Int) := octLen_n h 999997
theorem key_eq (x : List (BitVec 8)) : octets_Key x = R02_Key x := by
  simp only [octets_Key, R02_Key, lt_eq]
  cases x with
  | nil => rfl
  | cons a x => rw [if_neg (show ¬ ((((a :: x).length : Int) == 0) = true) by simp; omega), if_neg (show ¬ ((a :: x == []) = true) by simp)]
def ckK (k : List (BitVec 8)) : Int := if k.length = 0 then 1 else if 40 < k.length then 3 else 0
def ckE (x : aEn) : Int :=
  if ckK x.Key ≠ 0 then ckK x.Key else
  if (x.Version < 1 ∨ x.Version > 1099511627776) ∨ (x.AsOf < x.Version ∨ x.AsOf > 1099511627776) ∨ (x.Ends < 0 ∨ x.Ends > 1099511627776) then 2 else
  if 4096 < x.Value.length then 3 else 0
theorem octKey_eq (k : List (BitVec 8)) : octets_Key k = some (ckK k) := by
  unfold octets_Key ckK
  simp only [lt_eq]
  by_cases h0 : k.length = 0
  · rw [if_pos h0, if_pos (by simp [h0])]
  · rw [if_neg h0, if_neg (by simp; intro h; subst h; simp at h0)]
    by_cases h1 : 40 < k.length
    · rw [if_pos h1, if_pos (decide_eq_true (by omega))]
    · rw [if_neg h1, if_neg (by rw [decide_eq_false (by omega)]; simp)]
theorem refKey_eq (k : List (BitVec 8)) : R02_Key k = some (ckK k) := by rw [← key_eq, octKey_eq]
theorem new_eq (op : List (BitVec 8)) (n c : Int) (hc : c ≠ 0) : trouble_New op n c = some (.fault op n c .nil) := by
  simp [trouble_New, lt_eq, hc]
theorem wrap_eq (op : List (BitVec 8)) (n : Int) (e : Err) (he : e.isNil = false) : trouble_Wrap op n e = some (.fault op n 0 e) := by
  simp [trouble_Wrap, lt_eq, he]
theorem num_ck (op : List (BitVec 8)) (n low : Int) (e : Err) : ∃ e', item_Check_1_c op n low e = some e' ∧ (e.isNil = false → e' = e) ∧ (e = .nil → (n < low ∨ n > 1099511627776) → ∃ o a, e' = .fault o a 2 .nil) ∧ (e = .nil → ¬ (n < low ∨ n > 1099511627776) → e' = .nil) := by
  unfold item_Check_1_c
  simp only [lt_eq]
  cases e with
  | fault o a c u => exact ⟨_, rfl, fun _ => rfl, (fun h => by cases h), (fun h => by cases h)⟩
  | nil =>
    simp only [Err.isNil, if_true]
    by_cases h1 : n < low
    · rw [if_pos (decide_eq_true h1)]
      exact ⟨_, rfl, (fun h => by cases h), fun _ _ => ⟨_, _, rfl⟩, fun _ h => absurd (.inl h1) h⟩
    · rw [if_neg (by rw [decide_eq_false h1]; simp)]
      by_cases h2 : n > 1099511627776
      · rw [decide_eq_true h2]
        exact ⟨_, rfl, (fun h => by cases h), fun _ _ => ⟨_, _, rfl⟩, fun _ h => absurd (.inr h2) h⟩
      · rw [decide_eq_false h2]
        exact ⟨_, rfl, (fun h => by cases h), fun _ h => absurd h (by omega), fun _ _ => rfl⟩
theorem check_eq (x : aEn) : ∃ e, item_Check x = some e ∧ codeOf e = ckE x ∧ e.isNil = decide (ckE x = 0) := by
  unfold item_Check ckE
  rw [octKey_eq]
  simp only [Option.bind_some, lt_eq]
  by_cases hk : ckK x.Key = 0
  · rw [if_neg (show ¬ ((ckK x.Key != 0) = true) by simpa using hk), if_neg (show ¬ (ckK x.Key ≠ 0) by simpa using hk)]
    obtain ⟨e1, a1, a2, a3, a4⟩ := num_ck [118#8, 101#8, 114#8, 115#8, 105#8, 111#8, 110#8] x.Version 1 .nil
    obtain ⟨e2, b1, b2, b3, b4⟩ := num_ck [97#8, 115#8, 111#8, 102#8] x.AsOf x.Version e1
    obtain ⟨e3, c1, c2, c3, c4⟩ := num_ck [101#8, 110#8, 100#8, 115#8] x.Ends 0 e2
    simp only [a1, b1, c1, Option.bind_some]
    by_cases h : (x.Version < 1 ∨ x.Version > 1099511627776) ∨ (x.AsOf < x.Version ∨ x.AsOf > 1099511627776) ∨ (x.Ends < 0 ∨ x.Ends > 1099511627776)
    · rw [if_pos h]
      have key : ∃ o a, e3 = .fault o a 2 .nil := by
        by_cases h1 : x.Version < 1 ∨ x.Version > 1099511627776
        · obtain ⟨o, a, rfl⟩ := a3 rfl h1
          have := b2 rfl; subst this
          have := c2 rfl; subst this
          exact ⟨o, a, rfl⟩
        · have := a4 rfl h1; subst this
          by_cases h2 : x.AsOf < x.Version ∨ x.AsOf > 1099511627776
          · obtain ⟨o, a, rfl⟩ := b3 rfl h2
            have := c2 rfl; subst this
            exact ⟨o, a, rfl⟩
          · have := b4 rfl h2; subst this
            have h3 : x.Ends < 0 ∨ x.Ends > 1099511627776 := by
              rcases h with h | h | h
              · exact absurd h h1
              · exact absurd h h2
              · exact h
            exact c3 rfl h3
      obtain ⟨o, a, rfl⟩ := key
      exact ⟨_, rfl, rfl, rfl⟩
    · rw [if_neg h]
      simp only [not_or] at h
      have := a4 rfl (by omega); subst this
      have := b4 rfl (by omega); subst this
      have := c4 rfl (by omega); subst this
      simp only [Err.isNil, if_true, Option.bind_some]
      by_cases hv : 4096 < x.Value.length
      · rw [if_pos (decide_eq_true (by omega)), if_pos hv, new_eq _ _ _ (by decide)]
        exact ⟨_, rfl, rfl, rfl⟩
      · rw [if_neg (by rw [decide_eq_false (by omega)]; simp), if_neg hv]
        exact ⟨_, rfl, rfl, rfl⟩
  · rw [if_pos (by simpa using hk), if_pos hk, new_eq _ _ _ hk]
    exact ⟨_, rfl, by simp [codeOf, hk], by simp [Err.isNil, hk]⟩
theorem refCheck_eq (x : aEn) : R06_Check x = some (ckE x) := by
  unfold R06_Check ckE
  rw [refKey_eq]
  simp only [Option.bind_some, lt_eq]
  by_cases hk : ckK x.Key = 0
  · rw [if_neg (show ¬ ((ckK x.Key != 0) = true) by simpa using hk), if_neg (show ¬ (ckK x.Key ≠ 0) by simpa using hk)]
    have hb : (if decide (x.Version < 1) = true then some true else if decide (x.Version > 1099511627776) = true then some true else if decide (x.AsOf < x.Version) = true then some true else if decide (x.AsOf > 1099511627776) = true then some true else if decide (x.Ends < 0) = true then some true else some (decide (x.Ends > 1099511627776))) = some (decide ((x.Version < 1 ∨ x.Version > 1099511627776) ∨ (x.AsOf < x.Version ∨ x.AsOf > 1099511627776) ∨ (x.Ends < 0 ∨ x.Ends > 1099511627776))) := by
      by_cases h1 : x.Version < 1
      · simp [h1]
      by_cases h2 : x.Version > 1099511627776
      · simp [h1, h2]
      by_cases h3 : x.AsOf < x.Version
      · simp [h1, h2, h3]
      by_cases h4 : x.AsOf > 1099511627776
      · simp [h1, h2, h3, h4]
      by_cases h5 : x.Ends < 0
      · simp [h1, h2, h3, h4, h5]
      · simp [h1, h2, h3, h4, h5]
    rw [hb]
    simp only [Option.bind_some, decide_eq_true_eq]
    split
    · rfl
    · by_cases hv : 4096 < x.Value.length
      · rw [if_pos (by omega), if_pos hv]
      · rw [if_neg (by omega), if_neg hv]
  · rw [if_pos (show (ckK x.Key != 0) = true by simpa using hk), if_pos (show ckK x.Key ≠ 0 from hk)]
theorem ck_ok {x : aEn} (h : ckE x = 0) : 1 ≤ x.Key.length ∧ x.Key.length ≤ 40 ∧ 1 ≤ x.Version ∧ x.Version ≤ 1099511627776 ∧ x.Version ≤ x.AsOf ∧ x.AsOf ≤ 1099511627776 ∧ 0 ≤ x.Ends ∧ x.Ends ≤ 1099511627776 ∧ x.Value.length ≤ 4096 := by
  unfold ckE ckK at h
  by_cases h1 : x.Key.length = 0
  · simp [h1] at h
  by_cases h2 : 40 < x.Key.length
  · simp [h1, h2] at h
  simp only [if_neg h1, if_neg h2] at h
  rw [if_neg (by simp)] at h
  by_cases h3 : (x.Version < 1 ∨ x.Version > 1099511627776) ∨ (x.AsOf < x.Version ∨ x.AsOf > 1099511627776) ∨ (x.Ends < 0 ∨ x.Ends > 1099511627776)
  · rw [if_pos h3] at h; cases h
  rw [if_neg h3] at h
  by_cases h4 : 4096 < x.Value.length
  · rw [if_pos h4] at h; cases h
  omega
def encE (x : aEn) : List (BitVec 8) := num7 x.Key.length ++ (x.Key ++ (num7 x.Version.toNat ++ (num7 x.AsOf.toNat ++ (num7 x.Ends.toNat ++ (num7 x.Value.length ++ x.Value)))))
theorem okN_ck {x : aEn} (h : ckE x = 0) : okN [x.Version, x.AsOf, x.Ends] := by
  obtain ⟨h1, h2, h3, h4, h5, h6, h7, h8, h9⟩ := ck_ok h
  refine ⟨by simp, fun n hn => ?_⟩
  simp only [List.mem_cons, List.not_mem_nil, or_false] at hn
  rcases hn with rfl | rfl | rfl <;> omega
theorem refPutE_eq {b : List (BitVec 8)} {x : aEn} (hb : b.length ≤ 900000) (h : ckE x = 0) : R06_Put b x = some (b ++ encE x) := by
  obtain ⟨h1, h2, h3, h4, h5, h6, h7, h8, h9⟩ := ck_ok h
  have a1 := num7_len (n := x.Key.length) (by omega)
  have a2 := num7_len (n := x.Version.toNat) (by omega)
  have a3 := num7_len (n := x.AsOf.toNat) (by omega)
  have a4 := num7_len (n := x.Ends.toNat) (by omega)
  unfold R06_Put
  rw [show toBytes x.Key = some x.Key by unfold toBytes; rw [if_pos (by omega)]]
  simp only [Option.bind_some, lt_eq]
  rw [refBytes_eq _ _ (by omega) (by omega)]
  simp only [Option.bind_some]
  rw [refPut_eq _ (by simp only [List.length_append]; omega) (okN_ck h)]
  simp only [Option.bind_some]
  rw [refBytes_eq _ _ (by simp only [List.length_append, nums, List.flatMap_cons, List.flatMap_nil, List.length_nil]; omega) (by omega)]
  simp [encE, nums]
theorem nlen_num7 : ∀ (k n : Nat), n < 128 ^ k → (num7 n).length = nlen n
  | 0, n, h => by
    have : n = 0 := by simpa using h
    subst this
    rw [num7_small (by omega), nlen_lt (by omega)]; rfl
  | k + 1, n, h => by
    by_cases h1 : n < 128
    · rw [num7_small h1, nlen_lt h1]; rfl
    · rw [nlen_ge (by omega), ← nlen_num7 k (n / 128) (by rw [Nat.div_lt_iff_lt_mul (by decide)]; rw [Nat.pow_succ] at h; exact h)]
      simp only [num7, List.length_append, List.length_cons, List.length_nil]
      rw [pre_pos (m := n / 128) (by omega)]
      simp
theorem nlen_eq {n : Nat} (h : n < 9223372036854775808) : (num7 n).length = nlen n := nlen_num7 9 n (by omega)
theorem size_eq6 {x : aEn} (h : ckE x = 0) : item_Size x = some ((encE x).length : Int) := by
  obtain ⟨h1, h2, h3, h4, h5, h6, h7, h8, h9⟩ := ck_ok h
  have a1 := num7_len (n := x.Key.length) (by omega)
  have a2 := num7_len (n := x.Version.toNat) (by omega)
  have a3 := num7_len (n := x.AsOf.toNat) (by omega)
  have a4 := num7_len (n := x.Ends.toNat) (by omega)
  have a5 := num7_len (n := x.Value.length) (by omega)
  have e2 : x.Version = (x.Version.toNat : Int) := by omega
  have e3 : x.AsOf = (x.AsOf.toNat : Int) := by omega
  have e4 : x.Ends = (x.Ends.toNat : Int) := by omega
  have hl : (encE x).length = (num7 x.Key.length).length + (x.Key.length + ((num7 x.Version.toNat).length + ((num7 x.AsOf.toNat).length + ((num7 x.Ends.toNat).length + ((num7 x.Value.length).length + x.Value.length))))) := by simp [encE]
  rw [hl]
  rw [nlen_eq (by omega), nlen_eq (by omega), nlen_eq (by omega), nlen_eq (by omega), nlen_eq (by omega)] at *
  unfold item_Size
  rw [e2, e3, e4]
  simp only [lt_eq, octLen_eq (n := x.Key.length) (by omega), octLen_eq (n := x.Value.length) (by omega), octLen_eq (n := x.Version.toNat) (by omega), octLen_eq (n := x.AsOf.toNat) (by omega), octLen_eq (n := x.Ends.toNat) (by omega), Option.bind_some, Int.toNat_natCast]
  generalize nlen x.Key.length = n1 at *
  generalize nlen x.Value.length = n2 at *
  generalize nlen x.Version.toNat = n3 at *
  generalize nlen x.AsOf.toNat = n4 at *
  generalize nlen x.Ends.toNat = n5 at *
  rw [w64_eq (n := (n1 : Int) + (x.Key.length : Int)) (by omega) (by omega), w64_eq (n := (n1 : Int) + (x.Key.length : Int) + (n2 : Int)) (by omega) (by omega), w64_eq (n := (n1 : Int) + (x.Key.length : Int) + (n2 : Int) + (x.Value.length : Int)) (by omega) (by omega)]
  rw [w64_eq (n := (n1 : Int) + (x.Key.length : Int) + (n2 : Int) + (x.Value.length : Int) + (n3 : Int)) (by omega) (by omega), w64_eq (n := (n1 : Int) + (x.Key.length : Int) + (n2 : Int) + (x.Value.length : Int) + (n3 : Int) + (n4 : Int)) (by omega) (by omega), w64_eq (n := (n1 : Int) + (x.Key.length : Int) + (n2 : Int) + (x.Value.length : Int) + (n3 : Int) + (n4 : Int) + (n5 : Int)) (by omega) (by omega)]
  congr 1
  omega
theorem refSize_eq6 {x : aEn} (h : ckE x = 0) : R06_Size x = some ((encE x).length : Int) := by
  unfold R06_Size
  rw [refPutE_eq (b := []) (by simp) h]
  simp [lt_eq]
def zeroE : aEn := ⟨[], 0, 0, 0, []⟩
theorem same_eq6 (x y : aEn) (hx : x.Value.length < 9223372036854775807) : R06_Same x y = some (decide (x = y)) := by
  obtain ⟨k, v, a, n, w⟩ := x
  obtain ⟨k', v', a', n', w'⟩ := y
  simp only at hx
  simp only [R06_Same, lt_eq, same_eq _ _ hx, Option.bind_some, beq_iff_eq, aEn.mk.injEq]
  by_cases h1 : k = k'
  · by_cases h2 : v = v'
    · by_cases h3 : a = a'
      · by_cases h4 : n = n'
        · simp [h1, h2, h3, h4]
        · simp [h1, h2, h3, h4]
      · simp [h1, h2, h3]
    · simp [h1, h2]
  · simp [h1]
theorem sameAll_refl {l : List aEn} (hl : l.length ≤ 1000000) (h : ∀ x ∈ l, x.Value.length < 9223372036854775807) : R06_SameAll l l = some true := by
  have k := loopO_up (body := fun s => R06_SameAll_b0 l l s) (fun i : Nat => (i : Int)) l.length (x := .inl ()) (fun i hi => by
    simp only [R06_SameAll_b0, lt_eq]
    rw [if_pos (decide_eq_true (by omega)), ix_nat hi]
    simp only [Option.bind_some]
    rw [same_eq6 _ _ (h _ (List.getElem_mem hi))]
    simp only [Option.bind_some, decide_true, Bool.not_true, Bool.false_eq_true, if_false]
    rw [w64_nat (by omega)]) (by
    simp only [R06_SameAll_b0, lt_eq]
    rw [if_neg (by rw [decide_eq_false (by omega)]; simp)])
  have k' : R06_SameAll_l0 l l 0 = some (.inl ()) := k
  simp only [R06_SameAll, lt_eq, bne_self_eq_false, Bool.false_eq_true, if_false, k', Option.bind_some, Sum.elim_inl]
theorem copy_eq6 {x : aEn} (h : x.Value.length ≤ 100000) : item_Copy x = some x := by
  unfold item_Copy
  rw [app_eq (by simp; omega)]
  simp [lt_eq]
theorem light_l {l : List aEn} (hl : l.length ≤ 40) : ∀ (k i : Nat) (n : Nat), k + i = l.length → n ≤ 12000 → ∃ y, L06_Light_l0 l ((n : Int), (i : Int)) = some y ∧ (y = .inr 1 ∨ (y = .inl () ∧ ∀ j, i ≤ j → (h : j < l.length) → l[j].Key.length ≤ 200 ∧ l[j].Value.length ≤ 5000))
  | 0, i, n, hk, hn => by
    refine ⟨.inl (), loopO_out ?_, .inr ⟨rfl, fun j h1 h2 => by omega⟩⟩
    simp only [L06_Light_b0, lt_eq]
    rw [if_neg (by rw [decide_eq_false (by omega)]; simp)]
  | k + 1, i, n, hk, hn => by
    have hi : i < l.length := by omega
    by_cases h1 : l[i].Key.length > 200
    · refine ⟨.inr 1, loopO_out ?_, .inl rfl⟩
      simp only [L06_Light_b0, lt_eq, ix_nat hi, Option.bind_some]
      rw [if_pos (decide_eq_true (by omega)), if_pos (decide_eq_true (by omega))]
      rfl
    · by_cases h2 : l[i].Value.length > 5000
      · refine ⟨.inr 1, loopO_out ?_, .inl rfl⟩
        simp only [L06_Light_b0, lt_eq, ix_nat hi, Option.bind_some]
        rw [if_pos (decide_eq_true (by omega)), if_neg (by rw [decide_eq_false (by omega)]; simp), decide_eq_true (by omega)]
        rfl
      · have hw : w64 ((n : Int) + (l[i].Value.length : Int)) = ((n + l[i].Value.length : Nat) : Int) := by rw [w64_eq (by omega) (by omega)]; omega
        by_cases h3 : n + l[i].Value.length > 12000
        · refine ⟨.inr 1, loopO_out ?_, .inl rfl⟩
          simp only [L06_Light_b0, lt_eq, ix_nat hi, Option.bind_some]
          rw [if_pos (decide_eq_true (by omega)), if_neg (by rw [decide_eq_false (by omega)]; simp), decide_eq_false (by omega)]
          simp only [Option.bind_some, Bool.false_eq_true, if_false, hw]
          rw [if_pos (decide_eq_true (by omega))]
        · obtain ⟨y, i1, i2⟩ := light_l hl k (i + 1) (n + l[i].Value.length) (by omega) (by omega)
          have e : L06_Light_l0 l ((n : Int), (i : Int)) = L06_Light_l0 l (((n + l[i].Value.length : Nat) : Int), ((i + 1 : Nat) : Int)) := by
            refine loopO_in (body := fun s => L06_Light_b0 l s.1 s.2) ?_
            simp only [L06_Light_b0, lt_eq, ix_nat hi, Option.bind_some]
            rw [if_pos (decide_eq_true (by omega)), if_neg (by rw [decide_eq_false (by omega)]; simp), decide_eq_false (by omega)]
            simp only [Option.bind_some, Bool.false_eq_true, if_false, hw]
            rw [if_neg (by rw [decide_eq_false (by omega)]; simp), w64_nat (by omega)]
          refine ⟨y, by rw [e]; exact i1, ?_⟩
          rcases i2 with rfl | ⟨rfl, i3⟩
          · exact .inl rfl
          · refine .inr ⟨rfl, fun j h4 h5 => ?_⟩
            by_cases hj : j = i
            · subst hj; omega
            · exact i3 j (by omega) h5
theorem light_eq (l : List aEn) : L06_Light l = some 1 ∨ (L06_Light l = some 0 ∧ l.length ≤ 40 ∧ ∀ x ∈ l, x.Key.length ≤ 200 ∧ x.Value.length ≤ 5000) := by
  unfold L06_Light
  simp only [lt_eq]
  by_cases h : l.length > 40
  · left; rw [if_pos (decide_eq_true (by omega))]
  · rw [if_neg (by rw [decide_eq_false (by omega)]; simp)]
    obtain ⟨y, h1, h2⟩ := light_l (l := l) (by omega) l.length 0 0 (by omega) (by omega)
    have h1' : L06_Light_l0 l (0, 0) = some y := h1
    rw [h1']
    rcases h2 with rfl | ⟨rfl, h3⟩
    · exact .inl rfl
    · refine .inr ⟨rfl, by omega, fun x hx => ?_⟩
      obtain ⟨j, hj, rfl⟩ := List.mem_iff_getElem.1 hx
      exact h3 j (by omega) hj
def sizeI (c : Int) : Int := if c < 0 ∨ 9 ≤ c then 0 else 32 * 2 ^ c.toNat
theorem upto9 {c : Int} (h : ¬ (c < 0 ∨ 9 ≤ c)) : ∃ i : Fin 9, c = (i.val : Int) := ⟨⟨c.toNat, by omega⟩, by simp; omega⟩
theorem size_eq (c : Int) : slab_Size c = some (sizeI c) := by
  unfold slab_Size
  simp only [lt_eq]
  by_cases h : c < 0 ∨ 9 ≤ c
  · have : sizeI c = 0 := by unfold sizeI; rw [if_pos h]
    rw [this]
    by_cases h0 : c < 0
    · rw [if_pos (decide_eq_true h0)]; rfl
    · rw [if_neg (by rw [decide_eq_false h0]; simp), decide_eq_true (show c ≥ 9 by omega)]; rfl
  · rw [if_neg (by rw [decide_eq_false (by omega)]; simp), decide_eq_false (show ¬ c ≥ 9 by omega)]
    simp only [Option.bind_some]
    rw [if_neg (by simp)]
    obtain ⟨i, rfl⟩ := upto9 h
    revert i
    decide
theorem refSize_eq (c : Int) : R08_Size c = some (sizeI c) := by
  unfold R08_Size
  simp only [lt_eq]
  by_cases h : c < 0 ∨ 9 ≤ c
  · have : sizeI c = 0 := by unfold sizeI; rw [if_pos h]
    rw [this]
    by_cases h0 : c < 0
    · rw [if_pos (decide_eq_true h0)]; rfl
    · rw [if_neg (by rw [decide_eq_false h0]; simp), decide_eq_true (show c > 8 by omega)]; rfl
  · rw [if_neg (by rw [decide_eq_false (by omega)]; simp), decide_eq_false (show ¬ c > 8 by omega)]
    simp only [Option.bind_some]
    rw [if_neg (by simp)]
    have hp : ∀ i : Nat, i < 9 → (2 : Int) ^ i ≤ 256 ∧ 0 ≤ (2 : Int) ^ i := by
      intro i hi
      have : ∀ i : Fin 9, (2 : Int) ^ i.val ≤ 256 ∧ 0 ≤ (2 : Int) ^ i.val := by decide
      exact this ⟨i, hi⟩
    have k := loopO_up (body := fun s => R08_Size_b0 c s.1 s.2) (fun i : Nat => (32 * (2 : Int) ^ i, (i : Int))) c.toNat (x := sizeI c) (fun i hi => by
      obtain ⟨h1, h2⟩ := hp i (by omega)
      simp only [R08_Size_b0, lt_eq]
      rw [if_pos (decide_eq_true (by omega)), w64_eq (by omega) (by omega), w64_nat (by omega), Int.pow_succ]
      rw [Int.mul_assoc]) (by
      simp only [R08_Size_b0, lt_eq]
      rw [if_neg (by rw [decide_eq_false (by omega)]; simp)]
      unfold sizeI; rw [if_neg h])
    simp only [Int.pow_zero, Int.mul_one, show ((0 : Nat) : Int) = 0 from rfl] at k
    simp only [R08_Size_l0, k, Option.bind_some]
def cls (n : Int) : Int := if n < 0 then -1 else if n ≤ 32 then 0 else if n ≤ 64 then 1 else if n ≤ 128 then 2 else if n ≤ 256 then 3 else if n ≤ 512 then 4 else if n ≤ 1024 then 5 else if n ≤ 2048 then 6 else if n ≤ 4096 then 7 else if n ≤ 8192 then 8 else -1
def clsO (n : Int) : Unit ⊕ Int := if n ≤ 32 then .inr 0 else if n ≤ 64 then .inr 1 else if n ≤ 128 then .inr 2 else if n ≤ 256 then .inr 3 else if n ≤ 512 then .inr 4 else if n ≤ 1024 then .inr 5 else if n ≤ 2048 then .inr 6 else if n ≤ 4096 then .inr 7 else if n ≤ 8192 then .inr 8 else .inl ()
theorem clsO_cls {n : Int} (h : 0 ≤ n) : Sum.elim (fun _ => some (-1)) (fun y => some y) (clsO n) = some (cls n) := by
  unfold clsO cls
  rw [if_neg (show ¬ n < 0 by omega)]
  split
  · rfl
  split
  · rfl
  split
  · rfl
  split
  · rfl
  split
  · rfl
  split
  · rfl
  split
  · rfl
  split
  · rfl
  split <;> rfl
theorem unroll9 {B : Int → Option (Int ⊕ (Unit ⊕ Int))} {n : Int} (hb : ∀ c : Int, 0 ≤ c → c < 9 → B c = some (if n ≤ sizeI c then .inr (.inr c) else .inl (c + 1))) (he : B 9 = some (.inr (.inl ()))) : loopO B 0 = some (clsO n) := by
  have st : ∀ c : Int, 0 ≤ c → c < 9 → loopO B c = if n ≤ sizeI c then some (.inr c) else loopO B (c + 1) := by
    intro c h1 h2
    have := hb c h1 h2
    split
    · rename_i h; rw [if_pos h] at this; exact loopO_out this
    · rename_i h; rw [if_neg h] at this; exact loopO_in this
  rw [st 0 (by decide) (by decide), st (0 + 1) (by decide) (by decide), st (0 + 1 + 1) (by decide) (by decide), st (0 + 1 + 1 + 1) (by decide) (by decide), st (0 + 1 + 1 + 1 + 1) (by decide) (by decide), st (0 + 1 + 1 + 1 + 1 + 1) (by decide) (by decide), st (0 + 1 + 1 + 1 + 1 + 1 + 1) (by decide) (by decide), st (0 + 1 + 1 + 1 + 1 + 1 + 1 + 1) (by decide) (by decide), st (0 + 1 + 1 + 1 + 1 + 1 + 1 + 1 + 1) (by decide) (by decide)]
  rw [show (0 + 1 + 1 + 1 + 1 + 1 + 1 + 1 + 1 + 1 : Int) = 9 by decide, loopO_out he]
  rw [show sizeI 0 = 32 by decide, show sizeI (0 + 1) = 64 by decide, show sizeI (0 + 1 + 1) = 128 by decide, show sizeI (0 + 1 + 1 + 1) = 256 by decide, show sizeI (0 + 1 + 1 + 1 + 1) = 512 by decide, show sizeI (0 + 1 + 1 + 1 + 1 + 1) = 1024 by decide, show sizeI (0 + 1 + 1 + 1 + 1 + 1 + 1) = 2048 by decide, show sizeI (0 + 1 + 1 + 1 + 1 + 1 + 1 + 1) = 4096 by decide, show sizeI (0 + 1 + 1 + 1 + 1 + 1 + 1 + 1 + 1) = 8192 by decide]
  unfold clsO
  split
  · rfl
  split
  · rfl
  split
  · rfl
  split
  · rfl
  split
  · rfl
  split
  · rfl
  split
  · rfl
  split
  · rfl
  split <;> rfl
theorem class_eq (n : Int) : slab_Class n = some (cls n) := by
  unfold slab_Class
  simp only [lt_eq]
  by_cases h : n < 0
  · rw [if_pos (decide_eq_true h)]; unfold cls; rw [if_pos h]
  · rw [if_neg (by rw [decide_eq_false h]; simp)]
    have k := unroll9 (B := fun s => slab_Class_b0 n s) (n := n) (fun c h1 h2 => by
      simp only [slab_Class_b0, lt_eq, size_eq, Option.bind_some]
      rw [if_pos (decide_eq_true h2)]
      by_cases hc : n ≤ sizeI c
      · rw [if_pos (decide_eq_true hc), if_pos hc]
      · rw [if_neg (by rw [decide_eq_false hc]; simp), if_neg hc, w64_eq (by omega) (by omega)]) (by simp [slab_Class_b0, lt_eq])
    simp only [slab_Class_l0, k, Option.bind_some]
    exact clsO_cls (by omega)
theorem refClass_eq (n : Int) : R08_Class n = some (cls n) := by
  unfold R08_Class
  by_cases h : n < 0
  · have k : R08_Class_l0 n 0 = some (.inl ()) := loopO_out (by
      simp only [R08_Class_b0, lt_eq]
      rw [if_pos (by rfl), decide_eq_false (show ¬ n ≥ 0 by omega)]; rfl)
    rw [k]; unfold cls; rw [if_pos h]; rfl
  · have k := unroll9 (B := fun s => R08_Class_b0 n s) (n := n) (fun c h1 h2 => by
      simp only [R08_Class_b0, lt_eq, refSize_eq, Option.bind_some]
      rw [if_pos (decide_eq_true (show c ≤ 8 by omega)), decide_eq_true (show n ≥ 0 by omega)]
      simp only [Option.bind_some, if_true]
      by_cases hc : n ≤ sizeI c
      · rw [if_pos (decide_eq_true hc), if_pos hc]
      · rw [if_neg (by rw [decide_eq_false hc]; simp), if_neg hc, w64_eq (by omega) (by omega)]) (by
      simp only [R08_Class_b0, lt_eq]
      rw [if_neg (by decide)]; rfl)
    simp only [R08_Class_l0, k, Option.bind_some]
    exact clsO_cls (by omega)
def part (v : Vector Int 9) : Nat → Int
  | 0 => 0
  | i + 1 => part v i + v.toList.getD i 0 * sizeI i
theorem getD_set (v : Vector Int 9) (i j : Nat) (hi : i < 9) (y : Int) : (v.set i y).toList.getD j 0 = if i = j then y else v.toList.getD j 0 := by
  rw [Vector.toList_set, List.getD_eq_getElem?_getD, List.getElem?_set, List.getD_eq_getElem?_getD]
  split
  · rename_i h; subst h; simp [hi]
  · rfl
theorem part_set (v : Vector Int 9) (i : Nat) (hi : i < 9) (y : Int) : ∀ n, part (v.set i y) n = part v n + (if i < n then (y - v.toList.getD i 0) * sizeI i else 0)
  | 0 => by simp [part]
  | n + 1 => by
    simp only [part, part_set v i hi y n, getD_set v i n hi y]
    by_cases h1 : i = n
    · subst h1
      rw [if_neg (by omega), if_pos rfl, if_pos (by omega), Int.sub_mul]; omega
    · rw [if_neg h1]
      by_cases h2 : i < n
      · rw [if_pos h2, if_pos (by omega)]; omega
      · rw [if_neg h2, if_neg (by omega)]; omega
theorem sizeI_nn (c : Int) : 0 ≤ sizeI c := by
  unfold sizeI
  split
  · exact Int.le_refl _
  · have : (0 : Int) ≤ 2 ^ c.toNat := Int.pow_nonneg (by decide)
    omega
theorem part_mono {v : Vector Int 9} (h : ∀ i, 0 ≤ v.toList.getD i 0) : ∀ {i j : Nat}, i ≤ j → part v i ≤ part v j := by
  intro i j hij
  induction hij with
  | refl => exact Int.le_refl _
  | step _ ih =>
    simp only [part]
    rename_i m _
    have := Int.mul_nonneg (h m) (sizeI_nn m)
    omega
structure bok (L : Int) (b : slab_Budget) : Prop where
  lim : b.limit = L
  used : b.used = part b.count 9
  nn : ∀ i, 0 ≤ b.count.toList.getD i 0
  le : b.used ≤ L
theorem ixA9 (v : Vector Int 9) (i : Nat) (hi : i < 9) : ixA 9 v.toList (i : Int) = some (v.toList.getD i 0) := by
  rw [ixA_nat hi (by simp [hi]), List.getD_eq_getElem?_getD]; simp [hi]
theorem chk9 (i : Nat) (hi : i < 9) : chk 9 (i : Int) = some () := by unfold chk; rw [if_pos ⟨by omega, by omega⟩]
theorem updV9 (v : Vector Int 9) (i : Nat) (hi : i < 9) (y : Int) : updV v (i : Int) (fun _ => y) = some (v.set i y) := by
  unfold updV; rw [dif_pos ⟨by omega, by simpa using hi⟩]; rfl
theorem size_i (i : Nat) (hi : i < 9) : 32 ≤ sizeI i ∧ sizeI i ≤ 8192 := by
  have : ∀ i : Fin 9, 32 ≤ sizeI (i.val : Int) ∧ sizeI (i.val : Int) ≤ 8192 := by decide
  exact this ⟨i, hi⟩
theorem one_le {L : Int} {b : slab_Budget} (h : bok L b) (i : Nat) (hi : i < 9) : b.count.toList.getD i 0 * sizeI i ≤ b.used := by
  have h1 := part_mono h.nn (i := i + 1) (j := 9) (by omega)
  have h2 := part_mono h.nn (i := 0) (j := i) (by omega)
  rw [h.used]
  simp only [part] at h1 h2
  simp only [part] at *
  omega
theorem take_ok {L : Int} (hL : L ≤ 1099511627776) {b : slab_Budget} (h : bok L b) (hu : 0 ≤ b.used) (c : Int) : ∃ e b', slab_Budget_Take b c = some (e, b') ∧ bok L b' := by
  unfold slab_Budget_Take
  simp only [size_eq, Option.bind_some, lt_eq]
  by_cases hc : c < 0 ∨ 9 ≤ c
  · have : sizeI c = 0 := by unfold sizeI; rw [if_pos hc]
    rw [this, if_pos (by rfl)]
    exact ⟨_, b, rfl, h⟩
  obtain ⟨⟨i, hi⟩, rfl⟩ := upto9 hc
  simp only
  obtain ⟨s1, s2⟩ := size_i i hi
  rw [if_neg (by simp; omega)]
  have hle := h.le
  have e1 : w64 (b.limit - b.used) = L - b.used := by rw [h.lim, w64_eq (by omega) (by omega)]
  simp only [slab_Budget_Left, lt_eq, e1, Option.bind_some]
  by_cases hf : sizeI i > L - b.used
  · rw [if_pos (decide_eq_true hf)]
    exact ⟨_, b, rfl, h⟩
  · rw [if_neg (by rw [decide_eq_false hf]; simp), chk9 i hi, ixA9 _ i hi]
    have h1 := one_le h i hi
    have h0 := h.nn i
    have h2 : b.count.toList.getD i 0 * 32 ≤ b.count.toList.getD i 0 * sizeI i := Int.mul_le_mul_of_nonneg_left s1 h0
    simp only [Option.bind_some]
    rw [w64_eq (n := b.count.toList.getD i 0 + 1) (by omega) (by omega), w64_eq (n := b.used + sizeI i) (by omega) (by omega), updV9 _ i hi]
    refine ⟨_, _, rfl, h.lim, ?_, fun j => ?_, by simp only; omega⟩
    · simp only
      rw [part_set _ i hi, if_pos hi, h.used, Int.sub_mul, Int.add_mul]; omega
    · simp only
      rw [getD_set _ i j hi]
      split
      · omega
      · exact h.nn j
theorem give_ok {L : Int} (hL : L ≤ 1099511627776) {b : slab_Budget} (h : bok L b) (hu : 0 ≤ b.used) (c : Int) : ∃ e b', slab_Budget_Give b c = some (e, b') ∧ bok L b' := by
  unfold slab_Budget_Give
  simp only [size_eq, Option.bind_some, lt_eq]
  by_cases hc : c < 0 ∨ 9 ≤ c
  · have : sizeI c = 0 := by unfold sizeI; rw [if_pos hc]
    rw [this, if_pos (by rfl)]
    exact ⟨_, b, rfl, h⟩
  obtain ⟨⟨i, hi⟩, rfl⟩ := upto9 hc
  simp only
  obtain ⟨s1, s2⟩ := size_i i hi
  rw [if_neg (by simp; omega), chk9 i hi, ixA9 _ i hi]
  simp only [Option.bind_some]
  have hle := h.le
  have h0 := h.nn i
  by_cases hz : b.count.toList.getD i 0 = 0
  · rw [if_pos (by rw [hz]; rfl)]
    exact ⟨_, b, rfl, h⟩
  · rw [if_neg (by rw [beq_iff_eq]; exact hz)]
    have h1 := one_le h i hi
    have h2 : b.count.toList.getD i 0 * 32 ≤ b.count.toList.getD i 0 * sizeI i := Int.mul_le_mul_of_nonneg_left s1 h0
    rw [w64_eq (n := b.count.toList.getD i 0 - 1) (by omega) (by omega), w64_eq (n := b.used - sizeI i) (by omega) (by omega), updV9 _ i hi]
    refine ⟨_, _, rfl, h.lim, ?_, fun j => ?_, by simp only; omega⟩
    · simp only
      rw [part_set _ i hi, if_pos hi, h.used, Int.sub_mul, Int.sub_mul]; omega
    · simp only
      rw [getD_set _ i j hi]
      split
      · omega
      · exact h.nn j
theorem used_nn {L : Int} {b : slab_Budget} (h : bok L b) : 0 ≤ b.used := by
  rw [h.used]; exact part_mono h.nn (i := 0) (by omega)
def usedL : List Int → Int
  | [] => 0
  | c :: l => sizeI c + usedL l
theorem usedL_app : ∀ (l m : List Int), usedL (l ++ m) = usedL l + usedL m
  | [], m => by simp [usedL]
  | c :: l, m => by simp only [List.cons_append, usedL, usedL_app l m]; omega
theorem usedL_nn : ∀ l : List Int, 0 ≤ usedL l
  | [] => Int.le_refl _
  | c :: l => by have := usedL_nn l; have := sizeI_nn c; simp only [usedL]; omega
theorem usedL_erase : ∀ {l : List Int} {c : Int}, c ∈ l → usedL (l.erase c) = usedL l - sizeI c
  | x :: l, c, h => by
    by_cases he : x = c
    · subst he; simp only [List.erase_cons_head, usedL]; omega
    · have hm : c ∈ l := by
        rcases List.mem_cons.1 h with rfl | h
        · exact absurd rfl he
        · exact h
      rw [List.erase_cons_tail (by simpa using he)]
      simp only [usedL, usedL_erase hm]; omega
structure B8 (L : Int) (b : slab_Budget) (l : List Int) : Prop where
  ok : bok L b
  used : b.used = usedL l
  cnt : ∀ i : Nat, i < 9 → b.count.toList.getD i 0 = ((l.count (i : Int) : Nat) : Int)
  cls : ∀ c ∈ l, 0 ≤ c ∧ c < 9
theorem usedL_perm {l m : List Int} (h : l.Perm m) : usedL l = usedL m := by
  induction h with
  | nil => rfl
  | cons a _ ih => simp only [usedL, ih]
  | swap a b l => simp only [usedL]; omega
  | trans _ _ i j => exact i.trans j
theorem B8.perm {L : Int} {b : slab_Budget} {l m : List Int} (h : B8 L b l) (p : l.Perm m) : B8 L b m :=
  ⟨h.ok, h.used.trans (usedL_perm p), fun i hi => by rw [← p.count_eq]; exact h.cnt i hi, fun c hc => h.cls c (p.mem_iff.2 hc)⟩
theorem B8.le {L : Int} {b : slab_Budget} {l : List Int} (h : B8 L b l) : usedL l ≤ L := by rw [← h.used]; exact h.ok.le
theorem usedL_len {l : List Int} (h : ∀ c ∈ l, 0 ≤ c ∧ c < 9) : 32 * (l.length : Int) ≤ usedL l := by
  induction l with
  | nil => simp [usedL]
  | cons c l ih =>
    have h1 := ih fun d hd => h d (List.mem_cons_of_mem _ hd)
    obtain ⟨h2, h3⟩ := h c List.mem_cons_self
    obtain ⟨⟨i, hi⟩, hx⟩ := upto9 (show ¬ (c < 0 ∨ 9 ≤ c) by omega)
    have := (size_i i hi).1
    simp only at hx
    rw [← hx] at this
    simp only [usedL, List.length_cons]
    omega
theorem take8 {L : Int} (hL : L ≤ 1099511627776) {b : slab_Budget} {l : List Int} (h : B8 L b l) {c : Int} (h0 : 0 ≤ c) (h9 : c < 9) (hf : sizeI c ≤ L - usedL l) : ∃ b', slab_Budget_Take b c = some (.nil, b') ∧ B8 L b' (c :: l) := by
  obtain ⟨e, b', k1, k2⟩ := take_ok hL h.ok (used_nn h.ok) c
  have hu := h.used
  have hle := h.ok.le
  have hnn := used_nn h.ok
  unfold slab_Budget_Take at k1 ⊢
  simp only [size_eq, Option.bind_some, lt_eq] at k1 ⊢
  obtain ⟨⟨i, hi⟩, rfl⟩ := upto9 (show ¬ (c < 0 ∨ 9 ≤ c) by omega)
  simp only at k1 hf ⊢
  obtain ⟨s1, s2⟩ := size_i i hi
  rw [if_neg (by simp; omega)] at k1 ⊢
  have e1 : w64 (b.limit - b.used) = L - b.used := by rw [h.ok.lim, w64_eq (by omega) (by omega)]
  simp only [slab_Budget_Left, lt_eq, e1, Option.bind_some] at k1 ⊢
  rw [if_neg (by simp; omega), chk9 i hi, ixA9 _ i hi] at k1 ⊢
  have h1 := one_le h.ok i hi
  have h0 := h.ok.nn i
  have h2 : b.count.toList.getD i 0 * 32 ≤ b.count.toList.getD i 0 * sizeI i := Int.mul_le_mul_of_nonneg_left s1 h0
  simp only [Option.bind_some] at k1 ⊢
  rw [w64_eq (n := b.count.toList.getD i 0 + 1) (by omega) (by omega), w64_eq (n := b.used + sizeI i) (by omega) (by omega), updV9 _ i hi] at k1 ⊢
  obtain ⟨rfl, rfl⟩ := Prod.mk.injEq _ _ _ _ ▸ Option.some.inj k1
  refine ⟨_, rfl, ⟨k2, ?_, fun j hj => ?_, fun d hd => ?_⟩⟩
  · simp only [usedL]; omega
  · simp only
    rw [getD_set _ i j hi, List.count_cons, h.cnt i hi, h.cnt j hj]
    split
    · rename_i hij; subst hij; simp
    · rename_i hij
      have : ((i : Int) == (j : Int)) = false := by simp; omega
      simp [this]
  · rcases List.mem_cons.1 hd with rfl | hd
    · omega
    · exact h.cls d hd
theorem give8 {L : Int} (hL : L ≤ 1099511627776) {b : slab_Budget} {l : List Int} (h : B8 L b l) {c : Int} (hc : c ∈ l) : ∃ b', slab_Budget_Give b c = some (.nil, b') ∧ B8 L b' (l.erase c) := by
  obtain ⟨e, b', k1, k2⟩ := give_ok hL h.ok (used_nn h.ok) c
  have hu := h.used
  have hle := h.ok.le
  have hnn := used_nn h.ok
  obtain ⟨c0, c9⟩ := h.cls c hc
  unfold slab_Budget_Give at k1 ⊢
  simp only [size_eq, Option.bind_some, lt_eq] at k1 ⊢
  obtain ⟨⟨i, hi⟩, rfl⟩ := upto9 (show ¬ (c < 0 ∨ 9 ≤ c) by omega)
  simp only at k1 hc ⊢
  obtain ⟨s1, s2⟩ := size_i i hi
  rw [if_neg (by simp; omega), chk9 i hi, ixA9 _ i hi] at k1 ⊢
  simp only [Option.bind_some] at k1 ⊢
  have hcnt := h.cnt i hi
  have hpos := List.count_pos_iff.2 hc
  rw [if_neg (by rw [beq_iff_eq]; omega)] at k1 ⊢
  have h1 := one_le h.ok i hi
  have h0 := h.ok.nn i
  have h2 : b.count.toList.getD i 0 * 32 ≤ b.count.toList.getD i 0 * sizeI i := Int.mul_le_mul_of_nonneg_left s1 h0
  rw [w64_eq (n := b.count.toList.getD i 0 - 1) (by omega) (by omega), w64_eq (n := b.used - sizeI i) (by omega) (by omega), updV9 _ i hi] at k1 ⊢
  obtain ⟨rfl, rfl⟩ := Prod.mk.injEq _ _ _ _ ▸ Option.some.inj k1
  refine ⟨_, rfl, ⟨k2, ?_, fun j hj => ?_, fun d hd => h.cls d (List.mem_of_mem_erase hd)⟩⟩
  · simp only; rw [usedL_erase hc, hu]
  · simp only
    rw [getD_set _ i j hi, List.count_erase, h.cnt i hi, h.cnt j hj]
    split
    · rename_i hij; subst hij; simp; omega
    · rename_i hij
      have : ((i : Int) == (j : Int)) = false := by simp; omega
      simp [this]
theorem left8 {L : Int} (hL0 : 0 ≤ L) (hL : L ≤ 1099511627776) {b : slab_Budget} {l : List Int} (h : B8 L b l) : slab_Budget_Left b = some (L - usedL l) := by
  have := h.ok.le
  have := used_nn h.ok
  simp only [slab_Budget_Left, lt_eq, h.ok.lim, ← h.used]
  rw [w64_eq (by omega) (by omega)]
theorem fits8 {L : Int} {b : slab_Budget} {l : List Int} (h : B8 L b l) (n : Int) : slab_Budget_Fits b n = some (decide (0 ≤ cls n ∧ sizeI (cls n) ≤ L)) := by
  simp only [slab_Budget_Fits, class_eq, size_eq, Option.bind_some, lt_eq, h.ok.lim]
  by_cases h0 : 0 ≤ cls n
  · rw [if_pos (by simpa using h0)]
    simp [h0]
  · rw [if_neg (by simpa using h0)]
    simp [h0]
theorem new8 {L : Int} (h1 : 1 ≤ L) (h2 : L ≤ 1099511627776) : ∃ b, slab_New L = some (some b, .nil) ∧ B8 L b [] := by
  refine ⟨⟨L, 0, Vector.replicate 9 0⟩, ?_, ⟨⟨rfl, ?_, fun i => ?_, ?_⟩, rfl, fun i hi => ?_, fun c hc => by cases hc⟩⟩
  · unfold slab_New
    simp only [lt_eq]
    rw [if_neg (by simp; omega), Option.bind_some, if_neg (by simp; omega)]
  · show (0 : Int) = part (Vector.replicate 9 0) 9
    decide
  · simp only [Vector.toList_replicate, List.getD_eq_getElem?_getD, List.getElem?_replicate]
    split <;> simp
  · show (0 : Int) ≤ L; omega
  · simp only [Vector.toList_replicate, List.getD_eq_getElem?_getD, List.getElem?_replicate]
    split <;> simp
theorem new8_bad {L : Int} (h : L < 1 ∨ L > 1099511627776) : slab_New L = some (none, .fault [98#8, 117#8, 100#8, 103#8, 101#8, 116#8] L 2 .nil) := by
  unfold slab_New
  simp only [lt_eq, trouble_New]
  by_cases h1 : L < 1
  · rw [if_pos (decide_eq_true h1), Option.bind_some, if_pos rfl]; rfl
  · rw [if_neg (by simpa using h1), Option.bind_some, if_pos (decide_eq_true (by omega))]; rfl
def fdN (k : List (BitVec 8)) : List aEn → Option Nat
  | [] => none
  | x :: l => if x.Key = k then some 0 else (fdN k l).map (· + 1)
def fdI (l : List aEn) (k : List (BitVec 8)) : Int := match fdN k l with | some j => (j : Int) | none => -1
def fE (k : List (BitVec 8)) (l : List aEn) : Option aEn := l.find? fun x => decide (x.Key = k)
theorem fdN_lt {k : List (BitVec 8)} : ∀ {l : List aEn} {j : Nat}, fdN k l = some j → j < l.length
  | [], j, h => by cases h
  | x :: l, j, h => by
    simp only [fdN] at h
    split at h
    · cases h; simp
    · obtain ⟨m, h1, rfl⟩ := Option.map_eq_some_iff.1 h
      have := fdN_lt h1
      simp only [List.length_cons]; omega
theorem fdN_fE {k : List (BitVec 8)} : ∀ {l : List aEn}, (fdN k l).bind (fun j => l[j]?) = fE k l ∧ (fdN k l = none ↔ fE k l = none)
  | [] => ⟨rfl, by simp [fdN, fE]⟩
  | x :: l => by
    obtain ⟨h1, h2⟩ := fdN_fE (k := k) (l := l)
    simp only [fdN, fE, List.find?_cons]
    by_cases h : x.Key = k
    · simp [h]
    · simp only [h, if_false, decide_false]
      refine ⟨?_, by simpa [fE] using h2⟩
      unfold fE at h1
      rw [← h1]
      cases fdN k l with
      | none => rfl
      | some j => rfl
theorem fE_some {k : List (BitVec 8)} {l : List aEn} {e : aEn} (h : fE k l = some e) : e ∈ l ∧ e.Key = k := by
  refine ⟨List.mem_of_find?_eq_some h, ?_⟩
  have := List.find?_some h
  simpa using this
theorem fE_none {k : List (BitVec 8)} {l : List aEn} : fE k l = none ↔ ∀ e ∈ l, e.Key ≠ k := by
  unfold fE
  rw [List.find?_eq_none]
  simp
theorem refFind_l {l : List aEn} (k : List (BitVec 8)) (hl : l.length ≤ 1000000) : ∀ (n i : Nat), n + i = l.length → R06_Find_l0 l k (i : Int) = some (match fdN k (l.drop i) with | some j => .inr ((i + j : Nat) : Int) | none => .inl ())
  | 0, i, h => by
    rw [List.drop_of_length_le (by omega)]
    refine loopO_out (body := fun s => R06_Find_b0 l k s) ?_
    simp only [R06_Find_b0, lt_eq]
    rw [if_neg (by rw [decide_eq_false (by omega)]; simp)]
    rfl
  | n + 1, i, h => by
    have hi : i < l.length := by omega
    rw [List.drop_eq_getElem_cons hi]
    simp only [fdN]
    by_cases hk : l[i].Key = k
    · rw [if_pos hk]
      refine loopO_out (body := fun s => R06_Find_b0 l k s) ?_
      simp only [R06_Find_b0, lt_eq]
      rw [if_pos (decide_eq_true (by omega)), ix_nat hi]
      simp [hk]
    · rw [if_neg hk]
      have i2 := refFind_l k hl n (i + 1) (by omega)
      have hm : (match (fdN k (l.drop (i + 1))).map (· + 1) with | some j => (.inr ((i + j : Nat) : Int) : Unit ⊕ Int) | none => .inl ()) = (match fdN k (l.drop (i + 1)) with | some j => .inr ((i + 1 + j : Nat) : Int) | none => .inl ()) := by
        cases fdN k (l.drop (i + 1)) with
        | none => rfl
        | some j => simp only [Option.map_some]; congr 2; omega
      rw [hm, ← i2]
      refine loopO_in (body := fun s => R06_Find_b0 l k s) ?_
      simp only [R06_Find_b0, lt_eq]
      rw [if_pos (decide_eq_true (by omega)), ix_nat hi]
      simp only [Option.bind_some]
      rw [if_neg (by simpa using hk), w64_nat (by omega)]
theorem refFind_eq {l : List aEn} (k : List (BitVec 8)) (hl : l.length ≤ 1000000) : R06_Find l k = some (fdI l k) := by
  have h := refFind_l k hl l.length 0 rfl
  rw [List.drop_zero, show ((0 : Nat) : Int) = 0 from rfl] at h
  unfold R06_Find fdI
  simp only [h, Option.bind_some]
  cases fdN k l with
  | none => rfl
  | some j => simp
theorem fd_cases (l : List aEn) (k : List (BitVec 8)) : (fdI l k = -1 ∧ fE k l = none) ∨ ∃ (j : Nat) (hj : j < l.length), fdI l k = (j : Int) ∧ fdN k l = some j ∧ fE k l = some l[j] := by
  obtain ⟨h1, h2⟩ := fdN_fE (k := k) (l := l)
  unfold fdI
  cases h : fdN k l with
  | none => exact .inl ⟨rfl, h2.1 h⟩
  | some j =>
    have hj := fdN_lt h
    rw [h] at h1
    exact .inr ⟨j, hj, rfl, rfl, by rw [← h1]; simp [hj]⟩
def dst (l : List aEn) : Prop := l.Pairwise fun x y => x.Key ≠ y.Key
def butE (k : List (BitVec 8)) (l : List aEn) : List aEn := l.filter fun x => x.Key != k
theorem rm_but {k : List (BitVec 8)} : ∀ {l : List aEn}, dst l → (match fdN k l with | some j => l.take j ++ l.drop (j + 1) | none => l) = butE k l
  | [], _ => rfl
  | x :: l, h => by
    have h2 := List.pairwise_cons.1 h
    simp only [fdN, butE]
    by_cases hk : x.Key = k
    · rw [if_pos hk, List.filter_cons_of_neg (by simp [hk])]
      simp only [List.take_zero, List.nil_append, List.drop_succ_cons, List.drop_zero]
      exact (List.filter_eq_self.2 fun y hy => by have := h2.1 y hy; rw [hk] at this; simpa using Ne.symm this).symm
    · rw [if_neg hk, List.filter_cons_of_pos (by simpa using hk)]
      have ih := rm_but (k := k) h2.2
      unfold butE at ih
      rw [← ih]
      cases fdN k l with
      | none => rfl
      | some j => rfl
theorem but_none {k : List (BitVec 8)} {l : List aEn} (h : fE k l = none) : butE k l = l :=
  List.filter_eq_self.2 fun y hy => by simpa using fE_none.1 h y hy
theorem dst_fE {l : List aEn} (h : dst l) {e : aEn} (he : e ∈ l) : fE e.Key l = some e := by
  induction l with
  | nil => cases he
  | cons x l ih =>
    have h2 := List.pairwise_cons.1 h
    unfold fE
    rw [List.find?_cons]
    rcases List.mem_cons.1 he with rfl | he
    · simp
    · have hx : x.Key ≠ e.Key := h2.1 e he
      simp only [hx, decide_false]
      exact ih h2.2 he
theorem dst_sub {l m : List aEn} (h : dst l) (s : m.Sublist l) : dst m := h.sublist s
def liveE (x : aEn) (n : Int) : Bool := if x.Ends = 0 then true else decide (x.Ends > n)
theorem live_x (x : aEn) (n : Int) : item_Live x n = some (liveE x n) := by
  unfold item_Live liveE
  simp only [lt_eq, beq_iff_eq]
  split <;> rfl
theorem live_r (x : aEn) (n : Int) : R06_Live x n = some (liveE x n) := by
  unfold R06_Live liveE
  simp only [lt_eq, beq_iff_eq]
  split <;> rfl
def clsE (x : aEn) : Int := cls (encE x).length
def tkE (x : aEn) : Int := sizeI (clsE x)
def usE (l : List aEn) : Int := usedL (l.map clsE)
theorem takes_eq {x : aEn} (h : ckE x = 0) : R11_Takes x = some (tkE x) := by
  unfold R11_Takes tkE clsE
  simp only [refSize_eq6 h, refClass_eq, refSize_eq, Option.bind_some]
def okL (l : List aEn) : Prop := ∀ x ∈ l, ckE x = 0
theorem usE_app (l m : List aEn) : usE (l ++ m) = usE l + usE m := by unfold usE; rw [List.map_append, usedL_app]
theorem usE_nn (l : List aEn) : 0 ≤ usE l := usedL_nn _
theorem tk_le (x : aEn) : 0 ≤ tkE x ∧ tkE x ≤ 8192 := by
  unfold tkE
  refine ⟨sizeI_nn _, ?_⟩
  by_cases h : clsE x < 0 ∨ 9 ≤ clsE x
  · unfold sizeI; rw [if_pos h]; decide
  · obtain ⟨⟨i, hi⟩, hx⟩ := upto9 h
    simp only at hx
    rw [hx]
    exact (size_i i hi).2
theorem usE_cons (x : aEn) (l : List aEn) : usE (x :: l) = tkE x + usE l := rfl
theorem usE_le : ∀ l : List aEn, usE l ≤ 8192 * (l.length : Int)
  | [] => Int.le_refl _
  | x :: l => by
    have := usE_le l
    have := (tk_le x).2
    rw [usE_cons]
    simp only [List.length_cons]
    omega
theorem rused_eq {r : R11_Ram} (hl : r.L.length ≤ 100000) (h : okL r.L) : R11_Used r = some (usE r.L) := by
  have k := loopO_up (body := fun s => R11_Used_b0 r s.1 s.2) (fun i : Nat => (usE (r.L.take i), (i : Int))) r.L.length (x := usE r.L) (fun i hi => by
    unfold R11_Used_b0
    simp only [lt_eq]
    have e : usE (r.L.take (i + 1)) = usE (r.L.take i) + tkE r.L[i] := by
      rw [List.take_succ_eq_append_getElem hi, usE_app, usE_cons]
      simp [usE, usedL]
    have h1 := usE_nn (r.L.take i)
    have h2 := usE_le (r.L.take i)
    have h3 := tk_le r.L[i]
    have h4 : (r.L.take i).length ≤ i := by simp; omega
    rw [if_pos (decide_eq_true (by omega)), ix_nat hi, Option.bind_some, takes_eq (h _ (List.getElem_mem hi)), Option.bind_some, w64_eq (by omega) (by omega), w64_nat (by omega), e]) (by
    unfold R11_Used_b0
    simp only [lt_eq]
    rw [if_neg (by simp), List.take_length])
  unfold R11_Used R11_Used_l0
  rw [show ((0 : Int), (0 : Int)) = (usE (r.L.take 0), ((0 : Nat) : Int)) from rfl, k]
  rfl
theorem rbut_eq {r : R11_Ram} {j : Nat} (hj : j < r.L.length) (hl : r.L.length ≤ 100000) : R11_But r (j : Int) = some ⟨r.Limit, r.L.take j ++ r.L.drop (j + 1)⟩ := by
  unfold R11_But
  simp only [lt_eq]
  rw [cutTo_eq (by omega), Option.bind_some, app_eq (by simp; omega), Option.bind_some, w64_nat (by omega), cutFrom_eq (by omega), Option.bind_some]
  show (app 64 ([] ++ r.L.take j) _).bind _ = _
  rw [app_eq (by simp; omega)]
  simp
theorem rbut_but {r : R11_Ram} (hd : dst r.L) (hl : r.L.length ≤ 100000) {k : List (BitVec 8)} {j : Nat} (hj : j < r.L.length) (hk : fdN k r.L = some j) : R11_But r (j : Int) = some ⟨r.Limit, butE k r.L⟩ := by
  rw [rbut_eq hj hl, ← rm_but hd, hk]
theorem rahead_eq {r : R11_Ram} (x : aEn) (hl : r.L.length ≤ 100000) : R11_ahead r x = some ⟨r.Limit, x :: r.L⟩ := by
  unfold R11_ahead
  simp only [lt_eq]
  show (app 64 [x] r.L).bind _ = _
  rw [app_eq (by simp; omega)]
  rfl
theorem rfits_eq {r : R11_Ram} {x : aEn} (h : ckE x = 0) : R11_Fits r x = some (decide (0 < tkE x ∧ tkE x ≤ r.Limit)) := by
  unfold R11_Fits
  simp only [takes_eq h, Option.bind_some, lt_eq]
  by_cases h1 : 0 < tkE x
  · rw [if_pos (by simpa using h1)]
    simp [h1]
  · rw [if_neg (by simpa using h1)]
    simp [h1]
theorem size_pos {c : Int} : 0 < sizeI c ↔ 0 ≤ c ∧ c < 9 := by
  constructor
  · intro h
    refine Classical.byContradiction fun hn => ?_
    unfold sizeI at h
    rw [if_pos (by omega)] at h
    omega
  · intro h
    obtain ⟨⟨i, hi⟩, hx⟩ := upto9 (show ¬ (c < 0 ∨ 9 ≤ c) by omega)
    simp only at hx
    rw [hx]
    have := (size_i i hi).1
    omega
theorem cls_lt (n : Int) : cls n < 9 ∧ -1 ≤ cls n := by unfold cls; repeat' split <;> first | decide | skip
def kn (t lim : Int) (l : List aEn) : Nat → Nat
  | 0 => 0
  | n + 1 => if t > lim - usE (l.take (n + 1)) then kn t lim l n else n + 1
theorem kn_le (t lim : Int) (l : List aEn) : ∀ n, kn t lim l n ≤ n
  | 0 => Nat.le_refl _
  | n + 1 => by unfold kn; split; · exact Nat.le_succ_of_le (kn_le t lim l n)
                · exact Nat.le_refl _
theorem kn_fit {t lim : Int} {l : List aEn} (h : t ≤ lim) : ∀ n, t ≤ lim - usE (l.take (kn t lim l n))
  | 0 => by simp only [kn, List.take_zero]; show t ≤ lim - 0; omega
  | n + 1 => by
    unfold kn
    split
    · exact kn_fit h n
    · omega
def okS (lim : Int) (e : aEn) : Bool := decide (0 < tkE e ∧ tkE e ≤ lim)
def setC (lim : Int) (e : aEn) (now : Int) : Int := if ckE e ≠ 0 then ckE e else if liveE e now = false then 10 else if okS lim e = false then 3 else 0
def keptL (lim : Int) (l : List aEn) (e : aEn) : List aEn := (butE e.Key l).take (kn (tkE e) lim (butE e.Key l) (butE e.Key l).length)
def goneL (lim : Int) (l : List aEn) (e : aEn) (now : Int) : List aEn := (((butE e.Key l).drop (kn (tkE e) lim (butE e.Key l) (butE e.Key l).length)).reverse).filter fun y => liveE y now
theorem rset_l {lim t now : Int} {x : aEn} (ht : tkE x = t) (hx : ckE x = 0) (hlim : 0 ≤ lim ∧ lim ≤ 1048576) (htl : t ≤ lim) {l : List aEn} (hl : l.length ≤ 100000) (h : okL l) (hd : dst l) : ∀ (n : Nat) (acc : List aEn), n ≤ l.length → acc.length + n ≤ 100000 →
    R11_Set_l0 x now (acc, ⟨lim, l.take n⟩) = some (acc ++ (((l.take n).drop (kn t lim l n)).reverse).filter (fun y => liveE y now), ⟨lim, l.take (kn t lim l n)⟩)
  | n, acc, hn, ha => by
    have hsub : okL (l.take n) := fun y hy => h y (List.mem_of_mem_take hy)
    have hu := rused_eq (r := ⟨lim, l.take n⟩) (by simp; omega) hsub
    have hnn := usE_nn (l.take n)
    have hle := usE_le (l.take n)
    have hlt : (l.take n).length ≤ 100000 := by simp; omega
    have hw : w64 (lim - usE (l.take n)) = lim - usE (l.take n) := w64_eq (by omega) (by omega)
    have hb : ¬ t > lim - usE (l.take n) → R11_Set_b0 x now acc ⟨lim, l.take n⟩ = some (.inr (acc, ⟨lim, l.take n⟩)) := fun hn => by
      unfold R11_Set_b0
      rw [takes_eq hx, ht, Option.bind_some]
      rw [hu, Option.bind_some]
      simp only [lt_eq]
      rw [hw, if_neg (by simpa using hn)]
    cases n with
    | zero =>
      refine loopO_out (body := fun s => R11_Set_b0 x now s.1 s.2) ?_
      rw [hb (by simp [usE, usedL]; omega)]
      simp [kn]
    | succ n =>
      by_cases hc : t > lim - usE (l.take (n + 1))
      · have hlen : (l.take (n + 1)).length = n + 1 := by simp; omega
        have hi : n < l.length := by omega
        have hix : (l.take (n + 1))[n]'(by omega) = l[n] := by simp
        have hbut : R11_But ⟨lim, l.take (n + 1)⟩ (n : Int) = some ⟨lim, l.take n⟩ := by
          rw [rbut_eq (r := ⟨lim, l.take (n + 1)⟩) (j := n) (by simp; omega) hlt]
          simp only [List.take_take, List.drop_eq_nil_of_le (show (l.take (n + 1)).length ≤ n + 1 by omega), List.append_nil]
          rw [Nat.min_eq_left (by omega)]
        have hkn : kn t lim l (n + 1) = kn t lim l n := by rw [kn, if_pos hc]
        have hkl := kn_le t lim l n
        have hdr : ((l.take (n + 1)).drop (kn t lim l n)).reverse = l[n] :: ((l.take n).drop (kn t lim l n)).reverse := by
          rw [List.take_succ_eq_append_getElem hi, List.drop_append_of_le_length (by simp; omega), List.reverse_append]
          rfl
        have hbody : R11_Set_b0 x now acc ⟨lim, l.take (n + 1)⟩ = some (.inl (if liveE l[n] now = true then acc ++ [l[n]] else acc, ⟨lim, l.take n⟩)) := by
          unfold R11_Set_b0
          rw [takes_eq hx, ht, Option.bind_some, hu, Option.bind_some]
          simp only [lt_eq]
          rw [hw, if_pos (decide_eq_true hc)]
          rw [show (((l.take (n + 1)).length : Nat) : Int) = ((n + 1 : Nat) : Int) by rw [hlen], show (((n + 1 : Nat) : Int) - 1) = (n : Int) by omega, w64_eq (n := (n : Int)) (by omega) (by omega), ix_nat (by omega), Option.bind_some, live_r, Option.bind_some, hix]
          by_cases hv : liveE l[n] now = true
          · rw [if_pos hv, if_pos hv, Option.bind_some, app_eq (by simp; omega), Option.bind_some, hbut, Option.bind_some]
          · rw [if_neg hv, if_neg hv, hbut, Option.bind_some]
        have hin : R11_Set_l0 x now (acc, ⟨lim, l.take (n + 1)⟩) = R11_Set_l0 x now (if liveE l[n] now = true then acc ++ [l[n]] else acc, ⟨lim, l.take n⟩) := loopO_in (body := fun s => R11_Set_b0 x now s.1 s.2) hbody
        rw [hin, rset_l ht hx hlim htl hl h hd n _ (by omega) (by split <;> (try simp only [List.length_append, List.length_cons, List.length_nil]) <;> omega), hkn, hdr, List.filter_cons]
        by_cases hv : liveE l[n] now = true
        · rw [if_pos hv, if_pos hv, List.append_assoc]; rfl
        · rw [if_neg hv, if_neg hv]
      · have hkn : kn t lim l (n + 1) = n + 1 := by rw [kn, if_neg hc]
        have ho : R11_Set_l0 x now (acc, ⟨lim, l.take (n + 1)⟩) = some (acc, ⟨lim, l.take (n + 1)⟩) := loopO_out (body := fun s => R11_Set_b0 x now s.1 s.2) (hb hc)
        rw [ho, hkn, List.drop_of_length_le (by simp; omega)]
        simp
def setL (lim : Int) (l : List aEn) (e : aEn) (now : Int) : List aEn := if setC lim e now = 0 then e :: keptL lim l e else l
def goneS (lim : Int) (l : List aEn) (e : aEn) (now : Int) : List aEn := if setC lim e now = 0 then goneL lim l e now else []
theorem butE_sub (k : List (BitVec 8)) (l : List aEn) : (butE k l).Sublist l := List.filter_sublist
theorem butE_len (k : List (BitVec 8)) (l : List aEn) : (butE k l).length ≤ l.length := List.length_filter_le _ _
theorem okL.sub {l m : List aEn} (h : okL l) (s : m.Sublist l) : okL m := fun x hx => h x (s.subset hx)
theorem mem_butE {k : List (BitVec 8)} {l : List aEn} {e : aEn} : e ∈ butE k l ↔ e ∈ l ∧ e.Key ≠ k := by simp [butE]
theorem rset_eq {lim : Int} {l : List aEn} {e : aEn} (now : Int) (hlim : 0 ≤ lim ∧ lim ≤ 1048576) (hl : l.length ≤ 90000) (h : okL l) (hd : dst l) :
    R11_Set ⟨lim, l⟩ e now = some (⟨lim, setL lim l e now⟩, goneS lim l e now, setC lim e now) := by
  unfold R11_Set
  rw [refCheck_eq]
  simp only [Option.bind_some, lt_eq]
  by_cases hc : ¬ ckE e = 0
  · have hs : setC lim e now = ckE e := by unfold setC; rw [if_pos hc]
    unfold setL goneS
    rw [hs, if_neg hc, if_neg hc, if_pos (by simpa using hc)]
  have hc : ckE e = 0 := Classical.not_not.1 hc
  rw [if_neg (by simp [hc]), live_r]
  simp only [Option.bind_some]
  by_cases hv : ¬ liveE e now = true
  · have hs : setC lim e now = 10 := by unfold setC; rw [if_neg (by simp [hc]), if_pos (by simpa using hv)]
    unfold setL goneS
    rw [hs, if_neg (show ¬ (10 : Int) = 0 by decide), if_neg (show ¬ (10 : Int) = 0 by decide), if_pos (by simpa using hv)]
  have hv : liveE e now = true := Classical.not_not.1 hv
  rw [if_neg (by simp [hv]), rfits_eq hc]
  simp only [Option.bind_some]
  by_cases hf : ¬ okS lim e = true
  · have hs : setC lim e now = 3 := by unfold setC; rw [if_neg (by simp [hc]), if_neg (by simp [hv]), if_pos (by simpa using hf)]
    have hx : (!decide (0 < tkE e ∧ tkE e ≤ lim)) = true := by
      have h0 : okS lim e = false := by simpa using hf
      unfold okS at h0
      rw [h0]
      rfl
    unfold setL goneS
    rw [hs, if_neg (show ¬ (3 : Int) = 0 by decide), if_neg (show ¬ (3 : Int) = 0 by decide), if_pos hx]
  have hf : okS lim e = true := Classical.not_not.1 hf
  have hs : setC lim e now = 0 := by unfold setC; rw [if_neg (by simp [hc]), if_neg (by simp [hv]), if_neg (by simp [hf])]
  have hf' : 0 < tkE e ∧ tkE e ≤ lim := by unfold okS at hf; simpa using hf
  unfold setL goneS
  rw [hs, if_pos (show (0 : Int) = 0 from rfl), if_pos (show (0 : Int) = 0 from rfl), if_neg (by simp only [hf', decide_eq_true_eq]; simp), refFind_eq _ (by omega)]
  simp only [Option.bind_some]
  have hb : (if decide (fdI l e.Key ≥ (0 : Int)) = true then (R11_But ⟨lim, l⟩ (fdI l e.Key)).bind fun v34 => some v34 else some ⟨lim, l⟩) = some ⟨lim, butE e.Key l⟩ := by
    rcases fd_cases l e.Key with ⟨h1, h2⟩ | ⟨j, hj, h1, h2, h3⟩
    · rw [h1, if_neg (by decide), but_none h2]
    · rw [h1, if_pos (by simp), rbut_but (r := ⟨lim, l⟩) hd (by simp only; omega) hj h2]
      rfl
  rw [hb, Option.bind_some]
  have hbl := butE_len e.Key l
  have k := rset_l (now := now) (t := tkE e) rfl hc hlim hf'.2 (l := butE e.Key l) (by omega) (h.sub (butE_sub _ _)) (dst_sub hd (butE_sub _ _)) (butE e.Key l).length [] (Nat.le_refl _) (by simp; omega)
  rw [List.take_length] at k
  rw [k, Option.bind_some, rahead_eq e (by simp; omega), Option.bind_some]
  simp only [List.nil_append]
  rfl
def getL (l : List aEn) (k : List (BitVec 8)) (now : Int) : List aEn := match fE k l with
  | none => l
  | some e => if liveE e now = true then e :: butE k l else butE k l
def getX (l : List aEn) (k : List (BitVec 8)) (now : Int) : aEn := match fE k l with
  | none => zeroE
  | some e => if liveE e now = true then e else zeroE
def getB (l : List aEn) (k : List (BitVec 8)) (now : Int) : Bool := match fE k l with
  | none => false
  | some e => liveE e now
theorem rget_eq {lim : Int} {l : List aEn} (k : List (BitVec 8)) (now : Int) (hl : l.length ≤ 90000) (hd : dst l) :
    R11_Get ⟨lim, l⟩ k now = some (⟨lim, getL l k now⟩, getX l k now, getB l k now) := by
  unfold R11_Get getL getX getB
  rw [refFind_eq _ (by simp only; omega)]
  simp only [Option.bind_some, lt_eq]
  rcases fd_cases l k with ⟨h1, h2⟩ | ⟨j, hj, h1, h2, h3⟩
  · rw [h1, if_pos (by decide), h2]
    rfl
  · rw [h1, if_neg (by simp), h3, ix_nat hj, Option.bind_some, live_r, Option.bind_some]
    have hb := rbut_but (r := ⟨lim, l⟩) hd (by simp only; omega) hj h2
    by_cases hv : liveE l[j] now = true
    · rw [if_neg (by simp [hv]), hb, Option.bind_some, rahead_eq _ (by have := butE_len k l; simp only; omega), Option.bind_some]
      simp [hv]
    · rw [if_pos (by simpa using hv), hb, Option.bind_some]
      have hv' : liveE l[j] now = false := by simpa using hv
      simp only [hv']
      rfl
theorem rsweep_eq {lim : Int} {l : List aEn} (now : Int) (hl : l.length ≤ 90000) :
    R11_Sweep ⟨lim, l⟩ now = some (⟨lim, l.filter fun y => liveE y now⟩, (l.length : Int) - ((l.filter fun y => liveE y now).length : Int)) := by
  have k := loopO_up (body := fun s => R11_Sweep_b0 ⟨lim, l⟩ now s.1 s.2) (fun i : Nat => ((i : Int), (⟨lim, (l.take i).filter fun y => liveE y now⟩ : R11_Ram))) l.length (x := ⟨lim, l.filter fun y => liveE y now⟩) (fun i hi => by
    unfold R11_Sweep_b0
    simp only [lt_eq]
    rw [if_pos (decide_eq_true (by omega)), ix_nat hi, Option.bind_some, live_r, Option.bind_some, List.take_succ_eq_append_getElem hi, List.filter_append, w64_nat (by omega), List.filter_cons, List.filter_nil]
    have hle : ((l.take i).filter fun y => liveE y now).length ≤ i := Nat.le_trans (List.length_filter_le _ _) (by simp; omega)
    by_cases hv : liveE l[i] now = true
    · rw [if_pos hv, if_pos hv, Option.bind_some, app_eq (by simp only [List.length_cons, List.length_nil]; omega), Option.bind_some]
    · rw [if_neg hv, if_neg hv, List.append_nil]) (by
    unfold R11_Sweep_b0
    simp only [lt_eq]
    rw [if_neg (by simp), List.take_length])
  unfold R11_Sweep R11_Sweep_l0
  rw [show ((0 : Int), (⟨lim, ([] : List aEn)⟩ : R11_Ram)) = (((0 : Nat) : Int), (⟨lim, (l.take 0).filter fun y => liveE y now⟩ : R11_Ram)) from rfl, k]
  simp only [Option.bind_some, lt_eq]
  have := List.length_filter_le (fun y => liveE y now) l
  rw [w64_eq (by omega) (by omega)]
theorem rnew_eq (n : Int) : R11_New n = some (if n < 1 ∨ n > 1048576 then (⟨0, []⟩, 2) else (⟨n, []⟩, 0)) := by
  unfold R11_New
  simp only [lt_eq]
  by_cases h1 : n < 1
  · rw [if_pos (decide_eq_true h1), Option.bind_some, if_pos rfl, if_pos (.inl h1)]
  · rw [if_neg (by simpa using h1), Option.bind_some]
    by_cases h2 : n > 1048576
    · rw [if_pos (decide_eq_true h2), if_pos (.inr h2)]
    · rw [if_neg (by simpa using h2), if_neg (by omega)]
end Go.Proofs.YtggeboakilalhaaDoor
