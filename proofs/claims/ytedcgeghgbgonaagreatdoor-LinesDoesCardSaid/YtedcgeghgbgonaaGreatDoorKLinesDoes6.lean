/- Whatever is sent, taken, lost, doubled and spoilt, each call answers what the chapter says, and all that is on its way is what it says. (part 6 of 8) -/
import Derived.Test.YtedcgeghgbgonaaGreatDoorKLinesDoes5
namespace Go.Proofs.YtedcgeghgbgonaaGreatDoor
open Go Go.Va
set_option linter.unusedVariables false
set_option linter.unusedSimpArgs false
set_option maxRecDepth 20000
theorem lines_Lines_Drop_ok {x0 : lines_Lines} {x1 : Int} {r : Err × lines_Lines} (H : lines_Lines_Drop x0 x1 = some r) (σ : St) {p0 p0_l c_p0_l : Nat} (h0 : σ.objs[p0]? = some [(gR p0_l 2 c_p0_l (x0.l).length), (eI x0.lost)]) (h0_l : σ.objs[p0_l]? = some (gK e_lines_parcel c_p0_l x0.l)) (hd : [p0, p0_l].Pairwise fun a b => a ≠ b) (hle_p0_l : (x0.l).length ≤ c_p0_l) : ACall Tryz.prog 18 [(.ref p0 0), (eI x1)] σ (fun a τ => a = eErr r.1 ∧ τ = σ.grow [(p0, [(gC (σ.objs.length + 0) 2 c_p0_l (r.2.l).length), (eI r.2.lost)]), (p0_l, [])] [(gK e_lines_parcel c_p0_l r.2.l)] [] 0) := by
 unfold lines_Lines_Drop at H
 refine ACall.outV (B := (fun f => [(p0, [(gC (f 0) 2 c_p0_l (r.2.l).length), (eI r.2.lost)]), (p0_l, [])])) (L := [(gK e_lines_parcel c_p0_l r.2.l)]) (fun ρ κ => encErr.cut ρ κ _) (by simp only [List.mem_cons, List.not_mem_nil, or_false]; rintro _ (rfl) ρ κ <;> exact gK_cut (by first | exact enc68.cut) _ _ ρ κ) (by intro f; simp only [List.mem_cons, List.not_mem_nil, or_false]; rintro _ (rfl | rfl) <;> exact (List.getElem?_eq_some_iff.1 (by assumption)).1) (fun ρ κ f f1 h1 h3 => (.cons rfl (.cons (cut_gC (h1 0 (by simp))) (.cons (.of_eq ((enc_i64 td3 sz3).cut ρ κ _)) .nil)) (.cons rfl .nil .nil))) (acall_start tk Tryz.func18 (by decide) rfl (nb rfl) ?_)
 have hH := Holds.brings (σ := σ) [(p0, [(gR p0_l 2 c_p0_l (x0.l).length), (eI x0.lost)]), (p0_l, (gK e_lines_parcel c_p0_l x0.l))] (by simp only [List.mem_cons, List.not_mem_nil, or_false]; rintro _ (rfl | rfl) <;> assumption) hd
 refine AWP.renF (g := fun i => gR i 2 c_p0_l (x0.l).length) hH 0 1 0 rfl rfl (by decide) rfl ren_gR fun id1 τ (hH : Holds σ [(id1, (gK e_lines_parcel c_p0_l x0.l)), (p0, [(gR id1 2 c_p0_l (x0.l).length), (eI x0.lost)]), (p0_l, (cL e_lines_parcel ([] : List lines_parcel)))] [] τ) n2 => ?_
 refine sr rfl (ma tk (eErr Err.nil) rfl rfl (wpo_nil (awp_seq (sr rfl (mm tk (.ref p0 0) rfl rfl (mm tk (eI x1) rfl rfl ?_))))))
 refine wpo_bdr H eErr rfl rfl rfl (fun v4 hv => h_callr rfl rfl (.cons wr (.cons wr (.cons wr .nil))) (lines_Lines_at_ok hv _ (hH.at_ 1 rfl) (hH.at_ 0 rfl) (hH.pw [1, 0] rfl (by decide)) (.r hle_p0_l))) fun v4 hv4 H3 => ?_
 refine ma tk (eErr v4) rfl rfl (wpo_nil (sr rfl (mm tk (eErr v4) rfl rfl ?_)))
 refine l_ H3 eB rfl (o_err_neq tk rfl rfl rfl) fun v6 H5 => ?_
 refine wpo_nil ?_
 refine awp_if H5 rfl (fun H7 => ?_) (fun H7 => ?_)
 ·refine sr rfl (mm tk (eErr v4) rfl rfl (ma tk (eErr v4) rfl rfl (wpo_nil ?_)))
  refine AWP.wko hH 1 rfl (c1 := [(gC id1 2 c_p0_l (x0.l).length), (eI x0.lost)]) (.cons (GG.wk (.r hle_p0_l)) (.cons wr .nil)) fun τ (hH : Holds σ [(id1, (gK e_lines_parcel c_p0_l x0.l)), (p0, [(gC id1 2 c_p0_l (x0.l).length), (eI x0.lost)]), (p0_l, (cL e_lines_parcel ([] : List lines_parcel)))] [] τ) => ?_
  refine awp_ret ?_
  obtain rfl := oi H7
  have hH : Holds σ [(id1, (gK e_lines_parcel c_p0_l x0.l)), (p0, [(gC id1 2 c_p0_l (x0.l).length), (eI x0.lost)]), (p0_l, (cL e_lines_parcel ([] : List lines_parcel)))] [] _ := hH
  have hF : Holds σ [(id1, (gK e_lines_parcel c_p0_l x0.l)), (p0, [(gC id1 2 c_p0_l (x0.l).length), (eI x0.lost)]), (p0_l, (cL e_lines_parcel ([] : List lines_parcel)))] [] _ := hH.pick (by simp only [List.mem_cons, List.not_mem_nil, or_false]; rintro _ (rfl | rfl | rfl) <;> simp) (pw_zip (hH.pw [0, 1, 2] rfl (by decide))) (by simp only [List.mem_cons, List.not_mem_nil, or_false]; rintro _ (rfl | rfl | rfl) <;> first | exact .inl (by assumption) | exact .inr (by simp)) (fun t h => by cases h) .nil
  exact ⟨_, (eErr v4), rfl, wr, rfl, fun i => [id1].getD i 0, by intro i hi; match i, hi with | 0, _ => exact n2 | k + 1, hi => exact absurd hi (by simp), hF⟩
 ·refine awp_skip (sr rfl (mm tk (.ref p0 0) rfl rfl (mm tk (.ref p0 0) rfl rfl (mc tk (.ref p0 0) rfl rfl (fun _ => rfl) (mc tk (.ref p0 0) rfl rfl (fun _ => rfl) (wpo_rd (a := (gR id1 2 c_p0_l (x0.l).length)) rfl rfl rfl (h_ld tk hH 1 rfl rfl rfl) (mm tk (eI x1) rfl rfl (mm tk (eI x1) rfl rfl ?_))))))))
  refine l_ H7 eI rfl (o_ar tk rfl rfl rfl) fun v9 H8 => ?_
  obtain ⟨v11, hv12, H10⟩ := ob H8
  have hle15 : (v11).length ≤ c_p0_l := Nat.le_trans (delO_len hv12) hle_p0_l
  refine wpo_a (av := fun b => gR b 2 c_p0_l (v11).length) rfl rfl rfl (h_calldg hH 0 rfl n2 rfl rfl (.cons wr (.cons wr (.cons wr .nil))) (slices_Delete_lines_parcel_lines_parcel_g hv12 _ (hH.at_ 0 rfl) hle_p0_l)) fun id13 τ ⟨hH, n14⟩ => ?_
  refine mc tk (.ref p0 0) rfl rfl (fun _ => rfl) (mc tk (.ref p0 0) rfl rfl (fun _ => rfl) ?_)
  refine wpo_z rfl rfl (h_st (y := (gR id13 2 c_p0_l (v11).length)) tk hH 1 rfl ty56 (by simp) rfl rfl (GG.wk (.r hle15)) (b := (gC id13 2 c_p0_l (v11).length)) (gC_flat _ _ _ _) (gC_one _ _ _ _) (nb rfl) [(gC id13 2 c_p0_l (v11).length), (eI ({ x0 with l := v11 } : lines_Lines).lost)] (by rw [gC_cells]; rfl)) fun τ hH => ?_
  refine wpo_nil (sr rfl (mm tk (.ref p0 0) rfl rfl (mc tk (.ref p0 0) rfl rfl (fun _ => rfl) (mc tk (.ref p0 1) rfl rfl (fun _ => rfl) (wpo_rd (a := (eI ({ x0 with l := v11 } : lines_Lines).lost)) rfl rfl rfl (h_ld tk hH 1 rfl rfl rfl) ?_)))))
  refine l_ H10 eI rfl (o_ar tk rfl rfl rfl) fun v18 H17 => ?_
  refine mc tk (.ref p0 0) rfl rfl (fun _ => rfl) (mc tk (.ref p0 1) rfl rfl (fun _ => rfl) ?_)
  refine wpo_z rfl rfl (h_st tk hH 1 rfl ty3 (by simp) rfl rfl wr (b := (eI v18)) rfl rfl (nb rfl) [(gC id13 2 c_p0_l (v11).length), (eI ({ ({ x0 with l := v11 } : lines_Lines) with lost := v18 } : lines_Lines).lost)] rfl) fun τ hH => ?_
  refine wpo_nil (sr rfl (ma tk (eErr Err.nil) rfl rfl (wpo_nil (awp_ret ?_))))
  obtain rfl := oi H17
  have hH : Holds σ [(id13, (gK e_lines_parcel c_p0_l v11)), (p0, [(gC id13 2 c_p0_l (v11).length), (eI ({ ({ x0 with l := v11 } : lines_Lines) with lost := v18 } : lines_Lines).lost)]), (p0_l, (cL e_lines_parcel ([] : List lines_parcel)))] [] _ := hH
  have hF : Holds σ [(id13, (gK e_lines_parcel c_p0_l v11)), (p0, [(gC id13 2 c_p0_l (v11).length), (eI ({ ({ x0 with l := v11 } : lines_Lines) with lost := v18 } : lines_Lines).lost)]), (p0_l, (cL e_lines_parcel ([] : List lines_parcel)))] [] _ := hH.pick (by simp only [List.mem_cons, List.not_mem_nil, or_false]; rintro _ (rfl | rfl | rfl) <;> simp) (pw_zip (hH.pw [0, 1, 2] rfl (by decide))) (by simp only [List.mem_cons, List.not_mem_nil, or_false]; rintro _ (rfl | rfl | rfl) <;> first | exact .inl (by assumption) | exact .inr (by simp)) (fun t h => by cases h) .nil
  exact ⟨_, (eErr Err.nil), rfl, wr, rfl, fun i => [id13].getD i 0, by intro i hi; match i, hi with | 0, _ => exact n14 | k + 1, hi => exact absurd hi (by simp), hF⟩
theorem trouble_Of_ok {x0 : Err} {r : Int} (H : trouble_Of x0 = some r) (σ : St) (hg : σ.gl = gls) : ACall Tryz.prog 19 [eErr x0] σ (fun a τ => a = eI r ∧ τ = σ) := by
 obtain rfl := oi H
 refine ACall.pure (acall_start tk Tryz.func19 (by decide) rfl (nb rfl) ?_)
 have hH := Holds.init σ
 refine sr rfl (ma tk (eI (0 : Int)) rfl rfl (wpo_nil (awp_seq (awp_block ?_))))
 have hs := trouble_Of_l0 x0
 refine awp_cutx 0 (fun fr τ => codeOf x0 = 0 ∧ WkF fr (fm []) ∧ Holds σ [] [] τ) ?_ ?_
 ·rintro fr τ ⟨h0, hfr, hH⟩
  refine AWP.fm [] hfr ?_
  refine sr rfl (ma tk (eI 0) rfl rfl (wpo_nil (awp_ret ?_)))
  rw [h0]
  exact ⟨_, (eI 0), rfl, wr, .of_eq rfl, hH.noT⟩
 ·refine awp_loopO (body := trouble_Of_b0) hs (fun (s : Err) fr τ => WkF fr (fm [(0, eErr s)]) ∧ Holds σ [] [] τ) ⟨(wc (wkf_nil _)), hH⟩ ?_
  rintro c1 fr τ y ⟨hfr, hH⟩ hb hy
  refine AWP.fm [(0, eErr c1)] hfr ?_
  cases c1 with
  | nil =>
   refine awp_seq (sr rfl (mm tk (eErr .nil) rfl rfl (m_ (eB false) rfl (o_err_neq (x := .nil) tk rfl rfl rfl) (wpo_nil ?_))))
   refine awp_false rfl ?_
   refine awp_exit ?_
   have hb : some (Sum.inr (Sum.inl ())) = some y := hb
   have hz := hy _ (oi hb).symm
   refine ⟨⟨_, (oi hb).symm⟩, ?_, (wkf_nil _), hH⟩
   split at hz
   ·assumption
   ·cases hz
  | fault o a c u =>
   refine awp_seq (sr rfl (mm tk (eErr (.fault o a c u)) rfl rfl (m_ (eB true) rfl (o_err_neq (x := .fault o a c u) tk rfl rfl rfl) (wpo_nil ?_))))
   refine awp_true rfl ?_
   refine awp_skip (awp_block (sr rfl ?_))
   refine wpo_a (av := fun id => .ref id 0) rfl rfl rfl (h_alloc tk hH ty78 [.nilp] rfl) fun id τ ⟨hH, hn⟩ => ?_
   refine wpo_nil (awp_seq (sr rfl (mm tk (eErr (.fault o a c u)) rfl rfl (mc tk (.iface 80 (.ref id 0)) rfl rfl (fun _ => rfl) ?_))))
   refine wpo_cb (α := Unit) (z := some ()) (k := fun _ => some ()) (r := ()) rfl (fun _ _ => eB true) rfl rfl rfl (fun v hv => h_call1 hH [(0, (id, [(Err.fault o a c u).ptr]))] ⟨⟨_, rfl⟩, trivial⟩ rfl rfl (.cons wr (.cons wr .nil)) (as_ok (x := .fault o a c u) rfl (hH.at_ 0 rfl) (hH.gl.trans hg))) fun _ _ τ _ _ hH => ?_
   refine m_ (eB false) rfl (o_un tk rfl rfl) (wpo_nil ?_)
   refine awp_false rfl ?_
   refine awp_skip (awp_seq (sr rfl (wpo_rd (a := (Err.fault o a c u).ptr) rfl rfl rfl (h_ld tk hH 0 rfl rfl rfl) (mc tk ((Err.fault o a c u).ptr) rfl rfl (fun _ => rfl) (mc tk (.fptr [eS o, eI a, eI c, eErr u] 2) rfl rfl (fun _ => rfl) (m_ (eI c) rfl (o_ld tk rfl rfl) (m_ (eB (c != 0)) rfl (o_ar tk rfl rfl rfl) (wpo_nil ?_))))))))
   have hb : (if (c != 0) = true then some (.inr (.inr c)) else some (.inl u)) = some y := hb
   refine awp_if hb rfl (fun hb => ?_) (fun hb => ?_)
   ·refine sr rfl (wpo_rd (a := (Err.fault o a c u).ptr) rfl rfl rfl (h_ld tk hH 0 rfl rfl rfl) (mc tk ((Err.fault o a c u).ptr) rfl rfl (fun _ => rfl) (mc tk (.fptr [eS o, eI a, eI c, eErr u] 2) rfl rfl (fun _ => rfl) (m_ (eI c) rfl (o_ld tk rfl rfl) (ma tk (eI c) rfl rfl (wpo_nil (awp_ret ?_)))))))
    have hz := hy _ (oi hb).symm
    refine ⟨⟨_, (oi hb).symm⟩, ?_⟩
    have hc : codeOf x0 = c := by
     split at hz
     ·cases hz
     ·exact Sum.inr.inj hz.symm
    rw [hc]
    exact ⟨_, (eI c), rfl, wr, .of_eq rfl, (hH.noT.drop hn)⟩
   ·refine awp_skip (awp_region rfl (wpo_rd (a := (Err.fault o a c u).ptr) rfl rfl rfl (h_ld tk hH 0 rfl rfl rfl) (mc tk ((Err.fault o a c u).ptr) rfl rfl (fun _ => rfl) (mc tk (.fptr [eS o, eI a, eI c, eErr u] 3) rfl rfl (fun _ => rfl) (m_ (eErr u) rfl (o_ld tk rfl (by cases u <;> rfl)) (ma tk (eErr u) rfl rfl (wpo_nil ?_)))))))
    exact ⟨u, (oi hb).symm, (wc (wkf_nil _)), hH.drop hn⟩
theorem lines_New_ok  {r : lines_Lines} (H : lines_New = some r) (σ : St)  : ACall Tryz.prog 6 [] σ (fun a τ => a = .ref σ.objs.length 0 ∧ τ = ⟨σ.objs ++ (fun f c => [[(gC (f 1) 2 0 (c.l).length), (eI c.lost)], (gK e_lines_parcel 0 c.l)]) (fun i => σ.objs.length + i) r, σ.opn, σ.gl⟩) := by
 unfold lines_New at H
 refine ACall.newB1 (args := []) (B := (fun f c => [[(gC (f 1) 2 0 (c.l).length), (eI c.lost)], (gK e_lines_parcel 0 c.l)])) (c := r) 2 (fun f => rfl) (by decide) (fun ρ κ f g h => by exact (.cons rfl (.cons (cut_gC (h 1 (by decide))) (.cons (.of_eq ((enc_i64 td3 sz3).cut ρ κ _)) .nil)) (.cons (by first | rfl | exact (cutL_spcl ρ κ (gK e_lines_parcel 0 r.l)).trans (gK_sp enc68 _ _)) (by rw [gK_cut enc68.cut _ _ ρ κ]; exact .refl _) .nil))) (acall_start tk Tryz.func6 (by decide) rfl (nb rfl) ?_)
 have hH := Holds.init σ
 refine sr rfl (ma tk .nilp rfl rfl (wpo_nil (sr rfl (mc tk (.agg [AV.nils, (eI (⟨([] : List lines_parcel), (0 : Int)⟩ : lines_Lines).lost)]) rfl rfl (fun _ => rfl) ?_))))
 refine wpo_a (av := fun id => .ref id 0) rfl rfl rfl (h_box tk hH rfl wr (b := (.agg [AV.nils, (eI (⟨([] : List lines_parcel), (0 : Int)⟩ : lines_Lines).lost)])) rfl [AV.nils, (eI (⟨([] : List lines_parcel), (0 : Int)⟩ : lines_Lines).lost)] rfl) fun id1 τ ⟨hH, n2⟩ => ?_
 refine ma tk (.ref id1 0) rfl rfl (wpo_nil ?_)
 refine AWP.vecF hH 0 (fun id => [(gC id 2 0 ((([] : List lines_parcel)).length)), (eI (⟨([] : List lines_parcel), (0 : Int)⟩ : lines_Lines).lost)]) rfl (fun id => (.cons (wk_vec0n id 2) (.cons wr .nil))) fun id3 τ (hH : Holds σ [(id3, (gK e_lines_parcel 0 ([] : List lines_parcel))), (id1, [(gC id3 2 0 ((([] : List lines_parcel)).length)), (eI (⟨([] : List lines_parcel), (0 : Int)⟩ : lines_Lines).lost)])] [] τ) n4 => ?_
 refine awp_ret ?_
 obtain rfl := oi H
 have hH : Holds σ [(id3, (gK e_lines_parcel 0 ([] : List lines_parcel))), (id1, [(gC id3 2 0 ((([] : List lines_parcel)).length)), (eI (⟨([] : List lines_parcel), (0 : Int)⟩ : lines_Lines).lost)])] [] _ := hH
 have hF : Holds σ [(id1, [(gC id3 2 0 ((([] : List lines_parcel)).length)), (eI (⟨([] : List lines_parcel), (0 : Int)⟩ : lines_Lines).lost)]), (id3, (gK e_lines_parcel 0 ([] : List lines_parcel)))] [] _ := hH.pick (by simp only [List.mem_cons, List.not_mem_nil, or_false]; rintro _ (rfl | rfl) <;> simp) (pw_zip (hH.pw [1, 0] rfl (by decide))) (by simp only [List.mem_cons, List.not_mem_nil, or_false]; rintro _ (rfl | rfl) <;> first | exact .inl (by assumption) | exact .inr (by simp)) (fun t h => by cases h) .nil
 exact ⟨_, .ref id1 0, rfl, .of_eq rfl, fun i => [id1, id3].getD i 0, rfl, by intro i hi; match i, hi with | 0, _ => exact n2 | 1, _ => exact n4 | k + 2, hi => exact absurd hi (by simp), hF⟩
theorem lines_Lines_Len_ok {x0 : lines_Lines} {r : Int} (H : lines_Lines_Len x0 = some r) (σ : St) {p0 p0_l c_p0_l : Nat} {g_p0_l : AV} (h0 : σ.objs[p0]? = some [g_p0_l, (eI x0.lost)]) (h0_l : σ.objs[p0_l]? = some (gK e_lines_parcel c_p0_l x0.l)) (hd : [p0, p0_l].Pairwise fun a b => a ≠ b) (gg_p0_l : GG p0_l 2 c_p0_l (x0.l).length g_p0_l) : ACall Tryz.prog 8 [(.ref p0 0)] σ (fun a τ => a = eI r ∧ τ = σ) := by
 unfold lines_Lines_Len at H
 refine ACall.pure (acall_start tk Tryz.func8 (by decide) rfl (nb rfl) ?_)
 have hH := Holds.brings (σ := σ) [(p0, [g_p0_l, (eI x0.lost)]), (p0_l, (gK e_lines_parcel c_p0_l x0.l))] (by simp only [List.mem_cons, List.not_mem_nil, or_false]; rintro _ (rfl | rfl) <;> assumption) hd
 refine sr rfl (ma tk (eI (0 : Int)) rfl rfl (wpo_nil (sr rfl (mm tk (.ref p0 0) rfl rfl (mc tk (.ref p0 0) rfl rfl (fun _ => rfl) (mc tk (.ref p0 0) rfl rfl (fun _ => rfl) (wpo_rd (a := (gC p0_l 2 c_p0_l (x0.l).length)) rfl rfl rfl (OpS.wkr gg_p0_l.wk (h_ld tk hH 0 rfl rfl rfl)) ?_)))))))
 refine l_ H eI rfl (o_glen tk td56 rfl) fun v2 H1 => ?_
 refine ma tk (eI v2) rfl rfl (wpo_nil (awp_ret ?_))
 obtain rfl := oi H1
 exact ⟨_, (eI v2), rfl, wr, .of_eq ((enc_i64 td3 sz3).cut _ _ _), ((hH.noT.unbring h0).unbring h0_l)⟩
theorem lines_Lines_Lost_ok {x0 : lines_Lines} {r : Int} (H : lines_Lines_Lost x0 = some r) (σ : St) {p0 p0_l c_p0_l : Nat} {g_p0_l : AV} (h0 : σ.objs[p0]? = some [g_p0_l, (eI x0.lost)]) (h0_l : σ.objs[p0_l]? = some (gK e_lines_parcel c_p0_l x0.l)) (hd : [p0, p0_l].Pairwise fun a b => a ≠ b) (gg_p0_l : GG p0_l 2 c_p0_l (x0.l).length g_p0_l) : ACall Tryz.prog 9 [(.ref p0 0)] σ (fun a τ => a = eI r ∧ τ = σ) := by
 unfold lines_Lines_Lost at H
 refine ACall.pure (acall_start tk Tryz.func9 (by decide) rfl (nb rfl) ?_)
 have hH := Holds.brings (σ := σ) [(p0, [g_p0_l, (eI x0.lost)]), (p0_l, (gK e_lines_parcel c_p0_l x0.l))] (by simp only [List.mem_cons, List.not_mem_nil, or_false]; rintro _ (rfl | rfl) <;> assumption) hd
 refine sr rfl (ma tk (eI (0 : Int)) rfl rfl (wpo_nil (sr rfl (mm tk (.ref p0 0) rfl rfl (mc tk (.ref p0 0) rfl rfl (fun _ => rfl) (mc tk (.ref p0 1) rfl rfl (fun _ => rfl) (wpo_rd (a := (eI x0.lost)) rfl rfl rfl (h_ld tk hH 0 rfl rfl rfl) (ma tk (eI x0.lost) rfl rfl ?_))))))))
 refine wpo_nil (awp_ret ?_)
 obtain rfl := oi H
 exact ⟨_, (eI x0.lost), rfl, wr, .of_eq ((enc_i64 td3 sz3).cut _ _ _), ((hH.noT.unbring h0).unbring h0_l)⟩
theorem L26_works_ok  {r : Bool} (H : L26_works = some r) (σ : St)  (hg : σ.gl = gls) : ACall Tryz.prog 5 [] σ (fun a τ => a = eB r ∧ τ = σ) := by
 unfold L26_works at H
 refine ACall.pure (acall_start tk Tryz.func5 (by decide) rfl (nb rfl) ?_)
 have hH := Holds.init σ
 refine sr rfl (ma tk (eB false) rfl rfl (wpo_nil (sr rfl ?_)))
 refine wpo_cb H (fun _ id => .ref id 0) rfl rfl rfl (fun v2 hv => h_calln1 (B := (fun f c => [[(gC (f 1) 2 0 (c.l).length), (eI c.lost)], (gK e_lines_parcel 0 c.l)])) hH v2 rfl rfl .nil (lines_New_ok hv _)) fun v2 id3 τ hv2 H1 ⟨hH, n4⟩ => ?_
 obtain ⟨id3_l, h_id3_l⟩ : ∃ x, x = id3 + 1 := ⟨_, rfl⟩
 have hH : Holds σ [(id3, [(gC id3_l 2 0 (v2.l).length), (eI v2.lost)]), (id3_l, (gK e_lines_parcel 0 v2.l))] [] τ := by rw [h_id3_l]; exact hH
 have n4_1 : σ.objs.length ≤ id3_l := by omega
 refine ma tk (.ref id3 0) rfl rfl (wpo_nil (awp_seq (sr rfl (mm tk (.ref id3 0) rfl rfl (mc tk (eB false) rfl rfl (fun _ => rfl) (wpo_nil ?_))))))
 refine awp_false rfl ?_
 refine awp_skip (sr rfl ?_)
 refine l_ H1 e_api_Msg rfl (o_cw tk false (a := .agg ([(eI (1 : Int))] ++ [(eI (3 : Int))] ++ [AV.int .i64 0] ++ [(eI (1 : Int))] ++ [AV.int .i64 0] ++ [AV.str ⟨#[]⟩, AV.int .i64 0, AV.int .i64 0, AV.int .i64 0, AV.nils] ++ [AV.bool false])) rfl (fun _ => rfl) (wk_agg (WkL.append (WkL.append (WkL.append (WkL.append (WkL.append (WkL.append (.refl _) (.refl _)) (.cons wr .nil)) (.refl _)) (.cons wr .nil)) (.cons wr (.cons wr (.cons wr (.cons wr (.cons (by exact wk_nils _) .nil)))))) (.cons wr .nil)))) fun v6 H5 => ?_
 refine wpo_a (av := fun id => .ref id 0) rfl rfl rfl (h_allocw tk hH ty44 (c_api_Msg z_api_Msg) (.cons wr (.cons wr (.cons wr (.cons wr (.cons wr (.cons wr (.cons wr (.cons wr (.cons wr (.cons (by exact wk_nils _) (.cons wr .nil)))))))))))) fun id7 τ ⟨hH, n8⟩ => ?_
 obtain ⟨c10, hc11, H9⟩ := lt_ex H5
 refine wpo_z rfl rfl (h_st tk hH 0 rfl ty44 (by simp) rfl rfl wr (b := (e_api_Msg v6)) (enc44.flat _) rfl (nb rfl) (c_api_Msg c10) (by rw [← hc11]; rfl)) fun τ hH => ?_
 refine wpo_nil (sr rfl (mm tk (.ref id3 0) rfl rfl (wpo_rd (a := (e_api_Msg c10)) rfl rfl rfl (h_ld tk hH 0 rfl rfl rfl) ?_)))
 refine l_ H9 e_api_Msg rfl (o_cw tk false (a := .agg ([AV.int .i64 0] ++ [AV.int .i64 0] ++ [AV.int .i64 0] ++ [AV.int .i64 0] ++ [AV.int .i64 0] ++ [AV.str ⟨#[]⟩, AV.int .i64 0, AV.int .i64 0, AV.int .i64 0, AV.nils] ++ [AV.bool false])) rfl (fun _ => rfl) (wk_agg (WkL.append (WkL.append (WkL.append (WkL.append (WkL.append (WkL.append (.cons wr .nil) (.cons wr .nil)) (.cons wr .nil)) (.cons wr .nil)) (.cons wr .nil)) (.cons wr (.cons wr (.cons wr (.cons wr (.cons (by exact wk_nils _) .nil)))))) (.cons wr .nil)))) fun v13 H12 => ?_
 refine wpo_rd (a := (e_api_Msg c10)) rfl rfl rfl (h_ld tk hH 0 rfl rfl rfl) ?_
 refine l_ H12 (eF 11 e_api_Msg) rfl (o_c tk false rfl (fun _ => rfl)) fun v15 H14 => ?_
 refine wpo_cb H14 (fun x _ => .tup []) rfl rfl rfl (fun v17 hv => h_callg hH (fun i => [(1, (id3, [(gC (i + 0) 2 0 (v17.l).length), (eI v17.lost)])), (2, (id3_l, []))]) (fun _ => ⟨⟨_, rfl⟩, ⟨⟨_, rfl⟩, trivial⟩⟩) rfl rfl (.cons wr (.cons wk_no .nil)) (lines_Lines_Send_ok hv _ (hH.at_ 1 rfl) (hH.at_ 2 rfl) (hH.pw [1, 2] rfl (by decide)) .c)) fun v17 id19 τ hv17 H16 ⟨hH, n20⟩ => ?_
 have hH : Holds σ [(id19, (gK e_lines_parcel 0 v17.l)), (id7, (c_api_Msg c10)), (id3, [(gC id19 2 0 (v17.l).length), (eI v17.lost)]), (id3_l, (cL e_lines_parcel ([] : List lines_parcel)))] [] _ := hH
 have hH := hH.dropAt 3 rfl n4_1
 have hH : Holds σ [(id19, (gK e_lines_parcel 0 v17.l)), (id7, (c_api_Msg c10)), (id3, [(gC id19 2 0 (v17.l).length), (eI v17.lost)])] [] _ := hH
 refine wpo_nil (sr rfl (mm tk (.ref id3 0) rfl rfl ?_))
 refine wpo_cb H16 (fun x _ => eErr x.1) rfl rfl rfl (fun v22 hv => h_callg hH (fun i => [(2, (id3, [(gC (i + 0) 2 0 (v22.2.l).length), (eI v22.2.lost)])), (0, (id19, []))]) (fun _ => ⟨⟨_, rfl⟩, ⟨⟨_, rfl⟩, trivial⟩⟩) rfl rfl (.cons wr (.cons wr (.cons wr (.cons wr .nil)))) (lines_Lines_Spoil_ok hv _ (hH.at_ 2 rfl) (hH.at_ 0 rfl) (hH.pw [2, 0] rfl (by decide)) .c)) fun v22 id24 τ hv22 H21 ⟨hH, n25⟩ => ?_
 have hH : Holds σ [(id24, (gK e_lines_parcel 0 v22.2.l)), (id19, (cL e_lines_parcel ([] : List lines_parcel))), (id7, (c_api_Msg c10)), (id3, [(gC id24 2 0 (v22.2.l).length), (eI v22.2.lost)])] [] _ := hH
 have hH := hH.dropAt 1 rfl n20
 have hH : Holds σ [(id24, (gK e_lines_parcel 0 v22.2.l)), (id7, (c_api_Msg c10)), (id3, [(gC id24 2 0 (v22.2.l).length), (eI v22.2.lost)])] [] _ := hH
 refine ma tk (eErr v22.1) rfl rfl (wpo_nil (sr rfl (mm tk (.ref id3 0) rfl rfl ?_)))
 refine wpo_cb H21 (fun x _ => eErr x.1) rfl rfl rfl (fun v27 hv => h_callg hH (fun i => [(2, (id3, [(gC (i + 0) 2 0 (v27.2.l).length), (eI v27.2.lost)])), (0, (id24, []))]) (fun _ => ⟨⟨_, rfl⟩, ⟨⟨_, rfl⟩, trivial⟩⟩) rfl rfl (.cons wr (.cons wr (.cons wr (.cons wr .nil)))) (lines_Lines_Spoil_ok hv _ (hH.at_ 2 rfl) (hH.at_ 0 rfl) (hH.pw [2, 0] rfl (by decide)) .c)) fun v27 id29 τ hv27 H26 ⟨hH, n30⟩ => ?_
 have hH : Holds σ [(id29, (gK e_lines_parcel 0 v27.2.l)), (id24, (cL e_lines_parcel ([] : List lines_parcel))), (id7, (c_api_Msg c10)), (id3, [(gC id29 2 0 (v27.2.l).length), (eI v27.2.lost)])] [] _ := hH
 have hH := hH.dropAt 1 rfl n25
 have hH : Holds σ [(id29, (gK e_lines_parcel 0 v27.2.l)), (id7, (c_api_Msg c10)), (id3, [(gC id29 2 0 (v27.2.l).length), (eI v27.2.lost)])] [] _ := hH
 refine ma tk (eErr v27.1) rfl rfl (wpo_nil (sr rfl (mm tk (.ref id3 0) rfl rfl ?_)))
 refine wpo_cb H26 (fun x _ => eErr x.1) rfl rfl rfl (fun v32 hv => h_callg hH (fun i => [(2, (id3, [(gC (i + 0) 2 0 (v32.2.l).length), (eI v32.2.lost)])), (0, (id29, []))]) (fun _ => ⟨⟨_, rfl⟩, ⟨⟨_, rfl⟩, trivial⟩⟩) rfl rfl (.cons wr (.cons wr .nil)) (lines_Lines_Twice_ok hv _ (hH.at_ 2 rfl) (hH.at_ 0 rfl) (hH.pw [2, 0] rfl (by decide)) .c)) fun v32 id34 τ hv32 H31 ⟨hH, n35⟩ => ?_
 have hH : Holds σ [(id34, (gK e_lines_parcel 0 v32.2.l)), (id29, (cL e_lines_parcel ([] : List lines_parcel))), (id7, (c_api_Msg c10)), (id3, [(gC id34 2 0 (v32.2.l).length), (eI v32.2.lost)])] [] _ := hH
 have hH := hH.dropAt 1 rfl n30
 have hH : Holds σ [(id34, (gK e_lines_parcel 0 v32.2.l)), (id7, (c_api_Msg c10)), (id3, [(gC id34 2 0 (v32.2.l).length), (eI v32.2.lost)])] [] _ := hH
 refine ma tk (eErr v32.1) rfl rfl (wpo_nil (awp_seq ?_))
 refine AWP.reveal hH 2 0 0 rfl rfl rfl .c rfl (fun kc36 τ (hH : Holds σ [(id34, (gK e_lines_parcel kc36 v32.2.l)), (id7, (c_api_Msg c10)), (id3, [(gR id34 2 kc36 (v32.2.l).length), (eI v32.2.lost)])] [] τ) hle37 => ?_) (by decide)
 refine awp_region rfl (mm tk (.ref id3 0) rfl rfl ?_)
 refine wpo_cb H31 (fun x _ => .tup [e_api_Msg x.1, eErr x.2.1]) rfl rfl rfl (fun v39 hv => h_callg hH (fun i => [(2, (id3, [(gC (i + 0) 2 kc36 (v39.2.2.l).length), (eI v39.2.2.lost)])), (0, (id34, []))]) (fun _ => ⟨⟨_, rfl⟩, ⟨⟨_, rfl⟩, trivial⟩⟩) rfl rfl (.cons wr (.cons wr .nil)) (lines_Lines_Take_ok hv _ (hH.at_ 2 rfl) (hH.at_ 0 rfl) (hH.pw [2, 0] rfl (by decide)) hle37)) fun v39 id41 τ hv39 H38 ⟨hH, n42⟩ => ?_
 have hH : Holds σ [(id41, (gK e_lines_parcel kc36 v39.2.2.l)), (id34, (cL e_lines_parcel ([] : List lines_parcel))), (id7, (c_api_Msg c10)), (id3, [(gC id41 2 kc36 (v39.2.2.l).length), (eI v39.2.2.lost)])] [] _ := hH
 have hH := hH.dropAt 1 rfl n35
 have hH : Holds σ [(id41, (gK e_lines_parcel kc36 v39.2.2.l)), (id7, (c_api_Msg c10)), (id3, [(gC id41 2 kc36 (v39.2.2.l).length), (eI v39.2.2.lost)])] [] _ := hH
 refine mm tk (.tup [(e_api_Msg v39.1), (eErr v39.2.1)]) rfl rfl (m_ (e_api_Msg v39.1) rfl (o_ext tk rfl rfl) (m_ (eErr v39.2.1) rfl (o_ext tk rfl rfl) ?_))
 refine wpo_a (av := fun id => .ref id 0) rfl rfl rfl (h_allocw tk hH ty44 (c_api_Msg z_api_Msg) (.cons wr (.cons wr (.cons wr (.cons wr (.cons wr (.cons wr (.cons wr (.cons wr (.cons wr (.cons (by exact wk_nils _) (.cons wr .nil)))))))))))) fun id43 τ ⟨hH, n44⟩ => ?_
 obtain ⟨c46, hc47, H45⟩ := lt_ex H38
 refine wpo_z rfl rfl (h_st tk hH 0 rfl ty44 (by simp) rfl rfl wr (b := (e_api_Msg v39.1)) (enc44.flat _) rfl (nb rfl) (c_api_Msg c46) (by rw [← hc47]; rfl)) fun τ hH => ?_
 refine ma tk (eErr v39.2.1) rfl rfl (wpo_nil (awp_seq ?_))
 refine AWP.reveal hH 3 1 0 rfl rfl rfl .c rfl (fun kc48 τ (hH : Holds σ [(id43, (c_api_Msg c46)), (id41, (gK e_lines_parcel kc48 v39.2.2.l)), (id7, (c_api_Msg c10)), (id3, [(gR id41 2 kc48 (v39.2.2.l).length), (eI v39.2.2.lost)])] [] τ) hle49 => ?_) (by decide)
 refine awp_region rfl (mm tk (.ref id3 0) rfl rfl ?_)
 refine wpo_cb H45 (fun x _ => .tup [e_api_Msg x.1, eErr x.2.1]) rfl rfl rfl (fun v51 hv => h_callg hH (fun i => [(3, (id3, [(gC (i + 0) 2 kc48 (v51.2.2.l).length), (eI v51.2.2.lost)])), (1, (id41, []))]) (fun _ => ⟨⟨_, rfl⟩, ⟨⟨_, rfl⟩, trivial⟩⟩) rfl rfl (.cons wr (.cons wr .nil)) (lines_Lines_Take_ok hv _ (hH.at_ 3 rfl) (hH.at_ 1 rfl) (hH.pw [3, 1] rfl (by decide)) hle49)) fun v51 id53 τ hv51 H50 ⟨hH, n54⟩ => ?_
 have hH : Holds σ [(id53, (gK e_lines_parcel kc48 v51.2.2.l)), (id43, (c_api_Msg c46)), (id41, (cL e_lines_parcel ([] : List lines_parcel))), (id7, (c_api_Msg c10)), (id3, [(gC id53 2 kc48 (v51.2.2.l).length), (eI v51.2.2.lost)])] [] _ := hH
 have hH := hH.dropAt 2 rfl n42
 have hH : Holds σ [(id53, (gK e_lines_parcel kc48 v51.2.2.l)), (id43, (c_api_Msg c46)), (id7, (c_api_Msg c10)), (id3, [(gC id53 2 kc48 (v51.2.2.l).length), (eI v51.2.2.lost)])] [] _ := hH
 refine mm tk (.tup [(e_api_Msg v51.1), (eErr v51.2.1)]) rfl rfl (m_ (e_api_Msg v51.1) rfl (o_ext tk rfl rfl) (m_ (eErr v51.2.1) rfl (o_ext tk rfl rfl) ?_))
 refine wpo_a (av := fun id => .ref id 0) rfl rfl rfl (h_allocw tk hH ty44 (c_api_Msg z_api_Msg) (.cons wr (.cons wr (.cons wr (.cons wr (.cons wr (.cons wr (.cons wr (.cons wr (.cons wr (.cons (by exact wk_nils _) (.cons wr .nil)))))))))))) fun id55 τ ⟨hH, n56⟩ => ?_
 obtain ⟨c58, hc59, H57⟩ := lt_ex H50
 refine wpo_z rfl rfl (h_st tk hH 0 rfl ty44 (by simp) rfl rfl wr (b := (e_api_Msg v51.1)) (enc44.flat _) rfl (nb rfl) (c_api_Msg c58) (by rw [← hc59]; rfl)) fun τ hH => ?_
 refine ma tk (eErr v51.2.1) rfl rfl (wpo_nil (awp_seq ?_))
 refine AWP.reveal hH 4 1 0 rfl rfl rfl .c rfl (fun kc60 τ (hH : Holds σ [(id55, (c_api_Msg c58)), (id53, (gK e_lines_parcel kc60 v51.2.2.l)), (id43, (c_api_Msg c46)), (id7, (c_api_Msg c10)), (id3, [(gR id53 2 kc60 (v51.2.2.l).length), (eI v51.2.2.lost)])] [] τ) hle61 => ?_) (by decide)
 refine awp_region rfl (mm tk (.ref id3 0) rfl rfl ?_)
 refine wpo_cb H57 (fun x _ => eErr x.1) rfl rfl rfl (fun v63 hv => h_callg hH (fun i => [(4, (id3, [(gC (i + 0) 2 kc60 (v63.2.l).length), (eI v63.2.lost)])), (1, (id53, []))]) (fun _ => ⟨⟨_, rfl⟩, ⟨⟨_, rfl⟩, trivial⟩⟩) rfl rfl (.cons wr (.cons wr .nil)) (lines_Lines_Drop_ok hv _ (hH.at_ 4 rfl) (hH.at_ 1 rfl) (hH.pw [4, 1] rfl (by decide)) hle61)) fun v63 id65 τ hv63 H62 ⟨hH, n66⟩ => ?_
 have hH : Holds σ [(id65, (gK e_lines_parcel kc60 v63.2.l)), (id55, (c_api_Msg c58)), (id53, (cL e_lines_parcel ([] : List lines_parcel))), (id43, (c_api_Msg c46)), (id7, (c_api_Msg c10)), (id3, [(gC id65 2 kc60 (v63.2.l).length), (eI v63.2.lost)])] [] _ := hH
 have hH := hH.dropAt 2 rfl n54
 have hH : Holds σ [(id65, (gK e_lines_parcel kc60 v63.2.l)), (id55, (c_api_Msg c58)), (id43, (c_api_Msg c46)), (id7, (c_api_Msg c10)), (id3, [(gC id65 2 kc60 (v63.2.l).length), (eI v63.2.lost)])] [] _ := hH
 refine ma tk (eErr v63.1) rfl rfl (wpo_nil (sr rfl (mm tk (eErr v22.1) rfl rfl ?_)))
 refine l_ H62 eB rfl (o_err_eql tk rfl rfl rfl) fun v68 H67 => ?_
 refine mm tk (eB v68) rfl rfl ?_
 refine if_split H67 (fun hb H69 => ?_) (fun hb H69 => ?_)
 ·subst hb
  refine mm tk (eErr v27.1) rfl rfl ?_
  refine wpo_bdr H69 eI rfl rfl rfl (fun v71 hv => h_callr rfl rfl (.cons wr .nil) (trouble_Of_ok hv _ (hH.gl.trans hg))) fun v71 hv71 H70 => ?_
  refine l_ H70 eB rfl (o_ar tk rfl rfl rfl) fun v73 H72 => ?_
  refine pt tk (eB v73) rfl rfl rfl (mm tk (eB v73) rfl rfl ?_)
  refine if_split H72 (fun hb H74 => ?_) (fun hb H74 => ?_)
  ·subst hb
   refine mm tk (eErr v32.1) rfl rfl ?_
   refine l_ H74 eB rfl (o_err_eql tk rfl rfl rfl) fun v76 H75 => ?_
   refine pt tk (eB v76) rfl rfl rfl (mm tk (eB v76) rfl rfl ?_)
   refine if_split H75 (fun hb H77 => ?_) (fun hb H77 => ?_)
   ·subst hb
    refine mm tk (eErr v39.2.1) rfl rfl ?_
    refine wpo_bdr H77 eI rfl rfl rfl (fun v79 hv => h_callr rfl rfl (.cons wr .nil) (trouble_Of_ok hv _ (hH.gl.trans hg))) fun v79 hv79 H78 => ?_
    refine l_ H78 eB rfl (o_ar tk rfl rfl rfl) fun v81 H80 => ?_
    refine pt tk (eB v81) rfl rfl rfl (mm tk (eB v81) rfl rfl ?_)
    refine if_split H80 (fun hb H82 => ?_) (fun hb H82 => ?_)
    ·subst hb
     refine mm tk (eErr v51.2.1) rfl rfl ?_
     refine l_ H82 eB rfl (o_err_eql tk rfl rfl rfl) fun v84 H83 => ?_
     refine pt tk (eB v84) rfl rfl rfl (mm tk (eB v84) rfl rfl ?_)
     refine if_split H83 (fun hb H85 => ?_) (fun hb H85 => ?_)
     ·subst hb
      refine wpo_rd (a := (e_api_Msg c58)) rfl rfl rfl (h_ld tk hH 1 rfl rfl rfl) (wpo_rd (a := (e_api_Msg c10)) rfl rfl rfl (h_ld tk hH 3 rfl rfl rfl) ?_)
      refine b_ H85 eB rfl (fun v87 hv => OpP.of_call rfl rfl (.cons wr (.cons wr .nil)) (R23_Same_ok hv)) fun v87 hv87 H86 => ?_
      refine pt tk (eB v87) rfl rfl rfl (mm tk (eB v87) rfl rfl ?_)
      refine if_split H86 (fun hb H88 => ?_) (fun hb H88 => ?_)
      ·subst hb
       refine mm tk (eErr v63.1) rfl rfl ?_
       refine wpo_bdr H88 eI rfl rfl rfl (fun v90 hv => h_callr rfl rfl (.cons wr .nil) (trouble_Of_ok hv _ (hH.gl.trans hg))) fun v90 hv90 H89 => ?_
       refine l_ H89 eB rfl (o_ar tk rfl rfl rfl) fun v92 H91 => ?_
       refine pt tk (eB v92) rfl rfl rfl (mm tk (eB v92) rfl rfl ?_)
       refine if_split H91 (fun hb H93 => ?_) (fun hb H93 => ?_)
       ·subst hb
        refine mm tk (.ref id3 0) rfl rfl ?_
        refine wpo_bdr H93 eI rfl rfl rfl (fun v95 hv => h_callr rfl rfl (.cons wr .nil) (lines_Lines_Len_ok hv _ (hH.at_ 4 rfl) (hH.at_ 0 rfl) (hH.pw [4, 0] rfl (by decide)) .c)) fun v95 hv95 H94 => ?_
        refine l_ H94 eB rfl (o_ar tk rfl rfl rfl) fun v97 H96 => ?_
        refine pt tk (eB v97) rfl rfl rfl (mm tk (eB v97) rfl rfl ?_)
        refine if_split H96 (fun hb H98 => ?_) (fun hb H98 => ?_)
        ·subst hb
         refine mm tk (.ref id3 0) rfl rfl ?_
         refine wpo_bdr H98 eI rfl rfl rfl (fun v100 hv => h_callr rfl rfl (.cons wr .nil) (lines_Lines_Lost_ok hv _ (hH.at_ 4 rfl) (hH.at_ 0 rfl) (hH.pw [4, 0] rfl (by decide)) .c)) fun v100 hv100 H99 => ?_
         refine l_ H99 eB rfl (o_ar tk rfl rfl rfl) fun v102 H101 => ?_
         refine pt tk (eB v102) rfl rfl rfl (mm tk (eB v102) rfl rfl ?_)
         refine if_split H101 (fun hb H103 => ?_) (fun hb H103 => ?_)
         ·subst hb
          refine mm tk (.ref id3 0) rfl rfl ?_
          refine wpo_bdr H103 (eL 11 e_api_Msg) rfl rfl rfl (fun v105 hv => h_callr rfl rfl (.cons wr .nil) (lines_Lines_All_ok hv _ (hH.at_ 4 rfl) (hH.at_ 0 rfl) (hH.pw [4, 0] rfl (by decide)) .c)) fun v105 hv105 H104 => ?_
          refine l_ H104 eI rfl (o_len tk td27 rfl) fun v107 H106 => ?_
          refine l_ H106 eB rfl (o_ar tk rfl rfl rfl) fun v109 H108 => ?_
          refine pt tk (eB v109) rfl rfl rfl (ma tk (eB v109) rfl rfl (wpo_nil (awp_ret ?_)))
          obtain rfl := oi H108
          exact ⟨_, (eB v109), rfl, wr, .of_eq ((enc_b td4 sz4).cut _ _ _), (((((hH.noT.drop n66).drop n56).drop n44).drop n8).drop n4)⟩
         ·subst hb
          refine k_ rfl (k_ rfl (k_ rfl (k_ rfl (pf tk (eB false) rfl rfl rfl (ma tk (eB false) rfl rfl (wpo_nil (awp_ret ?_)))))))
          obtain rfl := oi H103
          exact ⟨_, (eB false), rfl, wr, .of_eq ((enc_b td4 sz4).cut _ _ _), (((((hH.noT.drop n66).drop n56).drop n44).drop n8).drop n4)⟩
        ·subst hb
         refine k_ rfl (k_ rfl (k_ rfl (pf tk (eB false) rfl rfl rfl (mm tk (eB false) rfl rfl (k_ rfl (k_ rfl (k_ rfl (k_ rfl ?_))))))))
         refine pf tk (eB false) rfl rfl rfl (ma tk (eB false) rfl rfl (wpo_nil (awp_ret ?_)))
         obtain rfl := oi H98
         exact ⟨_, (eB false), rfl, wr, .of_eq ((enc_b td4 sz4).cut _ _ _), (((((hH.noT.drop n66).drop n56).drop n44).drop n8).drop n4)⟩
       ·subst hb
        refine k_ rfl (k_ rfl (k_ rfl (pf tk (eB false) rfl rfl rfl (mm tk (eB false) rfl rfl (k_ rfl (k_ rfl (k_ rfl (pf tk (eB false) rfl rfl rfl ?_))))))))
        refine mm tk (eB false) rfl rfl (k_ rfl (k_ rfl (k_ rfl (k_ rfl (pf tk (eB false) rfl rfl rfl (ma tk (eB false) rfl rfl (wpo_nil (awp_ret ?_))))))))
        obtain rfl := oi H93
        exact ⟨_, (eB false), rfl, wr, .of_eq ((enc_b td4 sz4).cut _ _ _), (((((hH.noT.drop n66).drop n56).drop n44).drop n8).drop n4)⟩
      ·subst hb
       refine k_ rfl (k_ rfl (k_ rfl (pf tk (eB false) rfl rfl rfl (mm tk (eB false) rfl rfl (k_ rfl (k_ rfl (k_ rfl (pf tk (eB false) rfl rfl rfl ?_))))))))
       refine mm tk (eB false) rfl rfl (k_ rfl (k_ rfl (k_ rfl (pf tk (eB false) rfl rfl rfl (mm tk (eB false) rfl rfl (k_ rfl (k_ rfl (k_ rfl ?_))))))))
       refine k_ rfl (pf tk (eB false) rfl rfl rfl (ma tk (eB false) rfl rfl (wpo_nil (awp_ret ?_))))
       obtain rfl := oi H88
       exact ⟨_, (eB false), rfl, wr, .of_eq ((enc_b td4 sz4).cut _ _ _), (((((hH.noT.drop n66).drop n56).drop n44).drop n8).drop n4)⟩
     ·subst hb
      refine k_ rfl (k_ rfl (k_ rfl (pf tk (eB false) rfl rfl rfl (mm tk (eB false) rfl rfl (k_ rfl (k_ rfl (k_ rfl (pf tk (eB false) rfl rfl rfl ?_))))))))
      refine mm tk (eB false) rfl rfl (k_ rfl (k_ rfl (k_ rfl (pf tk (eB false) rfl rfl rfl (mm tk (eB false) rfl rfl (k_ rfl (k_ rfl (k_ rfl ?_))))))))
      refine pf tk (eB false) rfl rfl rfl (mm tk (eB false) rfl rfl (k_ rfl (k_ rfl (k_ rfl (k_ rfl (pf tk (eB false) rfl rfl rfl (ma tk (eB false) rfl rfl (wpo_nil ?_))))))))
      refine awp_ret ?_
      obtain rfl := oi H85
      exact ⟨_, (eB false), rfl, wr, .of_eq ((enc_b td4 sz4).cut _ _ _), (((((hH.noT.drop n66).drop n56).drop n44).drop n8).drop n4)⟩
    ·subst hb
     refine k_ rfl (k_ rfl (pf tk (eB false) rfl rfl rfl (mm tk (eB false) rfl rfl (k_ rfl (k_ rfl (k_ rfl (pf tk (eB false) rfl rfl rfl (mm tk (eB false) rfl rfl ?_))))))))
     refine k_ rfl (k_ rfl (k_ rfl (pf tk (eB false) rfl rfl rfl (mm tk (eB false) rfl rfl (k_ rfl (k_ rfl (k_ rfl (pf tk (eB false) rfl rfl rfl ?_))))))))
     refine mm tk (eB false) rfl rfl (k_ rfl (k_ rfl (k_ rfl (pf tk (eB false) rfl rfl rfl (mm tk (eB false) rfl rfl (k_ rfl (k_ rfl (k_ rfl ?_))))))))
     refine k_ rfl (pf tk (eB false) rfl rfl rfl (ma tk (eB false) rfl rfl (wpo_nil (awp_ret ?_))))
     obtain rfl := oi H82
     exact ⟨_, (eB false), rfl, wr, .of_eq ((enc_b td4 sz4).cut _ _ _), (((((hH.noT.drop n66).drop n56).drop n44).drop n8).drop n4)⟩
   ·subst hb
    refine k_ rfl (k_ rfl (k_ rfl (pf tk (eB false) rfl rfl rfl (mm tk (eB false) rfl rfl (k_ rfl (k_ rfl (pf tk (eB false) rfl rfl rfl (mm tk (eB false) rfl rfl ?_))))))))
    refine k_ rfl (k_ rfl (k_ rfl (pf tk (eB false) rfl rfl rfl (mm tk (eB false) rfl rfl (k_ rfl (k_ rfl (k_ rfl (pf tk (eB false) rfl rfl rfl ?_))))))))
    refine mm tk (eB false) rfl rfl (k_ rfl (k_ rfl (k_ rfl (pf tk (eB false) rfl rfl rfl (mm tk (eB false) rfl rfl (k_ rfl (k_ rfl (k_ rfl ?_))))))))
    refine pf tk (eB false) rfl rfl rfl (mm tk (eB false) rfl rfl (k_ rfl (k_ rfl (k_ rfl (k_ rfl (pf tk (eB false) rfl rfl rfl (ma tk (eB false) rfl rfl (wpo_nil ?_))))))))
    refine awp_ret ?_
    obtain rfl := oi H77
    exact ⟨_, (eB false), rfl, wr, .of_eq ((enc_b td4 sz4).cut _ _ _), (((((hH.noT.drop n66).drop n56).drop n44).drop n8).drop n4)⟩
  ·subst hb
   refine k_ rfl (k_ rfl (pf tk (eB false) rfl rfl rfl (mm tk (eB false) rfl rfl (k_ rfl (k_ rfl (k_ rfl (pf tk (eB false) rfl rfl rfl (mm tk (eB false) rfl rfl ?_))))))))
   refine k_ rfl (k_ rfl (pf tk (eB false) rfl rfl rfl (mm tk (eB false) rfl rfl (k_ rfl (k_ rfl (k_ rfl (pf tk (eB false) rfl rfl rfl (mm tk (eB false) rfl rfl ?_))))))))
   refine k_ rfl (k_ rfl (k_ rfl (pf tk (eB false) rfl rfl rfl (mm tk (eB false) rfl rfl (k_ rfl (k_ rfl (k_ rfl (pf tk (eB false) rfl rfl rfl ?_))))))))
   refine mm tk (eB false) rfl rfl (k_ rfl (k_ rfl (k_ rfl (pf tk (eB false) rfl rfl rfl (mm tk (eB false) rfl rfl (k_ rfl (k_ rfl (k_ rfl ?_))))))))
   refine k_ rfl (pf tk (eB false) rfl rfl rfl (ma tk (eB false) rfl rfl (wpo_nil (awp_ret ?_))))
   obtain rfl := oi H74
   exact ⟨_, (eB false), rfl, wr, .of_eq ((enc_b td4 sz4).cut _ _ _), (((((hH.noT.drop n66).drop n56).drop n44).drop n8).drop n4)⟩
 ·subst hb
  refine k_ rfl (k_ rfl (k_ rfl (pf tk (eB false) rfl rfl rfl (mm tk (eB false) rfl rfl (k_ rfl (k_ rfl (pf tk (eB false) rfl rfl rfl (mm tk (eB false) rfl rfl ?_))))))))
  refine k_ rfl (k_ rfl (k_ rfl (pf tk (eB false) rfl rfl rfl (mm tk (eB false) rfl rfl (k_ rfl (k_ rfl (pf tk (eB false) rfl rfl rfl (mm tk (eB false) rfl rfl ?_))))))))
  refine k_ rfl (k_ rfl (k_ rfl (pf tk (eB false) rfl rfl rfl (mm tk (eB false) rfl rfl (k_ rfl (k_ rfl (k_ rfl (pf tk (eB false) rfl rfl rfl ?_))))))))
  refine mm tk (eB false) rfl rfl (k_ rfl (k_ rfl (k_ rfl (pf tk (eB false) rfl rfl rfl (mm tk (eB false) rfl rfl (k_ rfl (k_ rfl (k_ rfl ?_))))))))
  refine pf tk (eB false) rfl rfl rfl (mm tk (eB false) rfl rfl (k_ rfl (k_ rfl (k_ rfl (k_ rfl (pf tk (eB false) rfl rfl rfl (ma tk (eB false) rfl rfl (wpo_nil ?_))))))))
  refine awp_ret ?_
  obtain rfl := oi H69
  exact ⟨_, (eB false), rfl, wr, .of_eq ((enc_b td4 sz4).cut _ _ _), (((((hH.noT.drop n66).drop n56).drop n44).drop n8).drop n4)⟩
theorem R23_lease_ok {x0 : Int} {r : Bool} (H : R23_lease x0 = some r) (σ : St)  : ACall Tryz.prog 57 [(eI x0)] σ (fun a τ => a = eB r ∧ τ = σ) := by
 unfold R23_lease at H
 refine ACall.pure (acall_start tk Tryz.func57 (by decide) rfl (nb rfl) ?_)
 have hH := Holds.init σ
 refine sr rfl (ma tk (eB false) rfl rfl (wpo_nil (sr rfl (mm tk (eI x0) rfl rfl ?_))))
 refine l_ H eB rfl (o_ar tk rfl rfl rfl) fun v2 H1 => ?_
 refine mm tk (eB v2) rfl rfl ?_
 refine if_split H1 (fun hb H3 => ?_) (fun hb H3 => ?_)
 ·subst hb
  refine k_ rfl (k_ rfl (pt tk (eB true) rfl rfl rfl (ma tk (eB true) rfl rfl (wpo_nil (awp_ret ?_)))))
  obtain rfl := oi H3
  exact ⟨_, (eB true), rfl, wr, .of_eq ((enc_b td4 sz4).cut _ _ _), hH.noT⟩
 ·subst hb
  refine mm tk (eI x0) rfl rfl ?_
  refine l_ H3 eB rfl (o_ar tk rfl rfl rfl) fun v5 H4 => ?_
  refine pf tk (eB v5) rfl rfl rfl (ma tk (eB v5) rfl rfl (wpo_nil (awp_ret ?_)))
  obtain rfl := oi H4
  exact ⟨_, (eB v5), rfl, wr, .of_eq ((enc_b td4 sz4).cut _ _ _), hH.noT⟩
theorem R23_key_ok {x0 : Int} {r : Bool} (H : R23_key x0 = some r) (σ : St)  : ACall Tryz.prog 58 [(eI x0)] σ (fun a τ => a = eB r ∧ τ = σ) := by
 unfold R23_key at H
 refine ACall.pure (acall_start tk Tryz.func58 (by decide) rfl (nb rfl) ?_)
 have hH := Holds.init σ
 refine sr rfl (ma tk (eB false) rfl rfl (wpo_nil (sr rfl (mm tk (eI x0) rfl rfl ?_))))
 refine l_ H eB rfl (o_ar tk rfl rfl rfl) fun v2 H1 => ?_
 refine mm tk (eB v2) rfl rfl ?_
 refine if_split H1 (fun hb H3 => ?_) (fun hb H3 => ?_)
 ·subst hb
  refine mm tk (eI x0) rfl rfl ?_
  refine l_ H3 eB rfl (o_ar tk rfl rfl rfl) fun v5 H4 => ?_
  refine pt tk (eB v5) rfl rfl rfl (ma tk (eB v5) rfl rfl (wpo_nil (awp_ret ?_)))
  obtain rfl := oi H4
  exact ⟨_, (eB v5), rfl, wr, .of_eq ((enc_b td4 sz4).cut _ _ _), hH.noT⟩
 ·subst hb
  refine k_ rfl (k_ rfl (pf tk (eB false) rfl rfl rfl (ma tk (eB false) rfl rfl (wpo_nil (awp_ret ?_)))))
  obtain rfl := oi H3
  exact ⟨_, (eB false), rfl, wr, .of_eq ((enc_b td4 sz4).cut _ _ _), hH.noT⟩
theorem R23_asof_ok {x0 : Int} {r : Bool} (H : R23_asof x0 = some r) (σ : St)  : ACall Tryz.prog 60 [(eI x0)] σ (fun a τ => a = eB r ∧ τ = σ) := by
 unfold R23_asof at H
 refine ACall.pure (acall_start tk Tryz.func60 (by decide) rfl (nb rfl) ?_)
 have hH := Holds.init σ
 refine sr rfl (ma tk (eB false) rfl rfl (wpo_nil (sr rfl (mm tk (eI x0) rfl rfl ?_))))
 refine l_ H eB rfl (o_ar tk rfl rfl rfl) fun v2 H1 => ?_
 refine mm tk (eB v2) rfl rfl ?_
 refine if_split H1 (fun hb H3 => ?_) (fun hb H3 => ?_)
 ·subst hb
  refine k_ rfl (k_ rfl (pt tk (eB true) rfl rfl rfl (mm tk (eB true) rfl rfl (k_ rfl (k_ rfl (pt tk (eB true) rfl rfl rfl (mm tk (eB true) rfl rfl (k_ rfl ?_))))))))
  refine k_ rfl (pt tk (eB true) rfl rfl rfl (ma tk (eB true) rfl rfl (wpo_nil (awp_ret ?_))))
  obtain rfl := oi H3
  exact ⟨_, (eB true), rfl, wr, .of_eq ((enc_b td4 sz4).cut _ _ _), hH.noT⟩
 ·subst hb
  refine mm tk (eI x0) rfl rfl ?_
  refine l_ H3 eB rfl (o_ar tk rfl rfl rfl) fun v5 H4 => ?_
  refine pf tk (eB v5) rfl rfl rfl (mm tk (eB v5) rfl rfl ?_)
  refine if_split H4 (fun hb H6 => ?_) (fun hb H6 => ?_)
  ·subst hb
   refine k_ rfl (k_ rfl (pt tk (eB true) rfl rfl rfl (mm tk (eB true) rfl rfl (k_ rfl (k_ rfl (pt tk (eB true) rfl rfl rfl (ma tk (eB true) rfl rfl (wpo_nil ?_))))))))
   refine awp_ret ?_
   obtain rfl := oi H6
   exact ⟨_, (eB true), rfl, wr, .of_eq ((enc_b td4 sz4).cut _ _ _), hH.noT⟩
  ·subst hb
   refine mm tk (eI x0) rfl rfl ?_
   refine l_ H6 eB rfl (o_ar tk rfl rfl rfl) fun v8 H7 => ?_
   refine pf tk (eB v8) rfl rfl rfl (mm tk (eB v8) rfl rfl ?_)
   refine if_split H7 (fun hb H9 => ?_) (fun hb H9 => ?_)
   ·subst hb
    refine k_ rfl (k_ rfl (pt tk (eB true) rfl rfl rfl (ma tk (eB true) rfl rfl (wpo_nil (awp_ret ?_)))))
    obtain rfl := oi H9
    exact ⟨_, (eB true), rfl, wr, .of_eq ((enc_b td4 sz4).cut _ _ _), hH.noT⟩
   ·subst hb
    refine mm tk (eI x0) rfl rfl ?_
    refine l_ H9 eB rfl (o_ar tk rfl rfl rfl) fun v11 H10 => ?_
    refine pf tk (eB v11) rfl rfl rfl (ma tk (eB v11) rfl rfl (wpo_nil (awp_ret ?_)))
    obtain rfl := oi H10
    exact ⟨_, (eB v11), rfl, wr, .of_eq ((enc_b td4 sz4).cut _ _ _), hH.noT⟩
theorem R02_Key_ok {x0 : List (BitVec 8)} {r : Int} (H : R02_Key x0 = some r) (σ : St)  : ACall Tryz.prog 80 [(eS x0)] σ (fun a τ => a = eI r ∧ τ = σ) := by
 unfold R02_Key at H
 refine ACall.pure (acall_start tk Tryz.func80 (by decide) rfl (nb rfl) ?_)
 have hH := Holds.init σ
 refine sr rfl (ma tk (eI (0 : Int)) rfl rfl (wpo_nil (awp_seq (sr rfl (mm tk (eS x0) rfl rfl ?_)))))
 refine l_ H eB rfl (o_eql_s tk rfl rfl) fun v2 H1 => ?_
 refine wpo_nil ?_
 refine awp_if H1 rfl (fun H3 => ?_) (fun H3 => ?_)
 ·refine sr rfl (ma tk (eI (1 : Int)) rfl rfl (wpo_nil (awp_ret ?_)))
  obtain rfl := oi H3
  exact ⟨_, (eI (1 : Int)), rfl, wr, .of_eq ((enc_i64 td53 sz53).cut _ _ _), hH.noT⟩
 ·refine awp_skip (awp_seq (sr rfl (mm tk (eS x0) rfl rfl ?_)))
  refine l_ H3 eI rfl (o_len_s tk td9 rfl) fun v5 H4 => ?_
  refine l_ H4 eB rfl (o_ar tk rfl rfl rfl) fun v7 H6 => ?_
  refine wpo_nil ?_
  refine awp_if H6 rfl (fun H8 => ?_) (fun H8 => ?_)
  ·refine sr rfl (ma tk (eI (3 : Int)) rfl rfl (wpo_nil (awp_ret ?_)))
   obtain rfl := oi H8
   exact ⟨_, (eI (3 : Int)), rfl, wr, .of_eq ((enc_i64 td53 sz53).cut _ _ _), hH.noT⟩
  ·refine awp_skip (sr rfl (ma tk (eI (0 : Int)) rfl rfl (wpo_nil (awp_ret ?_))))
   obtain rfl := oi H8
   exact ⟨_, (eI (0 : Int)), rfl, wr, .of_eq ((enc_i64 td53 sz53).cut _ _ _), hH.noT⟩
theorem R06_Check_ok {x0 : api_Entry} {r : Int} (H : R06_Check x0 = some r) (σ : St)  : ACall Tryz.prog 81 [(e_api_Entry x0)] σ (fun a τ => a = eI r ∧ τ = σ) := by
 unfold R06_Check at H
 refine ACall.pure (acall_start tk Tryz.func81 (by decide) rfl (nb rfl) ?_)
 have hH := Holds.init σ
 refine sr rfl (m_ (.fptr (c_api_Entry x0) 0) rfl (o_boxf tk rfl wr (b := (e_api_Entry x0)) (enc42.flat _)) (ma tk (eI (0 : Int)) rfl rfl (wpo_nil (awp_seq (sr rfl (mc tk (.fptr (c_api_Entry x0) 0) rfl rfl (fun _ => rfl) (m_ (eS x0.Key) rfl (o_ld tk rfl rfl) ?_)))))))
 refine b_ H eI rfl (fun v2 hv => OpP.of_call rfl rfl (.cons wr .nil) (R02_Key_ok hv)) fun v2 hv2 H1 => ?_
 refine ma tk (eI v2) rfl rfl (wpo_nil (sr rfl (mm tk (eI v2) rfl rfl ?_)))
 refine l_ H1 eB rfl (o_ar tk rfl rfl rfl) fun v4 H3 => ?_
 refine wpo_nil ?_
 refine awp_if H3 rfl (fun H5 => ?_) (fun H5 => ?_)
 ·refine sr rfl (mm tk (eI v2) rfl rfl (ma tk (eI v2) rfl rfl (wpo_nil (awp_ret ?_))))
  obtain rfl := oi H5
  exact ⟨_, (eI v2), rfl, wr, .of_eq ((enc_i64 td53 sz53).cut _ _ _), hH.noT⟩
 ·refine awp_skip (awp_seq (awp_seq ?_))
  obtain ⟨s6, hs8, hj9⟩ := ob H5
  refine awp_cutn (fun fr τ => WkF fr (fm [(1, (.fptr (c_api_Entry x0) 0)), (39, (eB s6))]) ∧ Holds σ [] [] τ) ?_ ?_
  ·rintro fr τ ⟨hfr, hH⟩
   have H27 := hj9
   refine AWP.fm [(1, (.fptr (c_api_Entry x0) 0)), (39, (eB s6))] hfr ?_
   refine awp_if H27 rfl (fun H28 => ?_) (fun H28 => ?_)
   ·refine sr rfl (ma tk (eI (2 : Int)) rfl rfl (wpo_nil (awp_ret ?_)))
    obtain rfl := oi H28
    exact ⟨_, (eI (2 : Int)), rfl, wr, .of_eq ((enc_i64 td53 sz53).cut _ _ _), hH.noT⟩
   ·refine awp_skip (awp_seq (sr rfl (mc tk (.fptr (c_api_Entry x0) 4) rfl rfl (fun _ => rfl) (m_ ((eL 1 (@eU .u8 8)) x0.Value) rfl (o_ld tk rfl rfl) ?_))))
    refine l_ H28 eI rfl (o_len tk td40 rfl) fun v30 H29 => ?_
    refine l_ H29 eB rfl (o_ar tk rfl rfl rfl) fun v32 H31 => ?_
    refine wpo_nil ?_
    refine awp_if H31 rfl (fun H33 => ?_) (fun H33 => ?_)
    ·refine sr rfl (ma tk (eI (3 : Int)) rfl rfl (wpo_nil (awp_ret ?_)))
     obtain rfl := oi H33
     exact ⟨_, (eI (3 : Int)), rfl, wr, .of_eq ((enc_i64 td53 sz53).cut _ _ _), hH.noT⟩
    ·refine awp_skip (sr rfl (ma tk (eI (0 : Int)) rfl rfl (wpo_nil (awp_ret ?_))))
     obtain rfl := oi H33
     exact ⟨_, (eI (0 : Int)), rfl, wr, .of_eq ((enc_i64 td53 sz53).cut _ _ _), hH.noT⟩
  ·refine awp_region rfl (mc tk (.fptr (c_api_Entry x0) 1) rfl rfl (fun _ => rfl) (m_ (eI x0.Version) rfl (o_ld tk rfl rfl) ?_))
   refine l_ hs8 eB rfl (o_ar tk rfl rfl rfl) fun v11 H10 => ?_
   refine mm tk (eB v11) rfl rfl ?_
   refine if_split H10 (fun hb H12 => ?_) (fun hb H12 => ?_)
   ·subst hb
    refine k_ rfl (k_ rfl (k_ rfl (pt tk (eB true) rfl rfl rfl (mm tk (eB true) rfl rfl (k_ rfl (k_ rfl (k_ rfl (k_ rfl ?_))))))))
    refine k_ rfl (pt tk (eB true) rfl rfl rfl (mm tk (eB true) rfl rfl (k_ rfl (k_ rfl (k_ rfl (pt tk (eB true) rfl rfl rfl (mm tk (eB true) rfl rfl (k_ rfl ?_))))))))
    refine k_ rfl (k_ rfl (pt tk (eB true) rfl rfl rfl (mm tk (eB true) rfl rfl (k_ rfl (k_ rfl (k_ rfl (pt tk (eB true) rfl rfl rfl (wpo_nil ?_))))))))
    have e := oi H12
    subst e
    exact ⟨(wc (wc (wkf_nil _))), hH⟩
   ·subst hb
    refine mc tk (.fptr (c_api_Entry x0) 1) rfl rfl (fun _ => rfl) (m_ (eI x0.Version) rfl (o_ld tk rfl rfl) ?_)
    refine l_ H12 eB rfl (o_ar tk rfl rfl rfl) fun v14 H13 => ?_
    refine pf tk (eB v14) rfl rfl rfl (mm tk (eB v14) rfl rfl ?_)
    refine if_split H13 (fun hb H15 => ?_) (fun hb H15 => ?_)
    ·subst hb
     refine k_ rfl (k_ rfl (k_ rfl (k_ rfl (k_ rfl (pt tk (eB true) rfl rfl rfl (mm tk (eB true) rfl rfl (k_ rfl (k_ rfl ?_))))))))
     refine k_ rfl (pt tk (eB true) rfl rfl rfl (mm tk (eB true) rfl rfl (k_ rfl (k_ rfl (k_ rfl (pt tk (eB true) rfl rfl rfl (mm tk (eB true) rfl rfl (k_ rfl ?_))))))))
     refine k_ rfl (k_ rfl (pt tk (eB true) rfl rfl rfl (wpo_nil ?_)))
     have e := oi H15
     subst e
     exact ⟨(wc (wc (wkf_nil _))), hH⟩
    ·subst hb
     refine mc tk (.fptr (c_api_Entry x0) 2) rfl rfl (fun _ => rfl) (m_ (eI x0.AsOf) rfl (o_ld tk rfl rfl) (mc tk (.fptr (c_api_Entry x0) 1) rfl rfl (fun _ => rfl) (m_ (eI x0.Version) rfl (o_ld tk rfl rfl) ?_)))
     refine l_ H15 eB rfl (o_ar tk rfl rfl rfl) fun v17 H16 => ?_
     refine pf tk (eB v17) rfl rfl rfl (mm tk (eB v17) rfl rfl ?_)
     refine if_split H16 (fun hb H18 => ?_) (fun hb H18 => ?_)
     ·subst hb
      refine k_ rfl (k_ rfl (k_ rfl (pt tk (eB true) rfl rfl rfl (mm tk (eB true) rfl rfl (k_ rfl (k_ rfl (k_ rfl (pt tk (eB true) rfl rfl rfl ?_))))))))
      refine mm tk (eB true) rfl rfl (k_ rfl (k_ rfl (k_ rfl (pt tk (eB true) rfl rfl rfl (wpo_nil ?_)))))
      have e := oi H18
      subst e
      exact ⟨(wc (wc (wkf_nil _))), hH⟩
     ·subst hb
      refine mc tk (.fptr (c_api_Entry x0) 2) rfl rfl (fun _ => rfl) (m_ (eI x0.AsOf) rfl (o_ld tk rfl rfl) ?_)
      refine l_ H18 eB rfl (o_ar tk rfl rfl rfl) fun v20 H19 => ?_
      refine pf tk (eB v20) rfl rfl rfl (mm tk (eB v20) rfl rfl ?_)
      refine if_split H19 (fun hb H21 => ?_) (fun hb H21 => ?_)
      ·subst hb
       refine k_ rfl (k_ rfl (k_ rfl (pt tk (eB true) rfl rfl rfl (mm tk (eB true) rfl rfl (k_ rfl (k_ rfl (k_ rfl (pt tk (eB true) rfl rfl rfl ?_))))))))
       refine wpo_nil ?_
       have e := oi H21
       subst e
       exact ⟨(wc (wc (wkf_nil _))), hH⟩
      ·subst hb
       refine mc tk (.fptr (c_api_Entry x0) 3) rfl rfl (fun _ => rfl) (m_ (eI x0.Ends) rfl (o_ld tk rfl rfl) ?_)
       refine l_ H21 eB rfl (o_ar tk rfl rfl rfl) fun v23 H22 => ?_
       refine pf tk (eB v23) rfl rfl rfl (mm tk (eB v23) rfl rfl ?_)
       refine if_split H22 (fun hb H24 => ?_) (fun hb H24 => ?_)
       ·subst hb
        refine k_ rfl (k_ rfl (k_ rfl (pt tk (eB true) rfl rfl rfl (wpo_nil ?_))))
        have e := oi H24
        subst e
        exact ⟨(wc (wc (wkf_nil _))), hH⟩
       ·subst hb
        refine mc tk (.fptr (c_api_Entry x0) 3) rfl rfl (fun _ => rfl) (m_ (eI x0.Ends) rfl (o_ld tk rfl rfl) ?_)
        refine l_ H24 eB rfl (o_ar tk rfl rfl rfl) fun v26 H25 => ?_
        refine pf tk (eB v26) rfl rfl rfl (wpo_nil ?_)
        have e := oi H25
        subst e
        exact ⟨(wc (wc (wkf_nil _))), hH⟩
theorem R23_fields_ok {x0 : api_Msg} {r : Int} (H : R23_fields x0 = some r) (σ : St)  : ACall Tryz.prog 54 [(e_api_Msg x0)] σ (fun a τ => a = eI r ∧ τ = σ) := by
 unfold R23_fields at H
 refine ACall.pure (acall_start tk Tryz.func54 (by decide) rfl (nb rfl) ?_)
 have hH := Holds.init σ
 refine sr rfl (m_ (.fptr (c_api_Msg x0) 0) rfl (o_boxf tk rfl wr (b := (e_api_Msg x0)) (enc44.flat _)) (ma tk (eI (0 : Int)) rfl rfl (wpo_nil (awp_seq (awp_seq ?_)))))
 obtain ⟨s1, hs3, hj4⟩ := ob H
 refine awp_cutn (fun fr τ => WkF fr (fm [(1, (.fptr (c_api_Msg x0) 0)), (16, (eB s1))]) ∧ Holds σ [] [] τ) ?_ ?_
 ·rintro fr τ ⟨hfr, hH⟩
  have H13 := hj4
  refine AWP.fm [(1, (.fptr (c_api_Msg x0) 0)), (16, (eB s1))] hfr ?_
  refine awp_if H13 rfl (fun H14 => ?_) (fun H14 => ?_)
  ·refine sr rfl (ma tk (eI (2 : Int)) rfl rfl (wpo_nil (awp_ret ?_)))
   obtain rfl := oi H14
   exact ⟨_, (eI (2 : Int)), rfl, wr, .of_eq ((enc_i64 td53 sz53).cut _ _ _), hH.noT⟩
  ·refine awp_skip (awp_seq (sr rfl (mc tk (.fptr (c_api_Msg x0) 0) rfl rfl (fun _ => rfl) (m_ (eI x0.Kind) rfl (o_ld tk rfl rfl) ?_))))
   refine b_ H14 eB rfl (fun v16 hv => OpP.of_call rfl rfl (.cons wr .nil) (R23_key_ok hv)) fun v16 hv16 H15 => ?_
   refine wpo_nil ?_
   obtain ⟨o18, hs19, hj20⟩ := ob H15
   refine awp_cutn (fun fr τ => ∃ s17 : Unit, o18 = .inl s17 ∧ WkF fr (fm [(1, (.fptr (c_api_Msg x0) 0))]) ∧ Holds σ [] [] τ) ?_ ?_
   ·rintro fr τ ⟨s17, rfl, hfr, hH⟩
    have H28 := hj20
    simp only [Sum.elim_inl] at H28
    refine AWP.fm [(1, (.fptr (c_api_Msg x0) 0))] hfr ?_
    refine awp_seq (awp_seq ?_)
    obtain ⟨s29, hs31, hj32⟩ := ob H28
    refine awp_cutn (fun fr τ => WkF fr (fm [(1, (.fptr (c_api_Msg x0) 0)), (41, (eB s29))]) ∧ Holds σ [] [] τ) ?_ ?_
    ·rintro fr τ ⟨hfr, hH⟩
     have H41 := hj32
     refine AWP.fm [(1, (.fptr (c_api_Msg x0) 0)), (41, (eB s29))] hfr ?_
     refine awp_if H41 rfl (fun H42 => ?_) (fun H42 => ?_)
     ·refine sr rfl (ma tk (eI (2 : Int)) rfl rfl (wpo_nil (awp_ret ?_)))
      obtain rfl := oi H42
      exact ⟨_, (eI (2 : Int)), rfl, wr, .of_eq ((enc_i64 td53 sz53).cut _ _ _), hH.noT⟩
     ·refine awp_skip (awp_seq (awp_seq ?_))
      obtain ⟨s43, hs45, hj46⟩ := ob H42
      refine awp_cutn (fun fr τ => WkF fr (fm [(1, (.fptr (c_api_Msg x0) 0)), (48, (eB s43))]) ∧ Holds σ [] [] τ) ?_ ?_
      ·rintro fr τ ⟨hfr, hH⟩
       have H50 := hj46
       refine AWP.fm [(1, (.fptr (c_api_Msg x0) 0)), (48, (eB s43))] hfr ?_
       refine awp_if H50 rfl (fun H51 => ?_) (fun H51 => ?_)
       ·refine sr rfl (mc tk (.fptr (c_api_Msg x0) 5) rfl rfl (fun _ => rfl) (m_ (e_api_Entry x0.X) rfl (o_ld tk rfl rfl) ?_))
        refine b_ H51 eI rfl (fun v53 hv => OpP.of_call rfl rfl (.cons wr .nil) (R06_Check_ok hv)) fun v53 hv53 H52 => ?_
        refine ma tk (eI v53) rfl rfl (wpo_nil (awp_ret ?_))
        obtain rfl := oi H52
        exact ⟨_, (eI v53), rfl, wr, .of_eq ((enc_i64 td53 sz53).cut _ _ _), hH.noT⟩
       ·refine awp_skip (sr rfl (ma tk (eI (0 : Int)) rfl rfl (wpo_nil (awp_ret ?_))))
        obtain rfl := oi H51
        exact ⟨_, (eI (0 : Int)), rfl, wr, .of_eq ((enc_i64 td53 sz53).cut _ _ _), hH.noT⟩
      ·refine awp_region rfl (mc tk (.fptr (c_api_Msg x0) 0) rfl rfl (fun _ => rfl) (m_ (eI x0.Kind) rfl (o_ld tk rfl rfl) ?_))
       refine l_ hs45 eB rfl (o_ar tk rfl rfl rfl) fun v48 H47 => ?_
       refine mm tk (eB v48) rfl rfl ?_
       refine if_split H47 (fun hb H49 => ?_) (fun hb H49 => ?_)
       ·subst hb
        refine mc tk (.fptr (c_api_Msg x0) 10) rfl rfl (fun _ => rfl) (m_ (eB x0.Found) rfl (o_ld tk rfl rfl) (pt tk (eB x0.Found) rfl rfl rfl (wpo_nil ?_)))
        have e := oi H49
        subst e
        exact ⟨(wc (wc (wkf_nil _))), hH⟩
       ·subst hb
        refine k_ rfl (k_ rfl (pf tk (eB false) rfl rfl rfl (wpo_nil ?_)))
        have e := oi H49
        subst e
        exact ⟨(wc (wc (wkf_nil _))), hH⟩
    ·refine awp_region rfl (mc tk (.fptr (c_api_Msg x0) 0) rfl rfl (fun _ => rfl) (m_ (eI x0.Kind) rfl (o_ld tk rfl rfl) ?_))
     refine b_ hs31 eB rfl (fun v34 hv => OpP.of_call rfl rfl (.cons wr .nil) (R23_asof_ok hv)) fun v34 hv34 H33 => ?_
     refine mm tk (eB v34) rfl rfl ?_
     refine if_split H33 (fun hb H35 => ?_) (fun hb H35 => ?_)
     ·subst hb
      refine mc tk (.fptr (c_api_Msg x0) 5) rfl rfl (fun _ => rfl) (mc tk (.fptr (c_api_Msg x0) 7) rfl rfl (fun _ => rfl) (m_ (eI x0.X.AsOf) rfl (o_ld tk rfl rfl) ?_))
      refine l_ H35 eB rfl (o_ar tk rfl rfl rfl) fun v37 H36 => ?_
      refine mm tk (eB v37) rfl rfl ?_
      refine if_split H36 (fun hb H38 => ?_) (fun hb H38 => ?_)
      ·subst hb
       refine k_ rfl (k_ rfl (k_ rfl (k_ rfl (pt tk (eB true) rfl rfl rfl (pt tk (eB true) rfl rfl rfl (wpo_nil ?_))))))
       have e := oi H38
       subst e
       exact ⟨(wc (wc (wkf_nil _))), hH⟩
      ·subst hb
       refine mc tk (.fptr (c_api_Msg x0) 5) rfl rfl (fun _ => rfl) (mc tk (.fptr (c_api_Msg x0) 7) rfl rfl (fun _ => rfl) (m_ (eI x0.X.AsOf) rfl (o_ld tk rfl rfl) ?_))
       refine l_ H38 eB rfl (o_ar tk rfl rfl rfl) fun v40 H39 => ?_
       refine pf tk (eB v40) rfl rfl rfl (pt tk (eB v40) rfl rfl rfl (wpo_nil ?_))
       have e := oi H39
       subst e
       exact ⟨(wc (wc (wkf_nil _))), hH⟩
     ·subst hb
      refine k_ rfl (k_ rfl (k_ rfl (k_ rfl (k_ rfl (k_ rfl (k_ rfl (k_ rfl (k_ rfl ?_))))))))
      refine k_ rfl (pf tk (eB false) rfl rfl rfl (wpo_nil ?_))
      have e := oi H35
      subst e
      exact ⟨(wc (wc (wkf_nil _))), hH⟩
   ·refine awp_if hs19 rfl (fun H21 => ?_) (fun H21 => ?_)
    ·refine sr rfl (mc tk (.fptr (c_api_Msg x0) 5) rfl rfl (fun _ => rfl) (mc tk (.fptr (c_api_Msg x0) 5) rfl rfl (fun _ => rfl) (m_ (eS x0.X.Key) rfl (o_ld tk rfl rfl) ?_)))
     refine b_ H21 eI rfl (fun v23 hv => OpP.of_call rfl rfl (.cons wr .nil) (R02_Key_ok hv)) fun v23 hv23 H22 => ?_
     refine ma tk (eI v23) rfl rfl (wpo_nil (sr rfl (mm tk (eI v23) rfl rfl ?_)))
     refine l_ H22 eB rfl (o_ar tk rfl rfl rfl) fun v25 H24 => ?_
     refine wpo_nil ?_
     refine awp_if H24 rfl (fun H26 => ?_) (fun H26 => ?_)
     ·refine sr rfl (mm tk (eI v23) rfl rfl (ma tk (eI v23) rfl rfl (wpo_nil (awp_ret ?_))))
      have e := oi H26
      rw [← e] at hj20
      have H27 := (show some _ = some _ from hj20)
      obtain rfl := oi H27
      exact ⟨_, (eI v23), rfl, wr, .of_eq ((enc_i64 td53 sz53).cut _ _ _), hH.noT⟩
     ·refine awp_skip ?_
      have e := oi H26
      exact ⟨(), e.symm, (wc (wkf_nil _)), hH⟩
    ·refine awp_skip ?_
     have e := oi H21
     exact ⟨(), e.symm, (wc (wkf_nil _)), hH⟩
 ·refine awp_region rfl (mc tk (.fptr (c_api_Msg x0) 0) rfl rfl (fun _ => rfl) (m_ (eI x0.Kind) rfl (o_ld tk rfl rfl) ?_))
  refine b_ hs3 eB rfl (fun v6 hv => OpP.of_call rfl rfl (.cons wr .nil) (R23_lease_ok hv)) fun v6 hv6 H5 => ?_
  refine mm tk (eB v6) rfl rfl ?_
  refine if_split H5 (fun hb H7 => ?_) (fun hb H7 => ?_)
  ·subst hb
   refine mc tk (.fptr (c_api_Msg x0) 4) rfl rfl (fun _ => rfl) (m_ (eI x0.Id) rfl (o_ld tk rfl rfl) ?_)
   refine l_ H7 eB rfl (o_ar tk rfl rfl rfl) fun v9 H8 => ?_
   refine mm tk (eB v9) rfl rfl ?_
   refine if_split H8 (fun hb H10 => ?_) (fun hb H10 => ?_)
   ·subst hb
    refine k_ rfl (k_ rfl (k_ rfl (pt tk (eB true) rfl rfl rfl (pt tk (eB true) rfl rfl rfl (wpo_nil ?_)))))
    have e := oi H10
    subst e
    exact ⟨(wc (wc (wkf_nil _))), hH⟩
   ·subst hb
    refine mc tk (.fptr (c_api_Msg x0) 4) rfl rfl (fun _ => rfl) (m_ (eI x0.Id) rfl (o_ld tk rfl rfl) ?_)
    refine l_ H10 eB rfl (o_ar tk rfl rfl rfl) fun v12 H11 => ?_
    refine pf tk (eB v12) rfl rfl rfl (pt tk (eB v12) rfl rfl rfl (wpo_nil ?_))
    have e := oi H11
    subst e
    exact ⟨(wc (wc (wkf_nil _))), hH⟩
  ·subst hb
   refine k_ rfl (k_ rfl (k_ rfl (k_ rfl (k_ rfl (k_ rfl (k_ rfl (k_ rfl (pf tk (eB false) rfl rfl rfl ?_))))))))
   refine wpo_nil ?_
   have e := oi H7
   subst e
   exact ⟨(wc (wc (wkf_nil _))), hH⟩
theorem R23_found_ok {x0 : Int} {r : Bool} (H : R23_found x0 = some r) (σ : St)  : ACall Tryz.prog 61 [(eI x0)] σ (fun a τ => a = eB r ∧ τ = σ) := by
 unfold R23_found at H
 refine ACall.pure (acall_start tk Tryz.func61 (by decide) rfl (nb rfl) ?_)
 have hH := Holds.init σ
 refine sr rfl (ma tk (eB false) rfl rfl (wpo_nil (sr rfl (mm tk (eI x0) rfl rfl ?_))))
 refine l_ H eB rfl (o_ar tk rfl rfl rfl) fun v2 H1 => ?_
 refine mm tk (eB v2) rfl rfl ?_
 refine if_split H1 (fun hb H3 => ?_) (fun hb H3 => ?_)
 ·subst hb
  refine k_ rfl (k_ rfl (pt tk (eB true) rfl rfl rfl (ma tk (eB true) rfl rfl (wpo_nil (awp_ret ?_)))))
  obtain rfl := oi H3
  exact ⟨_, (eB true), rfl, wr, .of_eq ((enc_b td4 sz4).cut _ _ _), hH.noT⟩
 ·subst hb
  refine mm tk (eI x0) rfl rfl ?_
  refine l_ H3 eB rfl (o_ar tk rfl rfl rfl) fun v5 H4 => ?_
  refine pf tk (eB v5) rfl rfl rfl (ma tk (eB v5) rfl rfl (wpo_nil (awp_ret ?_)))
  obtain rfl := oi H4
  exact ⟨_, (eB v5), rfl, wr, .of_eq ((enc_b td4 sz4).cut _ _ _), hH.noT⟩
theorem R23_only_ok {x0 : api_Msg} {r : api_Msg} (H : R23_only x0 = some r) (σ : St)  : ACall Tryz.prog 55 [(e_api_Msg x0)] σ (fun a τ => a = e_api_Msg r ∧ τ = σ) := by
 unfold R23_only at H
 refine ACall.pure (acall_start tk Tryz.func55 (by decide) rfl (nb rfl) ?_)
 have hH := Holds.init σ
 refine sr rfl (m_ (.fptr (c_api_Msg x0) 0) rfl (o_boxf tk rfl wr (b := (e_api_Msg x0)) (enc44.flat _)) ?_)
 refine wpo_a (av := fun id => .ref id 0) rfl rfl rfl (h_allocw tk hH ty44 (c_api_Msg z_api_Msg) (.cons wr (.cons wr (.cons wr (.cons wr (.cons wr (.cons wr (.cons wr (.cons wr (.cons wr (.cons (by exact wk_nils _) (.cons wr .nil)))))))))))) fun id1 τ ⟨hH, n2⟩ => ?_
 refine wpo_nil (sr rfl (mc tk (.fptr (c_api_Msg x0) 0) rfl rfl (fun _ => rfl) (m_ (eI x0.Kind) rfl (o_ld tk rfl rfl) (mc tk (.fptr (c_api_Msg x0) 1) rfl rfl (fun _ => rfl) (m_ (eI x0.From) rfl (o_ld tk rfl rfl) (mc tk (.fptr (c_api_Msg x0) 2) rfl rfl (fun _ => rfl) (m_ (eI x0.To) rfl (o_ld tk rfl rfl) (mc tk (.fptr (c_api_Msg x0) 3) rfl rfl (fun _ => rfl) ?_))))))))
 refine m_ (eI x0.Epoch) rfl (o_ld tk rfl rfl) ?_
 refine l_ H e_api_Msg rfl (o_cw tk false (a := .agg ([(eI x0.Kind)] ++ [(eI x0.From)] ++ [(eI x0.To)] ++ [(eI x0.Epoch)] ++ [AV.int .i64 0] ++ [AV.str ⟨#[]⟩, AV.int .i64 0, AV.int .i64 0, AV.int .i64 0, AV.nils] ++ [AV.bool false])) rfl (fun _ => rfl) (wk_agg (WkL.append (WkL.append (WkL.append (WkL.append (WkL.append (WkL.append (.refl _) (.refl _)) (.refl _)) (.refl _)) (.cons wr .nil)) (.cons wr (.cons wr (.cons wr (.cons wr (.cons (by exact wk_nils _) .nil)))))) (.cons wr .nil)))) fun v4 H3 => ?_
 refine wpo_a (av := fun id => .ref id 0) rfl rfl rfl (h_allocw tk hH ty44 (c_api_Msg z_api_Msg) (.cons wr (.cons wr (.cons wr (.cons wr (.cons wr (.cons wr (.cons wr (.cons wr (.cons wr (.cons (by exact wk_nils _) (.cons wr .nil)))))))))))) fun id5 τ ⟨hH, n6⟩ => ?_
 obtain ⟨c8, hc9, H7⟩ := lt_ex H3
 refine wpo_z rfl rfl (h_st tk hH 0 rfl ty44 (by simp) rfl rfl wr (b := (e_api_Msg v4)) (enc44.flat _) rfl (nb rfl) (c_api_Msg c8) (by rw [← hc9]; rfl)) fun τ hH => ?_
 refine wpo_nil (awp_seq (sr rfl (mc tk (.fptr (c_api_Msg x0) 0) rfl rfl (fun _ => rfl) (m_ (eI x0.Kind) rfl (o_ld tk rfl rfl) ?_))))
 refine b_ H7 eB rfl (fun v11 hv => OpP.of_call rfl rfl (.cons wr .nil) (R23_lease_ok hv)) fun v11 hv11 H10 => ?_
 refine wpo_nil ?_
 obtain ⟨s12, hs14, hj15⟩ := ob H10
 refine awp_cutn (fun fr τ => WkF fr (fm [(1, (.fptr (c_api_Msg x0) 0)), (2, (.ref id1 0)), (3, (.ref id5 0))]) ∧ Holds σ [(id5, (c_api_Msg s12)), (id1, (c_api_Msg z_api_Msg))] [] τ) ?_ ?_
 ·rintro fr τ ⟨hfr, hH⟩
  have H20 := hj15
  refine AWP.fm [(1, (.fptr (c_api_Msg x0) 0)), (2, (.ref id1 0)), (3, (.ref id5 0))] hfr ?_
  refine awp_seq (sr rfl (mc tk (.fptr (c_api_Msg x0) 0) rfl rfl (fun _ => rfl) (m_ (eI x0.Kind) rfl (o_ld tk rfl rfl) ?_)))
  refine b_ H20 eB rfl (fun v22 hv => OpP.of_call rfl rfl (.cons wr .nil) (R23_key_ok hv)) fun v22 hv22 H21 => ?_
  refine wpo_nil ?_
  obtain ⟨s23, hs25, hj26⟩ := ob H21
  refine awp_cutn (fun fr τ => WkF fr (fm [(1, (.fptr (c_api_Msg x0) 0)), (2, (.ref id1 0)), (3, (.ref id5 0))]) ∧ Holds σ [(id5, (c_api_Msg s23)), (id1, (c_api_Msg z_api_Msg))] [] τ) ?_ ?_
  ·rintro fr τ ⟨hfr, hH⟩
   have H31 := hj26
   refine AWP.fm [(1, (.fptr (c_api_Msg x0) 0)), (2, (.ref id1 0)), (3, (.ref id5 0))] hfr ?_
   refine awp_seq (sr rfl (mc tk (.fptr (c_api_Msg x0) 0) rfl rfl (fun _ => rfl) (m_ (eI x0.Kind) rfl (o_ld tk rfl rfl) ?_)))
   refine b_ H31 eB rfl (fun v33 hv => OpP.of_call rfl rfl (.cons wr .nil) (R23_asof_ok hv)) fun v33 hv33 H32 => ?_
   refine wpo_nil ?_
   obtain ⟨s34, hs36, hj37⟩ := ob H32
   refine awp_cutn (fun fr τ => WkF fr (fm [(1, (.fptr (c_api_Msg x0) 0)), (2, (.ref id1 0)), (3, (.ref id5 0))]) ∧ Holds σ [(id5, (c_api_Msg s34)), (id1, (c_api_Msg z_api_Msg))] [] τ) ?_ ?_
   ·rintro fr τ ⟨hfr, hH⟩
    have H42 := hj37
    refine AWP.fm [(1, (.fptr (c_api_Msg x0) 0)), (2, (.ref id1 0)), (3, (.ref id5 0))] hfr ?_
    refine awp_seq (sr rfl (mc tk (.fptr (c_api_Msg x0) 0) rfl rfl (fun _ => rfl) (m_ (eI x0.Kind) rfl (o_ld tk rfl rfl) ?_)))
    refine b_ H42 eB rfl (fun v44 hv => OpP.of_call rfl rfl (.cons wr .nil) (R23_found_ok hv)) fun v44 hv44 H43 => ?_
    refine wpo_nil ?_
    obtain ⟨s45, hs47, hj48⟩ := ob H43
    refine awp_cutn (fun fr τ => WkF fr (fm [(1, (.fptr (c_api_Msg x0) 0)), (2, (.ref id1 0)), (3, (.ref id5 0))]) ∧ Holds σ [(id5, (c_api_Msg s45)), (id1, (c_api_Msg z_api_Msg))] [] τ) ?_ ?_
    ·rintro fr τ ⟨hfr, hH⟩
     have H53 := hj48
     refine AWP.fm [(1, (.fptr (c_api_Msg x0) 0)), (2, (.ref id1 0)), (3, (.ref id5 0))] hfr ?_
     refine awp_seq (awp_seq ?_)
     obtain ⟨s54, hs56, hj57⟩ := ob H53
     refine awp_cutn (fun fr τ => WkF fr (fm [(1, (.fptr (c_api_Msg x0) 0)), (2, (.ref id1 0)), (3, (.ref id5 0)), (47, (eB s54))]) ∧ Holds σ [(id5, (c_api_Msg s45)), (id1, (c_api_Msg z_api_Msg))] [] τ) ?_ ?_
     ·rintro fr τ ⟨hfr, hH⟩
      have H61 := hj57
      refine AWP.fm [(1, (.fptr (c_api_Msg x0) 0)), (2, (.ref id1 0)), (3, (.ref id5 0)), (47, (eB s54))] hfr ?_
      refine awp_if H61 rfl (fun H62 => ?_) (fun H62 => ?_)
      ·refine awp_region rfl (mc tk (.fptr (c_api_Msg x0) 5) rfl rfl (fun _ => rfl) (m_ (e_api_Entry x0.X) rfl (o_ld tk rfl rfl) (mc tk (.ref id5 5) rfl rfl (fun _ => rfl) ?_)))
       obtain ⟨c64, hc65, H63⟩ := lt_ex H62
       refine wpo_z rfl rfl (h_st tk hH 0 rfl ty42 (by simp) rfl rfl wr (b := (e_api_Entry x0.X)) (enc42.flat _) rfl (nb rfl) (c_api_Msg c64) (by rw [← hc65]; rfl)) fun τ hH => ?_
       refine wpo_nil (sr rfl (wpo_rd (a := (e_api_Msg c64)) rfl rfl rfl (h_ld tk hH 0 rfl rfl rfl) ?_))
       obtain ⟨c67, hc68, H66⟩ := lt_ex H63
       refine wpo_z rfl rfl (h_st tk hH 1 rfl ty44 (by simp) rfl rfl wr (b := (e_api_Msg c64)) (enc44.flat _) rfl (nb rfl) (c_api_Msg c67) (by rw [← hc68]; rfl)) fun τ hH => ?_
       refine wpo_nil (awp_ret ?_)
       obtain rfl := oi H66
       exact ⟨_, (e_api_Msg c67), (ares_1 (ares_cell hH 1 rfl rfl rfl)), wr, .of_eq (enc44.cut _ _ _), ((hH.noT.drop n6).drop n2)⟩
      ·refine awp_skip (sr rfl (wpo_rd (a := (e_api_Msg s45)) rfl rfl rfl (h_ld tk hH 0 rfl rfl rfl) ?_))
       obtain ⟨c70, hc71, H69⟩ := lt_ex H62
       refine wpo_z rfl rfl (h_st tk hH 1 rfl ty44 (by simp) rfl rfl wr (b := (e_api_Msg s45)) (enc44.flat _) rfl (nb rfl) (c_api_Msg c70) (by rw [← hc71]; rfl)) fun τ hH => ?_
       refine wpo_nil (awp_ret ?_)
       obtain rfl := oi H69
       exact ⟨_, (e_api_Msg c70), (ares_1 (ares_cell hH 1 rfl rfl rfl)), wr, .of_eq (enc44.cut _ _ _), ((hH.noT.drop n6).drop n2)⟩
     ·refine awp_region rfl (mc tk (.fptr (c_api_Msg x0) 0) rfl rfl (fun _ => rfl) (m_ (eI x0.Kind) rfl (o_ld tk rfl rfl) ?_))
      refine l_ hs56 eB rfl (o_ar tk rfl rfl rfl) fun v59 H58 => ?_
      refine mm tk (eB v59) rfl rfl ?_
      refine if_split H58 (fun hb H60 => ?_) (fun hb H60 => ?_)
      ·subst hb
       refine mc tk (.fptr (c_api_Msg x0) 10) rfl rfl (fun _ => rfl) (m_ (eB x0.Found) rfl (o_ld tk rfl rfl) (pt tk (eB x0.Found) rfl rfl rfl (wpo_nil ?_)))
       have e := oi H60
       subst e
       exact ⟨(wc (wc (wc (wc (wkf_nil _))))), hH⟩
      ·subst hb
       refine k_ rfl (k_ rfl (pf tk (eB false) rfl rfl rfl (wpo_nil ?_)))
       have e := oi H60
       subst e
       exact ⟨(wc (wc (wc (wc (wkf_nil _))))), hH⟩
    ·refine awp_if hs47 rfl (fun H49 => ?_) (fun H49 => ?_)
     ·refine awp_region rfl (mc tk (.fptr (c_api_Msg x0) 10) rfl rfl (fun _ => rfl) (m_ (eB x0.Found) rfl (o_ld tk rfl rfl) (mc tk (.ref id5 10) rfl rfl (fun _ => rfl) ?_)))
      obtain ⟨c51, hc52, H50⟩ := lt_ex H49
      refine wpo_z rfl rfl (h_st tk hH 0 rfl ty4 (by simp) rfl rfl wr (b := (eB x0.Found)) rfl rfl (nb rfl) (c_api_Msg c51) (by rw [← hc52]; rfl)) fun τ hH => ?_
      refine wpo_nil ?_
      have e := oi H50
      subst e
      exact ⟨(wc (wc (wc (wkf_nil _)))), hH⟩
     ·refine awp_skip ?_
      have e := oi H49
      subst e
      exact ⟨(wc (wc (wc (wkf_nil _)))), hH⟩
   ·refine awp_if hs36 rfl (fun H38 => ?_) (fun H38 => ?_)
    ·refine awp_region rfl (mc tk (.fptr (c_api_Msg x0) 5) rfl rfl (fun _ => rfl) (mc tk (.fptr (c_api_Msg x0) 7) rfl rfl (fun _ => rfl) (m_ (eI x0.X.AsOf) rfl (o_ld tk rfl rfl) (mc tk (.ref id5 5) rfl rfl (fun _ => rfl) (mc tk (.ref id5 7) rfl rfl (fun _ => rfl) ?_)))))
     obtain ⟨c40, hc41, H39⟩ := lt_ex H38
     refine wpo_z rfl rfl (h_st tk hH 0 rfl ty3 (by simp) rfl rfl wr (b := (eI x0.X.AsOf)) rfl rfl (nb rfl) (c_api_Msg c40) (by rw [← hc41]; rfl)) fun τ hH => ?_
     refine wpo_nil ?_
     have e := oi H39
     subst e
     exact ⟨(wc (wc (wc (wkf_nil _)))), hH⟩
    ·refine awp_skip ?_
     have e := oi H38
     subst e
     exact ⟨(wc (wc (wc (wkf_nil _)))), hH⟩
  ·refine awp_if hs25 rfl (fun H27 => ?_) (fun H27 => ?_)
   ·refine awp_region rfl (mc tk (.fptr (c_api_Msg x0) 5) rfl rfl (fun _ => rfl) (mc tk (.fptr (c_api_Msg x0) 5) rfl rfl (fun _ => rfl) (m_ (eS x0.X.Key) rfl (o_ld tk rfl rfl) (mc tk (.ref id5 5) rfl rfl (fun _ => rfl) (mc tk (.ref id5 5) rfl rfl (fun _ => rfl) ?_)))))
    obtain ⟨c29, hc30, H28⟩ := lt_ex H27
    refine wpo_z rfl rfl (h_st tk hH 0 rfl ty9 (by simp) rfl rfl wr (b := (eS x0.X.Key)) rfl rfl (nb rfl) (c_api_Msg c29) (by rw [← hc30]; rfl)) fun τ hH => ?_
    refine wpo_nil ?_
    have e := oi H28
    subst e
    exact ⟨(wc (wc (wc (wkf_nil _)))), hH⟩
   ·refine awp_skip ?_
    have e := oi H27
    subst e
    exact ⟨(wc (wc (wc (wkf_nil _)))), hH⟩
 ·refine awp_if hs14 rfl (fun H16 => ?_) (fun H16 => ?_)
  ·refine awp_region rfl (mc tk (.fptr (c_api_Msg x0) 4) rfl rfl (fun _ => rfl) (m_ (eI x0.Id) rfl (o_ld tk rfl rfl) (mc tk (.ref id5 4) rfl rfl (fun _ => rfl) ?_)))
   obtain ⟨c18, hc19, H17⟩ := lt_ex H16
   refine wpo_z rfl rfl (h_st tk hH 0 rfl ty3 (by simp) rfl rfl wr (b := (eI x0.Id)) rfl rfl (nb rfl) (c_api_Msg c18) (by rw [← hc19]; rfl)) fun τ hH => ?_
   refine wpo_nil ?_
   have e := oi H17
   subst e
   exact ⟨(wc (wc (wc (wkf_nil _)))), hH⟩
  ·refine awp_skip ?_
   have e := oi H16
   subst e
   exact ⟨(wc (wc (wc (wkf_nil _)))), hH⟩
theorem R23_Check_ok {x0 : api_Msg} {r : Int} (H : R23_Check x0 = some r) (σ : St)  : ACall Tryz.prog 37 [(e_api_Msg x0)] σ (fun a τ => a = eI r ∧ τ = σ) := by
 unfold R23_Check at H
 refine ACall.pure (acall_start tk Tryz.func37 (by decide) rfl (nb rfl) ?_)
 have hH := Holds.init σ
 refine sr rfl (m_ (.fptr (c_api_Msg x0) 0) rfl (o_boxf tk rfl wr (b := (e_api_Msg x0)) (enc44.flat _)) (ma tk (eI (0 : Int)) rfl rfl (wpo_nil (awp_seq (awp_seq ?_)))))
 obtain ⟨s1, hs3, hj4⟩ := ob H
 refine awp_cutn (fun fr τ => WkF fr (fm [(1, (.fptr (c_api_Msg x0) 0)), (13, (eB s1))]) ∧ Holds σ [] [] τ) ?_ ?_
 ·rintro fr τ ⟨hfr, hH⟩
  have H10 := hj4
  refine AWP.fm [(1, (.fptr (c_api_Msg x0) 0)), (13, (eB s1))] hfr ?_
  refine awp_if H10 rfl (fun H11 => ?_) (fun H11 => ?_)
  ·refine sr rfl (ma tk (eI (12 : Int)) rfl rfl (wpo_nil (awp_ret ?_)))
   obtain rfl := oi H11
   exact ⟨_, (eI (12 : Int)), rfl, wr, .of_eq ((enc_i64 td53 sz53).cut _ _ _), hH.noT⟩
  ·refine awp_skip (sr rfl (mc tk (.fptr (c_api_Msg x0) 1) rfl rfl (fun _ => rfl) (m_ (eI x0.From) rfl (o_ld tk rfl rfl) (ma tk (eI x0.From) rfl rfl (wpo_nil (sr rfl (mc tk (.fptr (c_api_Msg x0) 2) rfl rfl (fun _ => rfl) (m_ (eI x0.To) rfl (o_ld tk rfl rfl) ?_))))))))
   refine ma tk (eI x0.To) rfl rfl (wpo_nil (awp_seq (awp_seq ?_)))
   obtain ⟨s12, hs14, hj15⟩ := ob H11
   refine awp_cutn (fun fr τ => WkF fr (fm [(1, (.fptr (c_api_Msg x0) 0)), (3, (eI x0.From)), (4, (eI x0.To)), (30, (eB s12))]) ∧ Holds σ [] [] τ) ?_ ?_
   ·rintro fr τ ⟨hfr, hH⟩
    have H24 := hj15
    refine AWP.fm [(1, (.fptr (c_api_Msg x0) 0)), (3, (eI x0.From)), (4, (eI x0.To)), (30, (eB s12))] hfr ?_
    obtain ⟨s25, hs27, hj28⟩ := ob H24
    refine awp_cutn (fun fr τ => WkF fr (fm [(1, (.fptr (c_api_Msg x0) 0)), (3, (eI s25.1)), (4, (eI s25.2))]) ∧ Holds σ [] [] τ) ?_ ?_
    ·rintro fr τ ⟨hfr, hH⟩
     have H30 := hj28
     refine AWP.fm [(1, (.fptr (c_api_Msg x0) 0)), (3, (eI s25.1)), (4, (eI s25.2))] hfr ?_
     refine awp_seq (awp_seq ?_)
     obtain ⟨s31, hs33, hj34⟩ := ob H30
     refine awp_cutn (fun fr τ => WkF fr (fm [(1, (.fptr (c_api_Msg x0) 0)), (54, (eB s31))]) ∧ Holds σ [] [] τ) ?_ ?_
     ·rintro fr τ ⟨hfr, hH⟩
      have H49 := hj34
      refine AWP.fm [(1, (.fptr (c_api_Msg x0) 0)), (54, (eB s31))] hfr ?_
      refine awp_if H49 rfl (fun H50 => ?_) (fun H50 => ?_)
      ·refine sr rfl (ma tk (eI (2 : Int)) rfl rfl (wpo_nil (awp_ret ?_)))
       obtain rfl := oi H50
       exact ⟨_, (eI (2 : Int)), rfl, wr, .of_eq ((enc_i64 td53 sz53).cut _ _ _), hH.noT⟩
      ·refine awp_skip (awp_seq (sr rfl (m_ (e_api_Msg x0) rfl (o_ld tk rfl rfl) ?_)))
       refine b_ H50 eI rfl (fun v52 hv => OpP.of_call rfl rfl (.cons wr .nil) (R23_fields_ok hv)) fun v52 hv52 H51 => ?_
       refine ma tk (eI v52) rfl rfl (wpo_nil (sr rfl (mm tk (eI v52) rfl rfl ?_)))
       refine l_ H51 eB rfl (o_ar tk rfl rfl rfl) fun v54 H53 => ?_
       refine wpo_nil ?_
       refine awp_if H53 rfl (fun H55 => ?_) (fun H55 => ?_)
       ·refine sr rfl (mm tk (eI v52) rfl rfl (ma tk (eI v52) rfl rfl (wpo_nil (awp_ret ?_))))
        obtain rfl := oi H55
        exact ⟨_, (eI v52), rfl, wr, .of_eq ((enc_i64 td53 sz53).cut _ _ _), hH.noT⟩
       ·refine awp_skip (awp_seq (awp_seq ?_))
        refine awp_drawS mixed [] rfl (by decide +kernel) rfl rfl ?_
        refine wpdS_mv (a := (e_api_Msg x0)) rfl rfl rfl (o_ld tk rfl rfl) (wpdS_mv (a := (e_api_Msg x0)) rfl rfl rfl (o_ld tk rfl rfl) ?_)
        refine wpdS_bd H55 e_api_Msg rfl rfl rfl (fun v57 hv => OpP.of_call rfl rfl (.cons wr .nil) (R23_only_ok hv)) fun v57 hv57 H56 => ?_
        refine wpdS_bd H56 eB rfl rfl rfl (fun v59 hv => OpP.of_call rfl rfl (.cons wr (.cons wr .nil)) (R23_Same_ok hv)) fun v59 hv59 H58 => ?_
        refine wpdS_lt H58 eB rfl rfl rfl (o_un tk rfl rfl) fun v61 H60 => ?_
        refine wpdS_nil ?_
        refine awp_if H60 rfl (fun H62 => ?_) (fun H62 => ?_)
        ·refine sr rfl (ma tk (eI (5 : Int)) rfl rfl (wpo_nil (awp_ret ?_)))
         obtain rfl := oi H62
         exact ⟨_, (eI (5 : Int)), rfl, wr, .of_eq ((enc_i64 td53 sz53).cut _ _ _), hH.noT⟩
        ·refine awp_skip (sr rfl (ma tk (eI (0 : Int)) rfl rfl (wpo_nil (awp_ret ?_))))
         obtain rfl := oi H62
         exact ⟨_, (eI (0 : Int)), rfl, wr, .of_eq ((enc_i64 td53 sz53).cut _ _ _), hH.noT⟩
     ·refine awp_region rfl (mm tk (eI s25.1) rfl rfl ?_)
      refine l_ hs33 eB rfl (o_ar tk rfl rfl rfl) fun v36 H35 => ?_
      refine mm tk (eB v36) rfl rfl ?_
      refine if_split H35 (fun hb H37 => ?_) (fun hb H37 => ?_)
      ·subst hb
       refine k_ rfl (k_ rfl (pt tk (eB true) rfl rfl rfl (mm tk (eB true) rfl rfl (k_ rfl (k_ rfl (pt tk (eB true) rfl rfl rfl (mm tk (eB true) rfl rfl (k_ rfl ?_))))))))
       refine k_ rfl (k_ rfl (pt tk (eB true) rfl rfl rfl (mm tk (eB true) rfl rfl (k_ rfl (k_ rfl (k_ rfl (pt tk (eB true) rfl rfl rfl (wpo_nil ?_))))))))
       have e := oi H37
       subst e
       exact ⟨(wc (wc (wkf_nil _))), hH⟩
      ·subst hb
       refine mm tk (eI s25.1) rfl rfl ?_
       refine l_ H37 eB rfl (o_ar tk rfl rfl rfl) fun v39 H38 => ?_
       refine pf tk (eB v39) rfl rfl rfl (mm tk (eB v39) rfl rfl ?_)
       refine if_split H38 (fun hb H40 => ?_) (fun hb H40 => ?_)
       ·subst hb
        refine k_ rfl (k_ rfl (pt tk (eB true) rfl rfl rfl (mm tk (eB true) rfl rfl (k_ rfl (k_ rfl (k_ rfl (pt tk (eB true) rfl rfl rfl (mm tk (eB true) rfl rfl ?_))))))))
        refine k_ rfl (k_ rfl (k_ rfl (pt tk (eB true) rfl rfl rfl (wpo_nil ?_))))
        have e := oi H40
        subst e
        exact ⟨(wc (wc (wkf_nil _))), hH⟩
       ·subst hb
        refine mm tk (eI s25.2) rfl rfl ?_
        refine l_ H40 eB rfl (o_ar tk rfl rfl rfl) fun v42 H41 => ?_
        refine pf tk (eB v42) rfl rfl rfl (mm tk (eB v42) rfl rfl ?_)
        refine if_split H41 (fun hb H43 => ?_) (fun hb H43 => ?_)
        ·subst hb
         refine k_ rfl (k_ rfl (k_ rfl (pt tk (eB true) rfl rfl rfl (mm tk (eB true) rfl rfl (k_ rfl (k_ rfl (k_ rfl (pt tk (eB true) rfl rfl rfl ?_))))))))
         refine wpo_nil ?_
         have e := oi H43
         subst e
         exact ⟨(wc (wc (wkf_nil _))), hH⟩
        ·subst hb
         refine mc tk (.fptr (c_api_Msg x0) 3) rfl rfl (fun _ => rfl) (m_ (eI x0.Epoch) rfl (o_ld tk rfl rfl) ?_)
         refine l_ H43 eB rfl (o_ar tk rfl rfl rfl) fun v45 H44 => ?_
         refine pf tk (eB v45) rfl rfl rfl (mm tk (eB v45) rfl rfl ?_)
         refine if_split H44 (fun hb H46 => ?_) (fun hb H46 => ?_)
         ·subst hb
          refine k_ rfl (k_ rfl (k_ rfl (pt tk (eB true) rfl rfl rfl (wpo_nil ?_))))
          have e := oi H46
          subst e
          exact ⟨(wc (wc (wkf_nil _))), hH⟩
         ·subst hb
          refine mc tk (.fptr (c_api_Msg x0) 3) rfl rfl (fun _ => rfl) (m_ (eI x0.Epoch) rfl (o_ld tk rfl rfl) ?_)
          refine l_ H46 eB rfl (o_ar tk rfl rfl rfl) fun v48 H47 => ?_
          refine pf tk (eB v48) rfl rfl rfl (wpo_nil ?_)
          have e := oi H47
          subst e
          exact ⟨(wc (wc (wkf_nil _))), hH⟩
    ·refine awp_if hs27 rfl (fun H29 => ?_) (fun H29 => ?_)
     ·refine sr rfl (mc tk (.fptr (c_api_Msg x0) 2) rfl rfl (fun _ => rfl) (m_ (eI x0.To) rfl (o_ld tk rfl rfl) (ma tk (eI x0.To) rfl rfl (wpo_nil (awp_region rfl (mc tk (.fptr (c_api_Msg x0) 1) rfl rfl (fun _ => rfl) (m_ (eI x0.From) rfl (o_ld tk rfl rfl) (ma tk (eI x0.From) rfl rfl ?_))))))))
      refine wpo_nil ?_
      have e := oi H29
      subst e
      exact ⟨(wc (wc (wc (wkf_nil _)))), hH⟩
     ·refine awp_skip ?_
      have e := oi H29
      subst e
      exact ⟨(wc (wc (wc (wkf_nil _)))), hH⟩
   ·refine awp_region rfl (mc tk (.fptr (c_api_Msg x0) 0) rfl rfl (fun _ => rfl) (m_ (eI x0.Kind) rfl (o_ld tk rfl rfl) ?_))
    refine l_ hs14 eB rfl (o_ar tk rfl rfl rfl) fun v17 H16 => ?_
    refine mm tk (eB v17) rfl rfl ?_
    refine if_split H16 (fun hb H18 => ?_) (fun hb H18 => ?_)
    ·subst hb
     refine k_ rfl (k_ rfl (k_ rfl (pt tk (eB true) rfl rfl rfl (mm tk (eB true) rfl rfl (k_ rfl (k_ rfl (k_ rfl (pt tk (eB true) rfl rfl rfl ?_))))))))
     refine wpo_nil ?_
     have e := oi H18
     subst e
     exact ⟨(wc (wc (wc (wc (wkf_nil _))))), hH⟩
    ·subst hb
     refine mc tk (.fptr (c_api_Msg x0) 0) rfl rfl (fun _ => rfl) (m_ (eI x0.Kind) rfl (o_ld tk rfl rfl) ?_)
     refine l_ H18 eB rfl (o_ar tk rfl rfl rfl) fun v20 H19 => ?_
     refine pf tk (eB v20) rfl rfl rfl (mm tk (eB v20) rfl rfl ?_)
     refine if_split H19 (fun hb H21 => ?_) (fun hb H21 => ?_)
     ·subst hb
      refine k_ rfl (k_ rfl (k_ rfl (pt tk (eB true) rfl rfl rfl (wpo_nil ?_))))
      have e := oi H21
      subst e
      exact ⟨(wc (wc (wc (wc (wkf_nil _))))), hH⟩
     ·subst hb
      refine mc tk (.fptr (c_api_Msg x0) 0) rfl rfl (fun _ => rfl) (m_ (eI x0.Kind) rfl (o_ld tk rfl rfl) ?_)
      refine l_ H21 eB rfl (o_ar tk rfl rfl rfl) fun v23 H22 => ?_
      refine pf tk (eB v23) rfl rfl rfl (wpo_nil ?_)
      have e := oi H22
      subst e
      exact ⟨(wc (wc (wc (wc (wkf_nil _))))), hH⟩
 ·refine awp_region rfl (mc tk (.fptr (c_api_Msg x0) 0) rfl rfl (fun _ => rfl) (m_ (eI x0.Kind) rfl (o_ld tk rfl rfl) ?_))
  refine l_ hs3 eB rfl (o_ar tk rfl rfl rfl) fun v6 H5 => ?_
  refine mm tk (eB v6) rfl rfl ?_
  refine if_split H5 (fun hb H7 => ?_) (fun hb H7 => ?_)
  ·subst hb
   refine k_ rfl (k_ rfl (k_ rfl (pt tk (eB true) rfl rfl rfl (wpo_nil ?_))))
   have e := oi H7
   subst e
   exact ⟨(wc (wc (wkf_nil _))), hH⟩
  ·subst hb
   refine mc tk (.fptr (c_api_Msg x0) 0) rfl rfl (fun _ => rfl) (m_ (eI x0.Kind) rfl (o_ld tk rfl rfl) ?_)
   refine l_ H7 eB rfl (o_ar tk rfl rfl rfl) fun v9 H8 => ?_
   refine pf tk (eB v9) rfl rfl rfl (wpo_nil ?_)
   have e := oi H8
   subst e
   exact ⟨(wc (wc (wkf_nil _))), hH⟩
theorem R26_with_ok {x0 : R26_Lines} {x1 : api_Msg} {x2 : Bool} {r : R26_Lines} (H : R26_with x0 x1 x2 = some r) (σ : St)  : ACall Tryz.prog 38 [(e_R26_Lines x0), (e_api_Msg x1), (eB x2)] σ (fun a τ => a = e_R26_Lines r ∧ τ = σ) := by
 unfold R26_with at H
 refine ACall.pure (acall_start tk Tryz.func38 (by decide) rfl (nb rfl) ?_)
 have hH := Holds.init σ
 refine sr rfl (m_ (.fptr (c_R26_Lines x0) 0) rfl (o_boxf tk rfl wr (b := (e_R26_Lines x0)) (enc30.flat _)) (m_ (.fptr (c_api_Msg x1) 0) rfl (o_boxf tk rfl wr (b := (e_api_Msg x1)) (enc44.flat _)) ?_))
 refine wpo_a (av := fun id => .ref id 0) rfl rfl rfl (h_alloc tk hH ty30 [AV.nils, AV.nils, (eI z_R26_Lines.Lost)] rfl) fun id1 τ ⟨hH, n2⟩ => ?_
 refine wpo_nil (sr rfl (mc tk (.fptr (c_R26_Lines x0) 2) rfl rfl (fun _ => rfl) (m_ (eI x0.Lost) rfl (o_ld tk rfl rfl) (mc tk (.agg [AV.nils, AV.nils, (eI (⟨([] : List api_Msg), ([] : List Bool), x0.Lost⟩ : R26_Lines).Lost)]) rfl rfl (fun _ => rfl) ?_))))
 refine wpo_a (av := fun id => .ref id 0) rfl rfl rfl (h_alloc tk hH ty30 [AV.nils, AV.nils, (eI z_R26_Lines.Lost)] rfl) fun id3 τ ⟨hH, n4⟩ => ?_
 refine wpo_z rfl rfl (h_st (y := (.agg [AV.nils, AV.nils, (eI (⟨([] : List api_Msg), ([] : List Bool), x0.Lost⟩ : R26_Lines).Lost)])) tk hH 0 rfl ty30 (by simp) rfl rfl wr (b := (.agg [AV.nils, AV.nils, (eI (⟨([] : List api_Msg), ([] : List Bool), x0.Lost⟩ : R26_Lines).Lost)])) rfl rfl (nb rfl) [AV.nils, AV.nils, (eI ((⟨([] : List api_Msg), ([] : List Bool), x0.Lost⟩ : R26_Lines) : R26_Lines).Lost)] rfl) fun τ hH => ?_
 refine wpo_nil (sr rfl (mc tk (.ref id3 0) rfl rfl (fun _ => rfl) (wpo_rd (a := AV.nils) rfl rfl rfl (h_ld tk hH 0 rfl rfl rfl) (mc tk (.fptr (c_R26_Lines x0) 0) rfl rfl (fun _ => rfl) (m_ ((eL 11 e_api_Msg) x0.L) rfl (o_ld tk rfl rfl) ?_)))))
 obtain ⟨v7, hv8, H6⟩ := ob H
 refine wpo_a (av := fun t => eT t 11 e_api_Msg v7) rfl rfl rfl (h_app0 tk hH hv8 td27 ty44 rfl (by decide) (.inl ⟨rfl, rfl⟩) (src_l td27 rfl)) fun tk9 τ hH => ?_
 refine mc tk (.ref id3 0) rfl rfl (fun _ => rfl) ?_
 refine wpo_z rfl rfl (h_st (y := (eT tk9 11 e_api_Msg v7)) tk hH 0 rfl ty27 (by simp) rfl rfl wr (b := (eT tk9 11 e_api_Msg v7)) rfl rfl (nb rfl) [(eT tk9 11 e_api_Msg ({ ((⟨([] : List api_Msg), ([] : List Bool), x0.Lost⟩ : R26_Lines) : R26_Lines) with L := v7 } : R26_Lines).L), AV.nils, (eI ({ ((⟨([] : List api_Msg), ([] : List Bool), x0.Lost⟩ : R26_Lines) : R26_Lines) with L := v7 } : R26_Lines).Lost)] rfl) fun τ hH => ?_
 refine wpo_nil (sr rfl (mc tk (.ref id3 0) rfl rfl (fun _ => rfl) (wpo_rd (a := (eT tk9 11 e_api_Msg ({ ((⟨([] : List api_Msg), ([] : List Bool), x0.Lost⟩ : R26_Lines) : R26_Lines) with L := v7 } : R26_Lines).L)) rfl rfl rfl (h_ld tk hH 0 rfl rfl rfl) (m_ (e_api_Msg x1) rfl (o_ld tk rfl rfl) ?_))))
 refine l_ H6 (eF 11 e_api_Msg) rfl (o_c tk false rfl (fun _ => rfl)) fun v12 H11 => ?_
 obtain ⟨v14, hv15, H13⟩ := ob H11
 refine wpo_a (av := fun t => eT t 11 e_api_Msg v14) rfl rfl rfl (h_app tk hH 0 hv15 rfl td27 ty44 rfl (by decide) rfl (src_l td27 rfl)) fun tk16 τ hH => ?_
 refine mc tk (.ref id3 0) rfl rfl (fun _ => rfl) ?_
 refine wpo_z rfl rfl (h_st (y := (eT tk16 11 e_api_Msg v14)) tk hH 0 rfl ty27 (by simp) rfl rfl wr (b := (eT tk16 11 e_api_Msg v14)) rfl rfl (nb rfl) [(eT tk16 11 e_api_Msg ({ ({ ((⟨([] : List api_Msg), ([] : List Bool), x0.Lost⟩ : R26_Lines) : R26_Lines) with L := v7 } : R26_Lines) with L := v14 } : R26_Lines).L), AV.nils, (eI ({ ({ ((⟨([] : List api_Msg), ([] : List Bool), x0.Lost⟩ : R26_Lines) : R26_Lines) with L := v7 } : R26_Lines) with L := v14 } : R26_Lines).Lost)] rfl) fun τ hH => ?_
 refine wpo_nil (sr rfl (mc tk (.ref id3 1) rfl rfl (fun _ => rfl) (wpo_rd (a := AV.nils) rfl rfl rfl (h_ld tk hH 0 rfl rfl rfl) (mc tk (.fptr (c_R26_Lines x0) 1) rfl rfl (fun _ => rfl) (m_ ((eL 1 eB) x0.Bad) rfl (o_ld tk rfl rfl) ?_)))))
 obtain ⟨v19, hv20, H18⟩ := ob H13
 refine wpo_a (av := fun t => eT t 1 eB v19) rfl rfl rfl (h_app0 tk hH hv20 td28 ty4 rfl (by decide) (.inl ⟨rfl, rfl⟩) (src_l td28 rfl)) fun tk21 τ hH => ?_
 refine mc tk (.ref id3 1) rfl rfl (fun _ => rfl) ?_
 refine wpo_z rfl rfl (h_st (y := (eT tk21 1 eB v19)) tk hH 0 rfl ty28 (by simp) rfl rfl wr (b := (eT tk21 1 eB v19)) rfl rfl (nb rfl) [(eT tk16 11 e_api_Msg ({ ({ ({ ((⟨([] : List api_Msg), ([] : List Bool), x0.Lost⟩ : R26_Lines) : R26_Lines) with L := v7 } : R26_Lines) with L := v14 } : R26_Lines) with Bad := v19 } : R26_Lines).L), (eT tk21 1 eB ({ ({ ({ ((⟨([] : List api_Msg), ([] : List Bool), x0.Lost⟩ : R26_Lines) : R26_Lines) with L := v7 } : R26_Lines) with L := v14 } : R26_Lines) with Bad := v19 } : R26_Lines).Bad), (eI ({ ({ ({ ((⟨([] : List api_Msg), ([] : List Bool), x0.Lost⟩ : R26_Lines) : R26_Lines) with L := v7 } : R26_Lines) with L := v14 } : R26_Lines) with Bad := v19 } : R26_Lines).Lost)] rfl) fun τ hH => ?_
 refine wpo_nil (sr rfl (mc tk (.ref id3 1) rfl rfl (fun _ => rfl) (wpo_rd (a := (eT tk21 1 eB ({ ({ ({ ((⟨([] : List api_Msg), ([] : List Bool), x0.Lost⟩ : R26_Lines) : R26_Lines) with L := v7 } : R26_Lines) with L := v14 } : R26_Lines) with Bad := v19 } : R26_Lines).Bad)) rfl rfl rfl (h_ld tk hH 0 rfl rfl rfl) (mm tk (eB x2) rfl rfl ?_))))
 refine l_ H18 (eF 1 eB) rfl (o_c tk false rfl (fun _ => rfl)) fun v24 H23 => ?_
 obtain ⟨v26, hv27, H25⟩ := ob H23
 refine wpo_a (av := fun t => eT t 1 eB v26) rfl rfl rfl (h_app tk hH 0 hv27 rfl td28 ty4 rfl (by decide) rfl (src_l td28 rfl)) fun tk28 τ hH => ?_
 refine mc tk (.ref id3 1) rfl rfl (fun _ => rfl) ?_
 refine wpo_z rfl rfl (h_st (y := (eT tk28 1 eB v26)) tk hH 0 rfl ty28 (by simp) rfl rfl wr (b := (eT tk28 1 eB v26)) rfl rfl (nb rfl) [(eT tk16 11 e_api_Msg ({ ({ ({ ({ ((⟨([] : List api_Msg), ([] : List Bool), x0.Lost⟩ : R26_Lines) : R26_Lines) with L := v7 } : R26_Lines) with L := v14 } : R26_Lines) with Bad := v19 } : R26_Lines) with Bad := v26 } : R26_Lines).L), (eT tk28 1 eB ({ ({ ({ ({ ((⟨([] : List api_Msg), ([] : List Bool), x0.Lost⟩ : R26_Lines) : R26_Lines) with L := v7 } : R26_Lines) with L := v14 } : R26_Lines) with Bad := v19 } : R26_Lines) with Bad := v26 } : R26_Lines).Bad), (eI ({ ({ ({ ({ ((⟨([] : List api_Msg), ([] : List Bool), x0.Lost⟩ : R26_Lines) : R26_Lines) with L := v7 } : R26_Lines) with L := v14 } : R26_Lines) with Bad := v19 } : R26_Lines) with Bad := v26 } : R26_Lines).Lost)] rfl) fun τ hH => ?_
 refine wpo_nil (sr rfl (wpo_rd (a := (.agg [(eT tk16 11 e_api_Msg ({ ({ ({ ({ ((⟨([] : List api_Msg), ([] : List Bool), x0.Lost⟩ : R26_Lines) : R26_Lines) with L := v7 } : R26_Lines) with L := v14 } : R26_Lines) with Bad := v19 } : R26_Lines) with Bad := v26 } : R26_Lines).L), (eT tk28 1 eB ({ ({ ({ ({ ((⟨([] : List api_Msg), ([] : List Bool), x0.Lost⟩ : R26_Lines) : R26_Lines) with L := v7 } : R26_Lines) with L := v14 } : R26_Lines) with Bad := v19 } : R26_Lines) with Bad := v26 } : R26_Lines).Bad), (eI ({ ({ ({ ({ ((⟨([] : List api_Msg), ([] : List Bool), x0.Lost⟩ : R26_Lines) : R26_Lines) with L := v7 } : R26_Lines) with L := v14 } : R26_Lines) with Bad := v19 } : R26_Lines) with Bad := v26 } : R26_Lines).Lost)])) rfl rfl rfl (h_ld tk hH 0 rfl rfl rfl) ?_))
 refine wpo_z rfl rfl (h_st (y := (.agg [(eT tk16 11 e_api_Msg ({ ({ ({ ({ ((⟨([] : List api_Msg), ([] : List Bool), x0.Lost⟩ : R26_Lines) : R26_Lines) with L := v7 } : R26_Lines) with L := v14 } : R26_Lines) with Bad := v19 } : R26_Lines) with Bad := v26 } : R26_Lines).L), (eT tk28 1 eB ({ ({ ({ ({ ((⟨([] : List api_Msg), ([] : List Bool), x0.Lost⟩ : R26_Lines) : R26_Lines) with L := v7 } : R26_Lines) with L := v14 } : R26_Lines) with Bad := v19 } : R26_Lines) with Bad := v26 } : R26_Lines).Bad), (eI ({ ({ ({ ({ ((⟨([] : List api_Msg), ([] : List Bool), x0.Lost⟩ : R26_Lines) : R26_Lines) with L := v7 } : R26_Lines) with L := v14 } : R26_Lines) with Bad := v19 } : R26_Lines) with Bad := v26 } : R26_Lines).Lost)])) tk hH 1 rfl ty30 (by simp) rfl rfl wr (b := (.agg [(eT tk16 11 e_api_Msg ({ ({ ({ ({ ((⟨([] : List api_Msg), ([] : List Bool), x0.Lost⟩ : R26_Lines) : R26_Lines) with L := v7 } : R26_Lines) with L := v14 } : R26_Lines) with Bad := v19 } : R26_Lines) with Bad := v26 } : R26_Lines).L), (eT tk28 1 eB ({ ({ ({ ({ ((⟨([] : List api_Msg), ([] : List Bool), x0.Lost⟩ : R26_Lines) : R26_Lines) with L := v7 } : R26_Lines) with L := v14 } : R26_Lines) with Bad := v19 } : R26_Lines) with Bad := v26 } : R26_Lines).Bad), (eI ({ ({ ({ ({ ((⟨([] : List api_Msg), ([] : List Bool), x0.Lost⟩ : R26_Lines) : R26_Lines) with L := v7 } : R26_Lines) with L := v14 } : R26_Lines) with Bad := v19 } : R26_Lines) with Bad := v26 } : R26_Lines).Lost)])) rfl rfl (nb rfl) [(eT tk16 11 e_api_Msg (({ ({ ({ ({ ((⟨([] : List api_Msg), ([] : List Bool), x0.Lost⟩ : R26_Lines) : R26_Lines) with L := v7 } : R26_Lines) with L := v14 } : R26_Lines) with Bad := v19 } : R26_Lines) with Bad := v26 } : R26_Lines) : R26_Lines).L), (eT tk28 1 eB (({ ({ ({ ({ ((⟨([] : List api_Msg), ([] : List Bool), x0.Lost⟩ : R26_Lines) : R26_Lines) with L := v7 } : R26_Lines) with L := v14 } : R26_Lines) with Bad := v19 } : R26_Lines) with Bad := v26 } : R26_Lines) : R26_Lines).Bad), (eI (({ ({ ({ ({ ((⟨([] : List api_Msg), ([] : List Bool), x0.Lost⟩ : R26_Lines) : R26_Lines) with L := v7 } : R26_Lines) with L := v14 } : R26_Lines) with Bad := v19 } : R26_Lines) with Bad := v26 } : R26_Lines) : R26_Lines).Lost)] rfl) fun τ hH => ?_
 refine wpo_nil (awp_ret ?_)
 obtain rfl := oi H25
 exact ⟨_, (e_R26_Lines (({ ({ ({ ({ ((⟨([] : List api_Msg), ([] : List Bool), x0.Lost⟩ : R26_Lines) : R26_Lines) with L := v7 } : R26_Lines) with L := v14 } : R26_Lines) with Bad := v19 } : R26_Lines) with Bad := v26 } : R26_Lines) : R26_Lines)), (ares_1 (ares_cell hH 1 rfl rfl rfl)), (wk_agg (.cons wk_no (.cons wk_no (.cons wr .nil)))), .of_eq (enc30.cut _ _ _), ((hH.noT.drop n4).drop n2)⟩
theorem R26_Send_ok {x0 : R26_Lines} {x1 : List api_Msg} {r : R26_Lines} (H : R26_Send x0 x1 = some r) (σ : St)  : ACall Tryz.prog 21 [(e_R26_Lines x0), ((eL 11 e_api_Msg) x1)] σ (fun a τ => a = e_R26_Lines r ∧ τ = σ) := by
 unfold R26_Send at H
 refine ACall.pure (acall_start tk Tryz.func21 (by decide) rfl (nb rfl) ?_)
 have hH := Holds.init σ
 refine sr rfl (m_ (.fptr (c_R26_Lines x0) 0) rfl (o_boxf tk rfl wr (b := (e_R26_Lines x0)) (enc30.flat _)) ?_)
 refine wpo_a (av := fun id => .ref id 0) rfl rfl rfl (h_alloc tk hH ty30 [AV.nils, AV.nils, (eI z_R26_Lines.Lost)] rfl) fun id1 τ ⟨hH, n2⟩ => ?_
 refine wpo_nil (sr rfl (m_ (e_R26_Lines x0) rfl (o_ld tk rfl rfl) ?_))
 refine wpo_a (av := fun id => .ref id 0) rfl rfl rfl (h_alloc tk hH ty30 [AV.nils, AV.nils, (eI z_R26_Lines.Lost)] rfl) fun id3 τ ⟨hH, n4⟩ => ?_
 refine wpo_z rfl rfl (h_st tk hH 0 rfl ty30 (by simp) rfl rfl wr (b := (e_R26_Lines x0)) (enc30.flat _) rfl (nb rfl) (c_R26_Lines (x0 : R26_Lines)) rfl) fun τ hH => ?_
 refine wpo_nil (awp_seq (sr rfl (ma tk (eI (0 : Int)) rfl rfl (wpo_nil (awp_block ?_)))))
 obtain ⟨s15, hs9, hj10⟩ := ob H
 refine awp_cutx 0 (fun fr τ => WkF fr (fm [(4, (.ref id1 0)), (5, (.ref id3 0))]) ∧ Holds σ [(id3, (c_R26_Lines s15)), (id1, [AV.nils, AV.nils, (eI z_R26_Lines.Lost)])] [] τ) ?_ ?_
 ·rintro fr τ ⟨hfr, hH⟩
  have H55 := hj10
  refine AWP.fm [(4, (.ref id1 0)), (5, (.ref id3 0))] hfr ?_
  refine sr rfl (wpo_rd (a := (e_R26_Lines s15)) rfl rfl rfl (h_ld tk hH 0 rfl rfl rfl) ?_)
  refine wpo_z rfl rfl (h_st tk hH 1 rfl ty30 (by simp) rfl rfl wr (b := (e_R26_Lines s15)) (enc30.flat _) rfl (nb rfl) (c_R26_Lines (s15 : R26_Lines)) rfl) fun τ hH => ?_
  refine wpo_nil (awp_ret ?_)
  obtain rfl := oi H55
  exact ⟨_, (e_R26_Lines (s15 : R26_Lines)), (ares_1 (ares_cell hH 1 rfl rfl rfl)), wr, .of_eq (enc30.cut _ _ _), ((hH.noT.drop n4).drop n2)⟩
 ·refine awp_loopO (body := fun s => R26_Send_b0 x1 s.1 s.2) hs9 (fun (s : Int × R26_Lines) fr τ => WkF fr (fm [(1, ((eL 11 e_api_Msg) x1)), (4, (.ref id1 0)), (5, (.ref id3 0)), (6, (eI s.1))]) ∧ Holds σ [(id3, (c_R26_Lines s.2)), (id1, [AV.nils, AV.nils, (eI z_R26_Lines.Lost)])] [] τ) ⟨(wc (wc (wc (wc (wkf_nil _))))), hH⟩ ?_
  rintro ⟨c6, c7⟩ fr τ y11 ⟨hfr, hH⟩ hb13 hy14
  have H16 : R26_Send_b0 x1 c6 c7 = some y11 := hb13
  unfold R26_Send_b0 at H16
  refine AWP.fm [(1, ((eL 11 e_api_Msg) x1)), (4, (.ref id1 0)), (5, (.ref id3 0)), (6, (eI c6))] hfr ?_
  have hH : Holds σ [(id3, (c_R26_Lines c7)), (id1, [AV.nils, AV.nils, (eI z_R26_Lines.Lost)])] [] τ := hH
  refine awp_seq (sr rfl (mm tk (eI c6) rfl rfl (mm tk ((eL 11 e_api_Msg) x1) rfl rfl ?_)))
  refine l_ H16 eI rfl (o_len tk td27 rfl) fun v18 H17 => ?_
  refine l_ H17 eB rfl (o_ar tk rfl rfl rfl) fun v20 H19 => ?_
  refine wpo_nil ?_
  refine awp_if H19 rfl (fun H21 => ?_) (fun H21 => ?_)
  ·refine awp_skip (awp_seq (awp_block (awp_seq ?_)))
   obtain ⟨s22, hs24, hj25⟩ := ob H21
   refine awp_cutn (fun fr τ => WkF fr (fm [(1, ((eL 11 e_api_Msg) x1)), (4, (.ref id1 0)), (5, (.ref id3 0)), (6, (eI c6)), (25, (eB s22))]) ∧ Holds σ [(id3, (c_R26_Lines c7)), (id1, [AV.nils, AV.nils, (eI z_R26_Lines.Lost)])] [] τ) ?_ ?_
   ·rintro fr τ ⟨hfr, hH⟩
    have H37 := hj25
    refine AWP.fm [(1, ((eL 11 e_api_Msg) x1)), (4, (.ref id1 0)), (5, (.ref id3 0)), (6, (eI c6)), (25, (eB s22))] hfr ?_
    refine awp_if H37 rfl (fun H38 => ?_) (fun H38 => ?_)
    ·refine awp_region rfl (mc tk (.ref id3 2) rfl rfl (fun _ => rfl) (wpo_rd (a := (eI c7.Lost)) rfl rfl rfl (h_ld tk hH 0 rfl rfl rfl) ?_))
     refine l_ H38 eI rfl (o_ar tk rfl rfl rfl) fun v40 H39 => ?_
     refine mc tk (.ref id3 2) rfl rfl (fun _ => rfl) ?_
     obtain ⟨c42, hc43, H41⟩ := lt_ex H39
     refine wpo_z rfl rfl (h_st tk hH 0 rfl ty3 (by simp) rfl rfl wr (b := (eI v40)) rfl rfl (nb rfl) (c_R26_Lines c42) (by rw [← hc43]; rfl)) fun τ hH => ?_
     refine wpo_nil (awp_region rfl (mm tk (eI c6) rfl rfl ?_))
     refine l_ H41 eI rfl (o_ar tk rfl rfl rfl) fun v45 H44 => ?_
     refine ma tk (eI v45) rfl rfl (wpo_nil ?_)
     exact ⟨(v45, c42), inj_inl H44, (wc (wc (wc (wc (wkf_nil _))))), hH⟩
    ·refine awp_drawS mixed [6] rfl (by decide +kernel) rfl rfl ?_
     refine wpdS_rd (a := (e_R26_Lines c7)) rfl (by decide +kernel) rfl rfl (h_ld tk hH 0 rfl rfl rfl) (wpdS_mv (a := ((eL 11 e_api_Msg) x1)) rfl rfl rfl (o_mv tk rfl (Wk.refl _)) (wpdS_mv (a := (eI c6)) rfl rfl rfl (o_mv tk rfl (Wk.refl _)) ?_))
     refine wpdS_bd H38 (fun y => .fptr (e_api_Msg y).cells 0) rfl rfl rfl (fun v47 hv => o_ixa tk hv td27 enc44 rfl rfl) fun v47 hv47 H46 => ?_
     refine wpdS_mv (a := (e_api_Msg v47)) rfl rfl rfl (o_ld_e tk enc44 rfl rfl) ?_
     refine wpdS_bd H46 e_R26_Lines rfl rfl rfl (fun v49 hv => OpP.of_call rfl rfl (.cons wr (.cons wr (.cons wr .nil))) (R26_with_ok hv)) fun v49 hv49 H48 => ?_
     obtain ⟨c51, hc52, H50⟩ := lt_ex H48
     refine wpdS_z rfl rfl rfl (h_st tk hH 0 rfl ty30 (by simp) rfl rfl wr (b := (e_R26_Lines v49)) (enc30.flat _) rfl (nb rfl) (c_R26_Lines c51) (by rw [← hc52]; rfl)) fun τ hH => ?_
     refine wpdS_nil (awp_region rfl (mm tk (eI c6) rfl rfl ?_))
     refine l_ H50 eI rfl (o_ar tk rfl rfl rfl) fun v54 H53 => ?_
     refine ma tk (eI v54) rfl rfl (wpo_nil ?_)
     exact ⟨(v54, c51), inj_inl H53, (wc (wc (wc (wc (wkf_nil _))))), hH⟩
   ·refine awp_region rfl (mm tk ((eL 11 e_api_Msg) x1) rfl rfl (mm tk (eI c6) rfl rfl ?_))
    refine b_ hs24 (fun y => .fptr (e_api_Msg y).cells 0) rfl (fun v27 hv => o_ixa tk hv td27 enc44 rfl rfl) fun v27 hv27 H26 => ?_
    refine m_ (e_api_Msg v27) rfl (o_ld_e tk enc44 rfl rfl) ?_
    refine b_ H26 eI rfl (fun v29 hv => OpP.of_call rfl rfl (.cons wr .nil) (R23_Check_ok hv)) fun v29 hv29 H28 => ?_
    refine l_ H28 eB rfl (o_ar tk rfl rfl rfl) fun v31 H30 => ?_
    refine mm tk (eB v31) rfl rfl ?_
    refine if_split H30 (fun hb H32 => ?_) (fun hb H32 => ?_)
    ·subst hb
     refine k_ rfl (k_ rfl (k_ rfl (k_ rfl (pt tk (eB true) rfl rfl rfl (wpo_nil ?_)))))
     have e := oi H32
     subst e
     exact ⟨(wc (wc (wc (wc (wc (wkf_nil _)))))), hH⟩
    ·subst hb
     refine mc tk (.ref id3 0) rfl rfl (fun _ => rfl) (wpo_rd (a := ((eL 11 e_api_Msg) c7.L)) rfl rfl rfl (h_ld tk hH 0 rfl rfl rfl) ?_)
     refine l_ H32 eI rfl (o_len tk td27 rfl) fun v34 H33 => ?_
     refine l_ H33 eB rfl (o_ar tk rfl rfl rfl) fun v36 H35 => ?_
     refine pf tk (eB v36) rfl rfl rfl (wpo_nil ?_)
     have e := oi H35
     subst e
     exact ⟨(wc (wc (wc (wc (wc (wkf_nil _)))))), hH⟩
  ·refine awp_exit ?_
   have hz := hy14 _ (inj_inr H21)
   subst hz
   exact ⟨⟨_, inj_inr H21⟩, (wc (wc (wkf_nil _))), hH⟩
theorem R26_there_ok {x0 : R26_Lines} {x1 : Int} {r : Bool} (H : R26_there x0 x1 = some r) (σ : St)  : ACall Tryz.prog 40 [(e_R26_Lines x0), (eI x1)] σ (fun a τ => a = eB r ∧ τ = σ) := by
 unfold R26_there at H
 refine ACall.pure (acall_start tk Tryz.func40 (by decide) rfl (nb rfl) ?_)
 have hH := Holds.init σ
 refine sr rfl (m_ (.fptr (c_R26_Lines x0) 0) rfl (o_boxf tk rfl wr (b := (e_R26_Lines x0)) (enc30.flat _)) (ma tk (eB false) rfl rfl (wpo_nil (sr rfl (mm tk (eI x1) rfl rfl ?_)))))
 refine l_ H eB rfl (o_ar tk rfl rfl rfl) fun v2 H1 => ?_
 refine mm tk (eB v2) rfl rfl ?_
 refine if_split H1 (fun hb H3 => ?_) (fun hb H3 => ?_)
 ·subst hb
  refine mm tk (eI x1) rfl rfl (mc tk (.fptr (c_R26_Lines x0) 0) rfl rfl (fun _ => rfl) (m_ ((eL 11 e_api_Msg) x0.L) rfl (o_ld tk rfl rfl) ?_))
  refine l_ H3 eI rfl (o_len tk td27 rfl) fun v5 H4 => ?_
  refine l_ H4 eB rfl (o_ar tk rfl rfl rfl) fun v7 H6 => ?_
  refine pt tk (eB v7) rfl rfl rfl (ma tk (eB v7) rfl rfl (wpo_nil (awp_ret ?_)))
  obtain rfl := oi H6
  exact ⟨_, (eB v7), rfl, wr, .of_eq ((enc_b td4 sz4).cut _ _ _), hH.noT⟩
 ·subst hb
  refine k_ rfl (k_ rfl (k_ rfl (k_ rfl (k_ rfl (pf tk (eB false) rfl rfl rfl (ma tk (eB false) rfl rfl (wpo_nil (awp_ret ?_))))))))
  obtain rfl := oi H3
  exact ⟨_, (eB false), rfl, wr, .of_eq ((enc_b td4 sz4).cut _ _ _), hH.noT⟩
theorem R26_Look_ok {x0 : R26_Lines} {x1 : Int} {r : api_Msg × Int} (H : R26_Look x0 x1 = some r) (σ : St)  : ACall Tryz.prog 26 [(e_R26_Lines x0), (eI x1)] σ (fun a τ => a = .tup [e_api_Msg r.1, eI r.2] ∧ τ = σ) := by
 unfold R26_Look at H
 refine ACall.pure (acall_start tk Tryz.func26 (by decide) rfl (nb rfl) ?_)
 have hH := Holds.init σ
 refine sr rfl (m_ (.fptr (c_R26_Lines x0) 0) rfl (o_boxf tk rfl wr (b := (e_R26_Lines x0)) (enc30.flat _)) ?_)
 refine wpo_a (av := fun id => .ref id 0) rfl rfl rfl (h_allocw tk hH ty44 (c_api_Msg z_api_Msg) (.cons wr (.cons wr (.cons wr (.cons wr (.cons wr (.cons wr (.cons wr (.cons wr (.cons wr (.cons (by exact wk_nils _) (.cons wr .nil)))))))))))) fun id1 τ ⟨hH, n2⟩ => ?_
 refine ma tk (eI (0 : Int)) rfl rfl (wpo_nil (awp_seq (sr rfl (m_ (e_R26_Lines x0) rfl (o_ld tk rfl rfl) (mm tk (eI x1) rfl rfl ?_)))))
 refine b_ H eB rfl (fun v4 hv => OpP.of_call rfl rfl (.cons wr (.cons wr .nil)) (R26_there_ok hv)) fun v4 hv4 H3 => ?_
 refine l_ H3 eB rfl (o_un tk rfl rfl) fun v6 H5 => ?_
 refine wpo_nil ?_
 refine awp_if H5 rfl (fun H7 => ?_) (fun H7 => ?_)
 ·refine sr rfl ?_
  refine l_ H7 e_api_Msg rfl (o_cw tk false (a := .agg ([AV.int .i64 0] ++ [AV.int .i64 0] ++ [AV.int .i64 0] ++ [AV.int .i64 0] ++ [AV.int .i64 0] ++ [AV.str ⟨#[]⟩, AV.int .i64 0, AV.int .i64 0, AV.int .i64 0, AV.nils] ++ [AV.bool false])) rfl (fun _ => rfl) (wk_agg (WkL.append (WkL.append (WkL.append (WkL.append (WkL.append (WkL.append (.cons wr .nil) (.cons wr .nil)) (.cons wr .nil)) (.cons wr .nil)) (.cons wr .nil)) (.cons wr (.cons wr (.cons wr (.cons wr (.cons (by exact wk_nils _) .nil)))))) (.cons wr .nil)))) fun v9 H8 => ?_
  obtain ⟨c11, hc12, H10⟩ := lt_ex H8
  refine wpo_z rfl rfl (h_st tk hH 0 rfl ty44 (by simp) rfl rfl wr (b := (e_api_Msg v9)) (enc44.flat _) rfl (nb rfl) (c_api_Msg c11) (by rw [← hc12]; rfl)) fun τ hH => ?_
  refine ma tk (eI (9 : Int)) rfl rfl (wpo_nil (awp_ret ?_))
  obtain rfl := oi H10
  exact ⟨_, (.tup [(e_api_Msg c11), (eI (9 : Int))]), (ares_2 (ares_cell hH 0 rfl rfl rfl) rfl), (wk_tup (.cons wr (.cons wr .nil))), .of_eq (by simp only [cutAV, cutL, enc44.cut _ _ _, (enc_i64 td53 sz53).cut _ _ _]), (hH.noT.drop n2)⟩
 ·refine awp_skip (awp_seq (sr rfl (mc tk (.fptr (c_R26_Lines x0) 1) rfl rfl (fun _ => rfl) (m_ ((eL 1 eB) x0.Bad) rfl (o_ld tk rfl rfl) (mm tk (eI x1) rfl rfl ?_)))))
  refine b_ H7 (fun y => .fptr (eB y).cells 0) rfl (fun v14 hv => o_ixa tk hv td28 (enc_b td4 sz4) rfl rfl) fun v14 hv14 H13 => ?_
  refine m_ (eB v14) rfl (o_ld_e tk (enc_b td4 sz4) rfl rfl) (wpo_nil ?_)
  refine awp_if H13 rfl (fun H15 => ?_) (fun H15 => ?_)
  ·refine sr rfl ?_
   refine l_ H15 e_api_Msg rfl (o_cw tk false (a := .agg ([AV.int .i64 0] ++ [AV.int .i64 0] ++ [AV.int .i64 0] ++ [AV.int .i64 0] ++ [AV.int .i64 0] ++ [AV.str ⟨#[]⟩, AV.int .i64 0, AV.int .i64 0, AV.int .i64 0, AV.nils] ++ [AV.bool false])) rfl (fun _ => rfl) (wk_agg (WkL.append (WkL.append (WkL.append (WkL.append (WkL.append (WkL.append (.cons wr .nil) (.cons wr .nil)) (.cons wr .nil)) (.cons wr .nil)) (.cons wr .nil)) (.cons wr (.cons wr (.cons wr (.cons wr (.cons (by exact wk_nils _) .nil)))))) (.cons wr .nil)))) fun v17 H16 => ?_
   obtain ⟨c19, hc20, H18⟩ := lt_ex H16
   refine wpo_z rfl rfl (h_st tk hH 0 rfl ty44 (by simp) rfl rfl wr (b := (e_api_Msg v17)) (enc44.flat _) rfl (nb rfl) (c_api_Msg c19) (by rw [← hc20]; rfl)) fun τ hH => ?_
   refine ma tk (eI (7 : Int)) rfl rfl (wpo_nil (awp_ret ?_))
   obtain rfl := oi H18
   exact ⟨_, (.tup [(e_api_Msg c19), (eI (7 : Int))]), (ares_2 (ares_cell hH 0 rfl rfl rfl) rfl), (wk_tup (.cons wr (.cons wr .nil))), .of_eq (by simp only [cutAV, cutL, enc44.cut _ _ _, (enc_i64 td53 sz53).cut _ _ _]), (hH.noT.drop n2)⟩
  ·refine awp_skip (sr rfl (mc tk (.fptr (c_R26_Lines x0) 0) rfl rfl (fun _ => rfl) (m_ ((eL 11 e_api_Msg) x0.L) rfl (o_ld tk rfl rfl) (mm tk (eI x1) rfl rfl ?_))))
   refine b_ H15 (fun y => .fptr (e_api_Msg y).cells 0) rfl (fun v22 hv => o_ixa tk hv td27 enc44 rfl rfl) fun v22 hv22 H21 => ?_
   refine m_ (e_api_Msg v22) rfl (o_ld_e tk enc44 rfl rfl) ?_
   obtain ⟨c24, hc25, H23⟩ := lt_ex H21
   refine wpo_z rfl rfl (h_st tk hH 0 rfl ty44 (by simp) rfl rfl wr (b := (e_api_Msg v22)) (enc44.flat _) rfl (nb rfl) (c_api_Msg c24) (by rw [← hc25]; rfl)) fun τ hH => ?_
   refine ma tk (eI (0 : Int)) rfl rfl (wpo_nil (awp_ret ?_))
   obtain rfl := oi H23
   exact ⟨_, (.tup [(e_api_Msg c24), (eI (0 : Int))]), (ares_2 (ares_cell hH 0 rfl rfl rfl) rfl), (wk_tup (.cons wr (.cons wr .nil))), .of_eq (by simp only [cutAV, cutL, enc44.cut _ _ _, (enc_i64 td53 sz53).cut _ _ _]), (hH.noT.drop n2)⟩
theorem R26_but_ok {x0 : R26_Lines} {x1 : Int} {r : R26_Lines} (H : R26_but x0 x1 = some r) (σ : St)  : ACall Tryz.prog 39 [(e_R26_Lines x0), (eI x1)] σ (fun a τ => a = e_R26_Lines r ∧ τ = σ) := by
 unfold R26_but at H
 refine ACall.pure (acall_start tk Tryz.func39 (by decide) rfl (nb rfl) ?_)
 have hH := Holds.init σ
 refine sr rfl (m_ (.fptr (c_R26_Lines x0) 0) rfl (o_boxf tk rfl wr (b := (e_R26_Lines x0)) (enc30.flat _)) ?_)
 refine wpo_a (av := fun id => .ref id 0) rfl rfl rfl (h_alloc tk hH ty30 [AV.nils, AV.nils, (eI z_R26_Lines.Lost)] rfl) fun id1 τ ⟨hH, n2⟩ => ?_
 refine wpo_nil (sr rfl (mc tk (.fptr (c_R26_Lines x0) 2) rfl rfl (fun _ => rfl) (m_ (eI x0.Lost) rfl (o_ld tk rfl rfl) (mc tk (.agg [AV.nils, AV.nils, (eI (⟨([] : List api_Msg), ([] : List Bool), x0.Lost⟩ : R26_Lines).Lost)]) rfl rfl (fun _ => rfl) ?_))))
 refine wpo_a (av := fun id => .ref id 0) rfl rfl rfl (h_alloc tk hH ty30 [AV.nils, AV.nils, (eI z_R26_Lines.Lost)] rfl) fun id3 τ ⟨hH, n4⟩ => ?_
 refine wpo_z rfl rfl (h_st (y := (.agg [AV.nils, AV.nils, (eI (⟨([] : List api_Msg), ([] : List Bool), x0.Lost⟩ : R26_Lines).Lost)])) tk hH 0 rfl ty30 (by simp) rfl rfl wr (b := (.agg [AV.nils, AV.nils, (eI (⟨([] : List api_Msg), ([] : List Bool), x0.Lost⟩ : R26_Lines).Lost)])) rfl rfl (nb rfl) [AV.nils, AV.nils, (eI ((⟨([] : List api_Msg), ([] : List Bool), x0.Lost⟩ : R26_Lines) : R26_Lines).Lost)] rfl) fun τ hH => ?_
 refine wpo_nil (awp_seq ?_)
 refine awp_drawS mixed [6, 8] rfl (by decide +kernel) rfl rfl ?_
 refine wpdS_mv (a := (.ref id3 0)) rfl rfl rfl (o_c tk false rfl (fun _ => rfl)) (wpdS_rd (a := AV.nils) rfl (by decide +kernel) rfl rfl (h_ld tk hH 0 rfl rfl rfl) (wpdS_mv (a := (.fptr (c_R26_Lines x0) 0)) rfl rfl rfl (o_c tk false rfl (fun _ => rfl)) (wpdS_mv (a := ((eL 11 e_api_Msg) x0.L)) rfl rfl rfl (o_ld tk rfl rfl) (wpdS_mv (a := (eI x1)) rfl rfl rfl (o_mv tk rfl (Wk.refl _)) ?_))))
 refine wpdS_bd H (eL 11 e_api_Msg) rfl rfl rfl (fun v7 hv => o_cutTo tk hv td27 enc44 rfl rfl) fun v7 hv7 H6 => ?_
 obtain ⟨v9, hv10, H8⟩ := ob H6
 refine wpdS_a (av := fun t => eT t 11 e_api_Msg v9) rfl rfl rfl (h_app0 tk hH hv10 td27 ty44 rfl (by decide) (.inl ⟨rfl, rfl⟩) (src_l td27 rfl)) fun tk11 τ hH => ?_
 refine wpdS_mv (a := (.ref id3 0)) rfl rfl rfl (o_c tk false rfl (fun _ => rfl)) ?_
 refine wpdS_z rfl rfl rfl (h_st (y := (eT tk11 11 e_api_Msg v9)) tk hH 0 rfl ty27 (by simp) rfl rfl wr (b := (eT tk11 11 e_api_Msg v9)) rfl rfl (nb rfl) [(eT tk11 11 e_api_Msg ({ ((⟨([] : List api_Msg), ([] : List Bool), x0.Lost⟩ : R26_Lines) : R26_Lines) with L := v9 } : R26_Lines).L), AV.nils, (eI ({ ((⟨([] : List api_Msg), ([] : List Bool), x0.Lost⟩ : R26_Lines) : R26_Lines) with L := v9 } : R26_Lines).Lost)] rfl) fun τ hH => ?_
 refine wpdS_nil (awp_seq ?_)
 refine awp_drawS mixed [7, 9] rfl (by decide +kernel) rfl rfl ?_
 refine wpdS_mv (a := (.ref id3 0)) rfl rfl rfl (o_c tk false rfl (fun _ => rfl)) (wpdS_rd (a := (eT tk11 11 e_api_Msg ({ ((⟨([] : List api_Msg), ([] : List Bool), x0.Lost⟩ : R26_Lines) : R26_Lines) with L := v9 } : R26_Lines).L)) rfl (by decide +kernel) rfl rfl (h_ld tk hH 0 rfl rfl rfl) (wpdS_mv (a := (.fptr (c_R26_Lines x0) 0)) rfl rfl rfl (o_c tk false rfl (fun _ => rfl)) (wpdS_mv (a := ((eL 11 e_api_Msg) x0.L)) rfl rfl rfl (o_ld tk rfl rfl) (wpdS_mv (a := (eI x1)) rfl rfl rfl (o_mv tk rfl (Wk.refl _)) ?_))))
 refine wpdS_lt H8 eI rfl rfl rfl (o_ar tk rfl rfl rfl) fun v14 H13 => ?_
 refine wpdS_bd H13 (eL 11 e_api_Msg) rfl rfl rfl (fun v16 hv => o_cutFrom tk hv td27 enc44 rfl rfl) fun v16 hv16 H15 => ?_
 obtain ⟨v18, hv19, H17⟩ := ob H15
 refine wpdS_a (av := fun t => eT t 11 e_api_Msg v18) rfl rfl rfl (h_app tk hH 0 hv19 rfl td27 ty44 rfl (by decide) rfl (src_l td27 rfl)) fun tk20 τ hH => ?_
 refine wpdS_mv (a := (.ref id3 0)) rfl rfl rfl (o_c tk false rfl (fun _ => rfl)) ?_
 refine wpdS_z rfl rfl rfl (h_st (y := (eT tk20 11 e_api_Msg v18)) tk hH 0 rfl ty27 (by simp) rfl rfl wr (b := (eT tk20 11 e_api_Msg v18)) rfl rfl (nb rfl) [(eT tk20 11 e_api_Msg ({ ({ ((⟨([] : List api_Msg), ([] : List Bool), x0.Lost⟩ : R26_Lines) : R26_Lines) with L := v9 } : R26_Lines) with L := v18 } : R26_Lines).L), AV.nils, (eI ({ ({ ((⟨([] : List api_Msg), ([] : List Bool), x0.Lost⟩ : R26_Lines) : R26_Lines) with L := v9 } : R26_Lines) with L := v18 } : R26_Lines).Lost)] rfl) fun τ hH => ?_
 refine wpdS_nil (awp_seq ?_)
 refine awp_drawS mixed [6, 8] rfl (by decide +kernel) rfl rfl ?_
 refine wpdS_mv (a := (.ref id3 1)) rfl rfl rfl (o_c tk false rfl (fun _ => rfl)) (wpdS_rd (a := AV.nils) rfl (by decide +kernel) rfl rfl (h_ld tk hH 0 rfl rfl rfl) (wpdS_mv (a := (.fptr (c_R26_Lines x0) 1)) rfl rfl rfl (o_c tk false rfl (fun _ => rfl)) (wpdS_mv (a := ((eL 1 eB) x0.Bad)) rfl rfl rfl (o_ld tk rfl rfl) (wpdS_mv (a := (eI x1)) rfl rfl rfl (o_mv tk rfl (Wk.refl _)) ?_))))
 refine wpdS_bd H17 (eL 1 eB) rfl rfl rfl (fun v23 hv => o_cutTo tk hv td28 (enc_b td4 sz4) rfl rfl) fun v23 hv23 H22 => ?_
 obtain ⟨v25, hv26, H24⟩ := ob H22
 refine wpdS_a (av := fun t => eT t 1 eB v25) rfl rfl rfl (h_app0 tk hH hv26 td28 ty4 rfl (by decide) (.inl ⟨rfl, rfl⟩) (src_l td28 rfl)) fun tk27 τ hH => ?_
 refine wpdS_mv (a := (.ref id3 1)) rfl rfl rfl (o_c tk false rfl (fun _ => rfl)) ?_
 refine wpdS_z rfl rfl rfl (h_st (y := (eT tk27 1 eB v25)) tk hH 0 rfl ty28 (by simp) rfl rfl wr (b := (eT tk27 1 eB v25)) rfl rfl (nb rfl) [(eT tk20 11 e_api_Msg ({ ({ ({ ((⟨([] : List api_Msg), ([] : List Bool), x0.Lost⟩ : R26_Lines) : R26_Lines) with L := v9 } : R26_Lines) with L := v18 } : R26_Lines) with Bad := v25 } : R26_Lines).L), (eT tk27 1 eB ({ ({ ({ ((⟨([] : List api_Msg), ([] : List Bool), x0.Lost⟩ : R26_Lines) : R26_Lines) with L := v9 } : R26_Lines) with L := v18 } : R26_Lines) with Bad := v25 } : R26_Lines).Bad), (eI ({ ({ ({ ((⟨([] : List api_Msg), ([] : List Bool), x0.Lost⟩ : R26_Lines) : R26_Lines) with L := v9 } : R26_Lines) with L := v18 } : R26_Lines) with Bad := v25 } : R26_Lines).Lost)] rfl) fun τ hH => ?_
 refine wpdS_nil (awp_seq ?_)
 refine awp_drawS mixed [7, 9] rfl (by decide +kernel) rfl rfl ?_
 refine wpdS_mv (a := (.ref id3 1)) rfl rfl rfl (o_c tk false rfl (fun _ => rfl)) (wpdS_rd (a := (eT tk27 1 eB ({ ({ ({ ((⟨([] : List api_Msg), ([] : List Bool), x0.Lost⟩ : R26_Lines) : R26_Lines) with L := v9 } : R26_Lines) with L := v18 } : R26_Lines) with Bad := v25 } : R26_Lines).Bad)) rfl (by decide +kernel) rfl rfl (h_ld tk hH 0 rfl rfl rfl) (wpdS_mv (a := (.fptr (c_R26_Lines x0) 1)) rfl rfl rfl (o_c tk false rfl (fun _ => rfl)) (wpdS_mv (a := ((eL 1 eB) x0.Bad)) rfl rfl rfl (o_ld tk rfl rfl) (wpdS_mv (a := (eI x1)) rfl rfl rfl (o_mv tk rfl (Wk.refl _)) ?_))))
 refine wpdS_lt H24 eI rfl rfl rfl (o_ar tk rfl rfl rfl) fun v30 H29 => ?_
 refine wpdS_bd H29 (eL 1 eB) rfl rfl rfl (fun v32 hv => o_cutFrom tk hv td28 (enc_b td4 sz4) rfl rfl) fun v32 hv32 H31 => ?_
 obtain ⟨v34, hv35, H33⟩ := ob H31
 refine wpdS_a (av := fun t => eT t 1 eB v34) rfl rfl rfl (h_app tk hH 0 hv35 rfl td28 ty4 rfl (by decide) rfl (src_l td28 rfl)) fun tk36 τ hH => ?_
 refine wpdS_mv (a := (.ref id3 1)) rfl rfl rfl (o_c tk false rfl (fun _ => rfl)) ?_
 refine wpdS_z rfl rfl rfl (h_st (y := (eT tk36 1 eB v34)) tk hH 0 rfl ty28 (by simp) rfl rfl wr (b := (eT tk36 1 eB v34)) rfl rfl (nb rfl) [(eT tk20 11 e_api_Msg ({ ({ ({ ({ ((⟨([] : List api_Msg), ([] : List Bool), x0.Lost⟩ : R26_Lines) : R26_Lines) with L := v9 } : R26_Lines) with L := v18 } : R26_Lines) with Bad := v25 } : R26_Lines) with Bad := v34 } : R26_Lines).L), (eT tk36 1 eB ({ ({ ({ ({ ((⟨([] : List api_Msg), ([] : List Bool), x0.Lost⟩ : R26_Lines) : R26_Lines) with L := v9 } : R26_Lines) with L := v18 } : R26_Lines) with Bad := v25 } : R26_Lines) with Bad := v34 } : R26_Lines).Bad), (eI ({ ({ ({ ({ ((⟨([] : List api_Msg), ([] : List Bool), x0.Lost⟩ : R26_Lines) : R26_Lines) with L := v9 } : R26_Lines) with L := v18 } : R26_Lines) with Bad := v25 } : R26_Lines) with Bad := v34 } : R26_Lines).Lost)] rfl) fun τ hH => ?_
 refine wpdS_nil (sr rfl (wpo_rd (a := (.agg [(eT tk20 11 e_api_Msg ({ ({ ({ ({ ((⟨([] : List api_Msg), ([] : List Bool), x0.Lost⟩ : R26_Lines) : R26_Lines) with L := v9 } : R26_Lines) with L := v18 } : R26_Lines) with Bad := v25 } : R26_Lines) with Bad := v34 } : R26_Lines).L), (eT tk36 1 eB ({ ({ ({ ({ ((⟨([] : List api_Msg), ([] : List Bool), x0.Lost⟩ : R26_Lines) : R26_Lines) with L := v9 } : R26_Lines) with L := v18 } : R26_Lines) with Bad := v25 } : R26_Lines) with Bad := v34 } : R26_Lines).Bad), (eI ({ ({ ({ ({ ((⟨([] : List api_Msg), ([] : List Bool), x0.Lost⟩ : R26_Lines) : R26_Lines) with L := v9 } : R26_Lines) with L := v18 } : R26_Lines) with Bad := v25 } : R26_Lines) with Bad := v34 } : R26_Lines).Lost)])) rfl rfl rfl (h_ld tk hH 0 rfl rfl rfl) ?_))
 refine wpo_z rfl rfl (h_st (y := (.agg [(eT tk20 11 e_api_Msg ({ ({ ({ ({ ((⟨([] : List api_Msg), ([] : List Bool), x0.Lost⟩ : R26_Lines) : R26_Lines) with L := v9 } : R26_Lines) with L := v18 } : R26_Lines) with Bad := v25 } : R26_Lines) with Bad := v34 } : R26_Lines).L), (eT tk36 1 eB ({ ({ ({ ({ ((⟨([] : List api_Msg), ([] : List Bool), x0.Lost⟩ : R26_Lines) : R26_Lines) with L := v9 } : R26_Lines) with L := v18 } : R26_Lines) with Bad := v25 } : R26_Lines) with Bad := v34 } : R26_Lines).Bad), (eI ({ ({ ({ ({ ((⟨([] : List api_Msg), ([] : List Bool), x0.Lost⟩ : R26_Lines) : R26_Lines) with L := v9 } : R26_Lines) with L := v18 } : R26_Lines) with Bad := v25 } : R26_Lines) with Bad := v34 } : R26_Lines).Lost)])) tk hH 1 rfl ty30 (by simp) rfl rfl wr (b := (.agg [(eT tk20 11 e_api_Msg ({ ({ ({ ({ ((⟨([] : List api_Msg), ([] : List Bool), x0.Lost⟩ : R26_Lines) : R26_Lines) with L := v9 } : R26_Lines) with L := v18 } : R26_Lines) with Bad := v25 } : R26_Lines) with Bad := v34 } : R26_Lines).L), (eT tk36 1 eB ({ ({ ({ ({ ((⟨([] : List api_Msg), ([] : List Bool), x0.Lost⟩ : R26_Lines) : R26_Lines) with L := v9 } : R26_Lines) with L := v18 } : R26_Lines) with Bad := v25 } : R26_Lines) with Bad := v34 } : R26_Lines).Bad), (eI ({ ({ ({ ({ ((⟨([] : List api_Msg), ([] : List Bool), x0.Lost⟩ : R26_Lines) : R26_Lines) with L := v9 } : R26_Lines) with L := v18 } : R26_Lines) with Bad := v25 } : R26_Lines) with Bad := v34 } : R26_Lines).Lost)])) rfl rfl (nb rfl) [(eT tk20 11 e_api_Msg (({ ({ ({ ({ ((⟨([] : List api_Msg), ([] : List Bool), x0.Lost⟩ : R26_Lines) : R26_Lines) with L := v9 } : R26_Lines) with L := v18 } : R26_Lines) with Bad := v25 } : R26_Lines) with Bad := v34 } : R26_Lines) : R26_Lines).L), (eT tk36 1 eB (({ ({ ({ ({ ((⟨([] : List api_Msg), ([] : List Bool), x0.Lost⟩ : R26_Lines) : R26_Lines) with L := v9 } : R26_Lines) with L := v18 } : R26_Lines) with Bad := v25 } : R26_Lines) with Bad := v34 } : R26_Lines) : R26_Lines).Bad), (eI (({ ({ ({ ({ ((⟨([] : List api_Msg), ([] : List Bool), x0.Lost⟩ : R26_Lines) : R26_Lines) with L := v9 } : R26_Lines) with L := v18 } : R26_Lines) with Bad := v25 } : R26_Lines) with Bad := v34 } : R26_Lines) : R26_Lines).Lost)] rfl) fun τ hH => ?_
 refine wpo_nil (awp_ret ?_)
 obtain rfl := oi H33
 exact ⟨_, (e_R26_Lines (({ ({ ({ ({ ((⟨([] : List api_Msg), ([] : List Bool), x0.Lost⟩ : R26_Lines) : R26_Lines) with L := v9 } : R26_Lines) with L := v18 } : R26_Lines) with Bad := v25 } : R26_Lines) with Bad := v34 } : R26_Lines) : R26_Lines)), (ares_1 (ares_cell hH 1 rfl rfl rfl)), (wk_agg (.cons wk_no (.cons wk_no (.cons wr .nil)))), .of_eq (enc30.cut _ _ _), ((hH.noT.drop n4).drop n2)⟩
theorem R26_Take_ok {x0 : R26_Lines} {x1 : Int} {r : R26_Lines × api_Msg × Int} (H : R26_Take x0 x1 = some r) (σ : St)  : ACall Tryz.prog 22 [(e_R26_Lines x0), (eI x1)] σ (fun a τ => a = .tup [e_R26_Lines r.1, e_api_Msg r.2.1, eI r.2.2] ∧ τ = σ) := by
 unfold R26_Take at H
 refine ACall.pure (acall_start tk Tryz.func22 (by decide) rfl (nb rfl) ?_)
 have hH := Holds.init σ
 refine sr rfl (m_ (.fptr (c_R26_Lines x0) 0) rfl (o_boxf tk rfl wr (b := (e_R26_Lines x0)) (enc30.flat _)) ?_)
 refine wpo_a (av := fun id => .ref id 0) rfl rfl rfl (h_alloc tk hH ty30 [AV.nils, AV.nils, (eI z_R26_Lines.Lost)] rfl) fun id1 τ ⟨hH, n2⟩ => ?_
 refine wpo_a (av := fun id => .ref id 0) rfl rfl rfl (h_allocw tk hH ty44 (c_api_Msg z_api_Msg) (.cons wr (.cons wr (.cons wr (.cons wr (.cons wr (.cons wr (.cons wr (.cons wr (.cons wr (.cons (by exact wk_nils _) (.cons wr .nil)))))))))))) fun id3 τ ⟨hH, n4⟩ => ?_
 refine ma tk (eI (0 : Int)) rfl rfl (wpo_nil (sr rfl (m_ (e_R26_Lines x0) rfl (o_ld tk rfl rfl) (mm tk (eI x1) rfl rfl ?_))))
 refine b_ H (fun r => .tup [e_api_Msg r.1, eI r.2]) rfl (fun v6 hv => OpP.of_call rfl rfl (.cons wr (.cons wr .nil)) (R26_Look_ok hv)) fun v6 hv6 H5 => ?_
 refine mm tk (.tup [(e_api_Msg v6.1), (eI v6.2)]) rfl rfl (m_ (e_api_Msg v6.1) rfl (o_ext tk rfl rfl) (m_ (eI v6.2) rfl (o_ext tk rfl rfl) ?_))
 refine wpo_a (av := fun id => .ref id 0) rfl rfl rfl (h_allocw tk hH ty44 (c_api_Msg z_api_Msg) (.cons wr (.cons wr (.cons wr (.cons wr (.cons wr (.cons wr (.cons wr (.cons wr (.cons wr (.cons (by exact wk_nils _) (.cons wr .nil)))))))))))) fun id7 τ ⟨hH, n8⟩ => ?_
 obtain ⟨c10, hc11, H9⟩ := lt_ex H5
 refine wpo_z rfl rfl (h_st tk hH 0 rfl ty44 (by simp) rfl rfl wr (b := (e_api_Msg v6.1)) (enc44.flat _) rfl (nb rfl) (c_api_Msg c10) (by rw [← hc11]; rfl)) fun τ hH => ?_
 refine ma tk (eI v6.2) rfl rfl (wpo_nil (awp_seq (sr rfl (mm tk (eI v6.2) rfl rfl ?_))))
 refine l_ H9 eB rfl (o_ar tk rfl rfl rfl) fun v13 H12 => ?_
 refine wpo_nil ?_
 refine awp_if H12 rfl (fun H14 => ?_) (fun H14 => ?_)
 ·refine awp_seq ?_
  refine awp_drawR mixed [3, 4] rfl (by decide +kernel) rfl rfl (fun σ => σ.objs[id7]? = some (c_api_Msg c10)) 1 (hH.at_ 0 rfl) ?_
  refine wpdR_mv (a := (e_R26_Lines x0)) rfl rfl rfl (o_ld tk rfl rfl) ?_
  refine wpdR_rdp (a := (e_api_Msg c10)) rfl (by decide +kernel) rfl rfl (fun σ hF => (h_ld tk (Holds.one hF) 0 rfl rfl rfl)) ?_
  refine wpdR_mv (a := (eI v6.2)) rfl rfl rfl (o_mv tk rfl (Wk.refl _)) ?_
  refine wpdR_z rfl rfl rfl (h_st tk hH 2 rfl ty30 (by simp) rfl rfl wr (b := (e_R26_Lines x0)) (enc30.flat _) rfl (nb rfl) (c_R26_Lines (x0 : R26_Lines)) rfl) fun τ hH => ⟨fun _ => (hH.at_ 0 rfl), ?_⟩
  obtain ⟨c17, hc18, H16⟩ := lt_ex H14
  refine wpdR_z rfl rfl rfl (h_st tk hH 1 rfl ty44 (by simp) rfl rfl wr (b := (e_api_Msg c10)) (enc44.flat _) rfl (nb rfl) (c_api_Msg c17) (by rw [← hc18]; rfl)) fun τ hH => ⟨fun h => absurd h (by decide +kernel), ?_⟩
  refine wpdR_mv (a := (eI v6.2)) rfl rfl rfl (o_as tk rfl (Wk.refl _)) ?_
  refine wpdR_nil ?_
  refine awp_ret ?_
  obtain rfl := oi H16
  exact ⟨_, (.tup [(e_R26_Lines (x0 : R26_Lines)), (e_api_Msg c17), (eI v6.2)]), (ares_3 (ares_cell hH 2 rfl rfl rfl) (ares_cell hH 1 rfl rfl rfl) rfl), (wk_tup (.cons wr (.cons wr (.cons wr .nil)))), .of_eq (by simp only [cutAV, cutL, enc30.cut _ _ _, enc44.cut _ _ _, (enc_i64 td53 sz53).cut _ _ _]), (((hH.noT.drop n8).drop n4).drop n2)⟩
 ·refine awp_skip (sr rfl (m_ (e_R26_Lines x0) rfl (o_ld tk rfl rfl) (mm tk (eI x1) rfl rfl ?_)))
  refine b_ H14 e_R26_Lines rfl (fun v20 hv => OpP.of_call rfl rfl (.cons wr (.cons wr .nil)) (R26_but_ok hv)) fun v20 hv20 H19 => ?_
  refine wpo_a (av := fun id => .ref id 0) rfl rfl rfl (h_alloc tk hH ty30 [AV.nils, AV.nils, (eI z_R26_Lines.Lost)] rfl) fun id21 τ ⟨hH, n22⟩ => ?_
  refine wpo_z rfl rfl (h_st tk hH 0 rfl ty30 (by simp) rfl rfl wr (b := (e_R26_Lines v20)) (enc30.flat _) rfl (nb rfl) (c_R26_Lines (v20 : R26_Lines)) rfl) fun τ hH => ?_
  refine wpo_nil (awp_seq (sr rfl (mm tk (eI v6.2) rfl rfl ?_)))
  refine l_ H19 eB rfl (o_ar tk rfl rfl rfl) fun v25 H24 => ?_
  refine wpo_nil ?_
  obtain ⟨s26, hs28, hj29⟩ := ob H24
  refine awp_cutn (fun fr τ => WkF fr (fm [(4, (.ref id1 0)), (5, (.ref id3 0)), (7, (.ref id7 0)), (8, (eI v6.2)), (9, (.ref id21 0))]) ∧ Holds σ [(id21, (c_R26_Lines s26)), (id7, (c_api_Msg c10)), (id3, (c_api_Msg z_api_Msg)), (id1, [AV.nils, AV.nils, (eI z_R26_Lines.Lost)])] [] τ) ?_ ?_
  ·rintro fr τ ⟨hfr, hH⟩
   have H36 := hj29
   refine AWP.fm [(4, (.ref id1 0)), (5, (.ref id3 0)), (7, (.ref id7 0)), (8, (eI v6.2)), (9, (.ref id21 0))] hfr ?_
   refine awp_seq ?_
   refine awp_drawR mixed [3, 4] rfl (by decide +kernel) rfl rfl (fun σ => σ.objs[id7]? = some (c_api_Msg c10)) 1 (hH.at_ 1 rfl) ?_
   refine wpdR_rd (a := (e_R26_Lines s26)) rfl (by decide +kernel) rfl rfl (h_ld tk hH 0 rfl rfl rfl) ?_
   refine wpdR_rdp (a := (e_api_Msg c10)) rfl (by decide +kernel) rfl rfl (fun σ hF => (h_ld tk (Holds.one hF) 0 rfl rfl rfl)) ?_
   refine wpdR_mv (a := (eI v6.2)) rfl rfl rfl (o_mv tk rfl (Wk.refl _)) ?_
   refine wpdR_z rfl rfl rfl (h_st tk hH 3 rfl ty30 (by simp) rfl rfl wr (b := (e_R26_Lines s26)) (enc30.flat _) rfl (nb rfl) (c_R26_Lines (s26 : R26_Lines)) rfl) fun τ hH => ⟨fun _ => (hH.at_ 1 rfl), ?_⟩
   obtain ⟨c39, hc40, H38⟩ := lt_ex H36
   refine wpdR_z rfl rfl rfl (h_st tk hH 2 rfl ty44 (by simp) rfl rfl wr (b := (e_api_Msg c10)) (enc44.flat _) rfl (nb rfl) (c_api_Msg c39) (by rw [← hc40]; rfl)) fun τ hH => ⟨fun h => absurd h (by decide +kernel), ?_⟩
   refine wpdR_mv (a := (eI v6.2)) rfl rfl rfl (o_as tk rfl (Wk.refl _)) ?_
   refine wpdR_nil ?_
   refine awp_ret ?_
   obtain rfl := oi H38
   exact ⟨_, (.tup [(e_R26_Lines (s26 : R26_Lines)), (e_api_Msg c39), (eI v6.2)]), (ares_3 (ares_cell hH 3 rfl rfl rfl) (ares_cell hH 2 rfl rfl rfl) rfl), (wk_tup (.cons wr (.cons wr (.cons wr .nil)))), .of_eq (by simp only [cutAV, cutL, enc30.cut _ _ _, enc44.cut _ _ _, (enc_i64 td53 sz53).cut _ _ _]), ((((hH.noT.drop n22).drop n8).drop n4).drop n2)⟩
  ·refine awp_if hs28 rfl (fun H30 => ?_) (fun H30 => ?_)
   ·refine awp_region rfl (mc tk (.fptr (c_R26_Lines x0) 2) rfl rfl (fun _ => rfl) (m_ (eI x0.Lost) rfl (o_ld tk rfl rfl) ?_))
    refine l_ H30 eI rfl (o_ar tk rfl rfl rfl) fun v32 H31 => ?_
    refine mc tk (.ref id21 2) rfl rfl (fun _ => rfl) ?_
    obtain ⟨c34, hc35, H33⟩ := lt_ex H31
    refine wpo_z rfl rfl (h_st tk hH 0 rfl ty3 (by simp) rfl rfl wr (b := (eI v32)) rfl rfl (nb rfl) (c_R26_Lines c34) (by rw [← hc35]; rfl)) fun τ hH => ?_
    refine wpo_nil ?_
    have e := oi H33
    subst e
    exact ⟨(wc (wc (wc (wc (wc (wkf_nil _)))))), hH⟩
   ·refine awp_skip ?_
    have e := oi H30
    subst e
    exact ⟨(wc (wc (wc (wc (wc (wkf_nil _)))))), hH⟩
theorem R26_Drop_ok {x0 : R26_Lines} {x1 : Int} {r : R26_Lines × Int} (H : R26_Drop x0 x1 = some r) (σ : St)  : ACall Tryz.prog 23 [(e_R26_Lines x0), (eI x1)] σ (fun a τ => a = .tup [e_R26_Lines r.1, eI r.2] ∧ τ = σ) := by
 unfold R26_Drop at H
 refine ACall.pure (acall_start tk Tryz.func23 (by decide) rfl (nb rfl) ?_)
 have hH := Holds.init σ
 refine sr rfl (m_ (.fptr (c_R26_Lines x0) 0) rfl (o_boxf tk rfl wr (b := (e_R26_Lines x0)) (enc30.flat _)) ?_)
 refine wpo_a (av := fun id => .ref id 0) rfl rfl rfl (h_alloc tk hH ty30 [AV.nils, AV.nils, (eI z_R26_Lines.Lost)] rfl) fun id1 τ ⟨hH, n2⟩ => ?_
 refine ma tk (eI (0 : Int)) rfl rfl (wpo_nil (awp_seq (sr rfl (m_ (e_R26_Lines x0) rfl (o_ld tk rfl rfl) (mm tk (eI x1) rfl rfl ?_)))))
 refine b_ H eB rfl (fun v4 hv => OpP.of_call rfl rfl (.cons wr (.cons wr .nil)) (R26_there_ok hv)) fun v4 hv4 H3 => ?_
 refine l_ H3 eB rfl (o_un tk rfl rfl) fun v6 H5 => ?_
 refine wpo_nil ?_
 refine awp_if H5 rfl (fun H7 => ?_) (fun H7 => ?_)
 ·refine sr rfl (m_ (e_R26_Lines x0) rfl (o_ld tk rfl rfl) ?_)
  refine wpo_z rfl rfl (h_st tk hH 0 rfl ty30 (by simp) rfl rfl wr (b := (e_R26_Lines x0)) (enc30.flat _) rfl (nb rfl) (c_R26_Lines (x0 : R26_Lines)) rfl) fun τ hH => ?_
  refine ma tk (eI (9 : Int)) rfl rfl (wpo_nil (awp_ret ?_))
  obtain rfl := oi H7
  exact ⟨_, (.tup [(e_R26_Lines (x0 : R26_Lines)), (eI (9 : Int))]), (ares_2 (ares_cell hH 0 rfl rfl rfl) rfl), (wk_tup (.cons wr (.cons wr .nil))), .of_eq (by simp only [cutAV, cutL, enc30.cut _ _ _, (enc_i64 td53 sz53).cut _ _ _]), (hH.noT.drop n2)⟩
 ·refine awp_skip (sr rfl (m_ (e_R26_Lines x0) rfl (o_ld tk rfl rfl) (mm tk (eI x1) rfl rfl ?_)))
  refine b_ H7 e_R26_Lines rfl (fun v10 hv => OpP.of_call rfl rfl (.cons wr (.cons wr .nil)) (R26_but_ok hv)) fun v10 hv10 H9 => ?_
  refine wpo_a (av := fun id => .ref id 0) rfl rfl rfl (h_alloc tk hH ty30 [AV.nils, AV.nils, (eI z_R26_Lines.Lost)] rfl) fun id11 τ ⟨hH, n12⟩ => ?_
  refine wpo_z rfl rfl (h_st tk hH 0 rfl ty30 (by simp) rfl rfl wr (b := (e_R26_Lines v10)) (enc30.flat _) rfl (nb rfl) (c_R26_Lines (v10 : R26_Lines)) rfl) fun τ hH => ?_
  refine wpo_nil (sr rfl (mc tk (.fptr (c_R26_Lines x0) 2) rfl rfl (fun _ => rfl) (m_ (eI x0.Lost) rfl (o_ld tk rfl rfl) ?_)))
  refine l_ H9 eI rfl (o_ar tk rfl rfl rfl) fun v15 H14 => ?_
  refine mc tk (.ref id11 2) rfl rfl (fun _ => rfl) ?_
  obtain ⟨c17, hc18, H16⟩ := lt_ex H14
  refine wpo_z rfl rfl (h_st tk hH 0 rfl ty3 (by simp) rfl rfl wr (b := (eI v15)) rfl rfl (nb rfl) (c_R26_Lines c17) (by rw [← hc18]; rfl)) fun τ hH => ?_
  refine wpo_nil (sr rfl (wpo_rd (a := (e_R26_Lines c17)) rfl rfl rfl (h_ld tk hH 0 rfl rfl rfl) ?_))
  refine wpo_z rfl rfl (h_st tk hH 1 rfl ty30 (by simp) rfl rfl wr (b := (e_R26_Lines c17)) (enc30.flat _) rfl (nb rfl) (c_R26_Lines (c17 : R26_Lines)) rfl) fun τ hH => ?_
  refine ma tk (eI (0 : Int)) rfl rfl (wpo_nil (awp_ret ?_))
  obtain rfl := oi H16
  exact ⟨_, (.tup [(e_R26_Lines (c17 : R26_Lines)), (eI (0 : Int))]), (ares_2 (ares_cell hH 1 rfl rfl rfl) rfl), (wk_tup (.cons wr (.cons wr .nil))), .of_eq (by simp only [cutAV, cutL, enc30.cut _ _ _, (enc_i64 td53 sz53).cut _ _ _]), ((hH.noT.drop n12).drop n2)⟩
theorem R26_Twice_ok {x0 : R26_Lines} {x1 : Int} {r : R26_Lines × Int} (H : R26_Twice x0 x1 = some r) (σ : St)  : ACall Tryz.prog 24 [(e_R26_Lines x0), (eI x1)] σ (fun a τ => a = .tup [e_R26_Lines r.1, eI r.2] ∧ τ = σ) := by
 unfold R26_Twice at H
 refine ACall.pure (acall_start tk Tryz.func24 (by decide) rfl (nb rfl) ?_)
 have hH := Holds.init σ
 refine sr rfl (m_ (.fptr (c_R26_Lines x0) 0) rfl (o_boxf tk rfl wr (b := (e_R26_Lines x0)) (enc30.flat _)) ?_)
 refine wpo_a (av := fun id => .ref id 0) rfl rfl rfl (h_alloc tk hH ty30 [AV.nils, AV.nils, (eI z_R26_Lines.Lost)] rfl) fun id1 τ ⟨hH, n2⟩ => ?_
 refine ma tk (eI (0 : Int)) rfl rfl (wpo_nil (awp_seq (sr rfl (m_ (e_R26_Lines x0) rfl (o_ld tk rfl rfl) (mm tk (eI x1) rfl rfl ?_)))))
 refine b_ H eB rfl (fun v4 hv => OpP.of_call rfl rfl (.cons wr (.cons wr .nil)) (R26_there_ok hv)) fun v4 hv4 H3 => ?_
 refine l_ H3 eB rfl (o_un tk rfl rfl) fun v6 H5 => ?_
 refine wpo_nil ?_
 refine awp_if H5 rfl (fun H7 => ?_) (fun H7 => ?_)
 ·refine sr rfl (m_ (e_R26_Lines x0) rfl (o_ld tk rfl rfl) ?_)
  refine wpo_z rfl rfl (h_st tk hH 0 rfl ty30 (by simp) rfl rfl wr (b := (e_R26_Lines x0)) (enc30.flat _) rfl (nb rfl) (c_R26_Lines (x0 : R26_Lines)) rfl) fun τ hH => ?_
  refine ma tk (eI (9 : Int)) rfl rfl (wpo_nil (awp_ret ?_))
  obtain rfl := oi H7
  exact ⟨_, (.tup [(e_R26_Lines (x0 : R26_Lines)), (eI (9 : Int))]), (ares_2 (ares_cell hH 0 rfl rfl rfl) rfl), (wk_tup (.cons wr (.cons wr .nil))), .of_eq (by simp only [cutAV, cutL, enc30.cut _ _ _, (enc_i64 td53 sz53).cut _ _ _]), (hH.noT.drop n2)⟩
 ·refine awp_skip (awp_seq (sr rfl (mc tk (.fptr (c_R26_Lines x0) 0) rfl rfl (fun _ => rfl) (m_ ((eL 11 e_api_Msg) x0.L) rfl (o_ld tk rfl rfl) ?_))))
  refine l_ H7 eI rfl (o_len tk td27 rfl) fun v10 H9 => ?_
  refine l_ H9 eB rfl (o_ar tk rfl rfl rfl) fun v12 H11 => ?_
  refine wpo_nil ?_
  refine awp_if H11 rfl (fun H13 => ?_) (fun H13 => ?_)
  ·refine sr rfl (m_ (e_R26_Lines x0) rfl (o_ld tk rfl rfl) ?_)
   refine wpo_z rfl rfl (h_st tk hH 0 rfl ty30 (by simp) rfl rfl wr (b := (e_R26_Lines x0)) (enc30.flat _) rfl (nb rfl) (c_R26_Lines (x0 : R26_Lines)) rfl) fun τ hH => ?_
   refine ma tk (eI (4 : Int)) rfl rfl (wpo_nil (awp_ret ?_))
   obtain rfl := oi H13
   exact ⟨_, (.tup [(e_R26_Lines (x0 : R26_Lines)), (eI (4 : Int))]), (ares_2 (ares_cell hH 0 rfl rfl rfl) rfl), (wk_tup (.cons wr (.cons wr .nil))), .of_eq (by simp only [cutAV, cutL, enc30.cut _ _ _, (enc_i64 td53 sz53).cut _ _ _]), (hH.noT.drop n2)⟩
  ·refine awp_skip (awp_seq ?_)
   refine awp_drawS mixed [12] rfl (by decide +kernel) rfl rfl ?_
   refine wpdS_mv (a := (e_R26_Lines x0)) rfl rfl rfl (o_ld tk rfl rfl) (wpdS_mv (a := (.fptr (c_R26_Lines x0) 0)) rfl rfl rfl (o_c tk false rfl (fun _ => rfl)) (wpdS_mv (a := ((eL 11 e_api_Msg) x0.L)) rfl rfl rfl (o_ld tk rfl rfl) (wpdS_mv (a := (eI x1)) rfl rfl rfl (o_mv tk rfl (Wk.refl _)) ?_)))
   refine wpdS_bd H13 (fun y => .fptr (e_api_Msg y).cells 0) rfl rfl rfl (fun v16 hv => o_ixa tk hv td27 enc44 rfl rfl) fun v16 hv16 H15 => ?_
   refine wpdS_mv (a := (e_api_Msg v16)) rfl rfl rfl (o_ld_e tk enc44 rfl rfl) (wpdS_mv (a := (.fptr (c_R26_Lines x0) 1)) rfl rfl rfl (o_c tk false rfl (fun _ => rfl)) (wpdS_mv (a := ((eL 1 eB) x0.Bad)) rfl rfl rfl (o_ld tk rfl rfl) (wpdS_mv (a := (eI x1)) rfl rfl rfl (o_mv tk rfl (Wk.refl _)) ?_)))
   refine wpdS_bd H15 (fun y => .fptr (eB y).cells 0) rfl rfl rfl (fun v18 hv => o_ixa tk hv td28 (enc_b td4 sz4) rfl rfl) fun v18 hv18 H17 => ?_
   refine wpdS_mv (a := (eB v18)) rfl rfl rfl (o_ld_e tk (enc_b td4 sz4) rfl rfl) ?_
   refine wpdS_bd H17 e_R26_Lines rfl rfl rfl (fun v20 hv => OpP.of_call rfl rfl (.cons wr (.cons wr (.cons wr .nil))) (R26_with_ok hv)) fun v20 hv20 H19 => ?_
   refine wpdS_z rfl rfl rfl (h_st tk hH 0 rfl ty30 (by simp) rfl rfl wr (b := (e_R26_Lines v20)) (enc30.flat _) rfl (nb rfl) (c_R26_Lines (v20 : R26_Lines)) rfl) fun τ hH => ?_
   refine wpdS_mv (a := (eI (0 : Int))) rfl rfl rfl (o_as tk rfl (Wk.refl _)) (wpdS_nil (awp_ret ?_))
   obtain rfl := oi H19
   exact ⟨_, (.tup [(e_R26_Lines (v20 : R26_Lines)), (eI (0 : Int))]), (ares_2 (ares_cell hH 0 rfl rfl rfl) rfl), (wk_tup (.cons wr (.cons wr .nil))), .of_eq (by simp only [cutAV, cutL, enc30.cut _ _ _, (enc_i64 td53 sz53).cut _ _ _]), (hH.noT.drop n2)⟩
theorem R02_num_app {x0 : Int} {r : (List (BitVec 8))} (H : R02_num x0 = some r) (σ : St)  : ACall Tryz.prog 82 [(eI x0)] σ (fun a τ => a = .sl (.own σ.opn.length) 1 (r.map (@eU .u8 8)) ∧ τ = σ.more) := by
 unfold R02_num at H
 refine ACall.app (fun ρ κ => cutL_enc (enc_u td5 sz5).cut ρ κ r) (acall_start tk Tryz.func82 (by decide) rfl (nb rfl) ?_)
 have hH := Holds.init σ
 refine sr rfl (ma tk AV.nils rfl rfl (wpo_nil (sr rfl (mm tk (eI x0) rfl rfl ?_))))
 refine l_ H eI rfl (o_rem tk (z := (128 : Int)) rfl rfl rfl) fun v2 H1 => ?_
 refine l_ H1 (@eU .u8 8) rfl (o_cv_iu tk td3 td5 rfl rfl) fun v4 H3 => ?_
 refine l_ H3 (eF 1 (@eU .u8 8)) rfl (o_c tk false rfl (fun _ => rfl)) fun v6 H5 => ?_
 refine ma tk (eF 1 (@eU .u8 8) v6) rfl rfl (wpo_nil (awp_seq (sr rfl (mm tk (eI x0) rfl rfl ?_))))
 refine l_ H5 eI rfl (o_quo tk (z := (128 : Int)) rfl rfl rfl) fun v8 H7 => ?_
 refine ma tk (eI v8) rfl rfl (wpo_nil (awp_block ?_))
 refine AWP.tokF hH 3 rfl fun tk11 τ hH => ?_
 obtain ⟨s19, hs13, hj14⟩ := ob H7
 refine awp_cutx 0 (fun fr τ => ∃ tk_3, WkF fr (fm [(3, (eT tk_3 1 (@eU .u8 8) s19))]) ∧ Holds σ [] [tk_3] τ) ?_ ?_
 ·rintro fr τ ⟨tk_3, hfr, hH⟩
  have H38 := hj14
  refine AWP.fm [(3, (eT tk_3 1 (@eU .u8 8) s19))] hfr ?_
  refine sr rfl (mm tk (eT tk_3 1 (@eU .u8 8) s19) rfl rfl (ma tk (eT tk_3 1 (@eU .u8 8) s19) rfl rfl (wpo_nil (awp_ret ?_))))
  obtain rfl := oi H38
  exact ⟨_, (eT tk_3 1 (@eU .u8 8) s19), rfl, .of_eq rfl, tk_3, rfl, hH⟩
 ·refine awp_loopO (body := fun s => R02_num_b0 s.1 s.2) hs13 (fun (s : (List (BitVec 8)) × Int) fr τ => ∃ tk_3, WkF fr (fm [(3, (eT tk_3 1 (@eU .u8 8) s.1)), (4, (eI s.2))]) ∧ Holds σ [] [tk_3] τ) ⟨tk11, (wc (wc (wkf_nil _))), hH⟩ ?_
  rintro ⟨c9, c10⟩ fr τ y15 ⟨tk_3, hfr, hH⟩ hb17 hy18
  have H20 : R02_num_b0 c9 c10 = some y15 := hb17
  unfold R02_num_b0 at H20
  refine AWP.fm [(3, (eT tk_3 1 (@eU .u8 8) c9)), (4, (eI c10))] hfr ?_
  have hH : Holds σ [] [tk_3] τ := hH
  refine awp_seq (sr rfl (mm tk (eI c10) rfl rfl ?_))
  refine l_ H20 eB rfl (o_ar tk rfl rfl rfl) fun v22 H21 => ?_
  refine wpo_nil ?_
  refine awp_if H21 rfl (fun H23 => ?_) (fun H23 => ?_)
  ·refine awp_skip (awp_seq (awp_block (sr rfl (mm tk (eI c10) rfl rfl ?_))))
   refine l_ H23 eI rfl (o_rem tk (z := (128 : Int)) rfl rfl rfl) fun v25 H24 => ?_
   refine l_ H24 eI rfl (o_ar tk rfl rfl rfl) fun v27 H26 => ?_
   refine l_ H26 (@eU .u8 8) rfl (o_cv_iu tk td3 td5 rfl rfl) fun v29 H28 => ?_
   refine l_ H28 (eF 1 (@eU .u8 8)) rfl (o_c tk false rfl (fun _ => rfl)) fun v31 H30 => ?_
   refine ma tk (eF 1 (@eU .u8 8) v31) rfl rfl (wpo_nil (awp_region rfl (mm tk (eF 1 (@eU .u8 8) v31) rfl rfl (mm tk (eT tk_3 1 (@eU .u8 8) c9) rfl rfl ?_))))
   obtain ⟨v33, hv34, H32⟩ := ob H30
   refine wpo_a (av := fun t => eT t 1 (@eU .u8 8) v33) rfl rfl rfl (h_app0 tk hH hv34 td40 ty5 rfl (by decide) (.inr rfl) (src_l td40 rfl)) fun tk35 τ hH => ?_
   refine ma tk (eT tk35 1 (@eU .u8 8) v33) rfl rfl (wpo_nil (awp_region rfl (mm tk (eI c10) rfl rfl ?_)))
   refine l_ H32 eI rfl (o_quo tk (z := (128 : Int)) rfl rfl rfl) fun v37 H36 => ?_
   refine ma tk (eI v37) rfl rfl (wpo_nil ?_)
   exact ⟨(v33, v37), inj_inl H36, tk35, (wc (wc (wkf_nil _))), (hH.sub (.cons_cons _ (.cons _ .slnil)))⟩
  ·refine awp_exit ?_
   have hz := hy18 _ (inj_inr H23)
   subst hz
   exact ⟨⟨_, inj_inr H23⟩, tk_3, (wc (wkf_nil _)), hH⟩
theorem R02_num_ok {x0 : Int} {r : (List (BitVec 8))} (H : R02_num x0 = some r) (σ : St) : ACall Tryz.prog 82 [(eI x0)] σ (fun a τ => a = (eL 1 (@eU .u8 8)) r ∧ τ = σ) := (R02_num_app H σ).unapp (fun ρ κ => cutL_enc (enc_u td5 sz5).cut ρ κ r)
theorem R02_Put_app {x0 : List (BitVec 8)} {x1 : List Int} {r : (List (BitVec 8))} (H : R02_Put x0 x1 = some r) (σ : St)  : ACall Tryz.prog 56 [((eL 1 (@eU .u8 8)) x0), ((eL 1 eI) x1)] σ (fun a τ => a = .sl (.own σ.opn.length) 1 (r.map (@eU .u8 8)) ∧ τ = σ.more) := by
 unfold R02_Put at H
 refine ACall.app (fun ρ κ => cutL_enc (enc_u td5 sz5).cut ρ κ r) (acall_start tk Tryz.func56 (by decide) rfl (nb rfl) ?_)
 have hH := Holds.init σ
 refine sr rfl (ma tk AV.nils rfl rfl (wpo_nil (sr rfl (ma tk AV.nils rfl rfl (wpo_nil (sr rfl (mm tk AV.nils rfl rfl (mm tk ((eL 1 (@eU .u8 8)) x0) rfl rfl ?_))))))))
 obtain ⟨v2, hv3, H1⟩ := ob H
 refine wpo_a (av := fun t => eT t 1 (@eU .u8 8) v2) rfl rfl rfl (h_app0 tk hH hv3 td40 ty5 rfl (by decide) (.inl ⟨rfl, rfl⟩) (src_l td40 rfl)) fun tk4 τ hH => ?_
 refine ma tk (eT tk4 1 (@eU .u8 8) v2) rfl rfl (wpo_nil (awp_seq (sr rfl (ma tk (eI (0 : Int)) rfl rfl (wpo_nil (awp_block ?_))))))
 obtain ⟨s14, hs8, hj9⟩ := ob H1
 refine awp_cutx 0 (fun fr τ => ∃ tk_5, WkF fr (fm [(5, (eT tk_5 1 (@eU .u8 8) s14))]) ∧ Holds σ [] [tk_5] τ) ?_ ?_
 ·rintro fr τ ⟨tk_5, hfr, hH⟩
  have H31 := hj9
  refine AWP.fm [(5, (eT tk_5 1 (@eU .u8 8) s14))] hfr ?_
  refine sr rfl (mm tk (eT tk_5 1 (@eU .u8 8) s14) rfl rfl (ma tk (eT tk_5 1 (@eU .u8 8) s14) rfl rfl (wpo_nil (awp_ret ?_))))
  obtain rfl := oi H31
  exact ⟨_, (eT tk_5 1 (@eU .u8 8) s14), rfl, .of_eq rfl, tk_5, rfl, hH⟩
 ·refine awp_loopO (body := fun s => R02_Put_b0 x1 s.1 s.2) hs8 (fun (s : (List (BitVec 8)) × Int) fr τ => ∃ tk_5, WkF fr (fm [(1, ((eL 1 eI) x1)), (5, (eT tk_5 1 (@eU .u8 8) s.1)), (6, (eI s.2))]) ∧ Holds σ [] [tk_5] τ) ⟨tk4, (wc (wc (wc (wkf_nil _)))), hH⟩ ?_
  rintro ⟨c5, c6⟩ fr τ y10 ⟨tk_5, hfr, hH⟩ hb12 hy13
  have H15 : R02_Put_b0 x1 c5 c6 = some y10 := hb12
  unfold R02_Put_b0 at H15
  refine AWP.fm [(1, ((eL 1 eI) x1)), (5, (eT tk_5 1 (@eU .u8 8) c5)), (6, (eI c6))] hfr ?_
  have hH : Holds σ [] [tk_5] τ := hH
  refine awp_seq (sr rfl (mm tk (eI c6) rfl rfl (mm tk ((eL 1 eI) x1) rfl rfl ?_)))
  refine l_ H15 eI rfl (o_len tk td113 rfl) fun v17 H16 => ?_
  refine l_ H16 eB rfl (o_ar tk rfl rfl rfl) fun v19 H18 => ?_
  refine wpo_nil ?_
  refine awp_if H18 rfl (fun H20 => ?_) (fun H20 => ?_)
  ·refine awp_skip (awp_seq (awp_block (awp_region rfl (mm tk (eT tk_5 1 (@eU .u8 8) c5) rfl rfl (mm tk ((eL 1 eI) x1) rfl rfl (mm tk (eI c6) rfl rfl ?_))))))
   refine b_ H20 (fun y => .fptr (eI y).cells 0) rfl (fun v22 hv => o_ixa tk hv td113 (enc_i64 td3 sz3) rfl rfl) fun v22 hv22 H21 => ?_
   refine m_ (eI v22) rfl (o_ld_e tk (enc_i64 td3 sz3) rfl rfl) ?_
   refine b_ H21 (eL 1 (@eU .u8 8)) rfl (fun v24 hv => OpP.of_call rfl rfl (.cons wr .nil) (R02_num_ok hv)) fun v24 hv24 H23 => ?_
   obtain ⟨v26, hv27, H25⟩ := ob H23
   refine wpo_a (av := fun t => eT t 1 (@eU .u8 8) v26) rfl rfl rfl (h_app tk hH 0 hv27 rfl td40 ty5 rfl (by decide) rfl (src_l td40 rfl)) fun tk28 τ hH => ?_
   refine ma tk (eT tk28 1 (@eU .u8 8) v26) rfl rfl (wpo_nil (awp_region rfl (mm tk (eI c6) rfl rfl ?_)))
   refine l_ H25 eI rfl (o_ar tk rfl rfl rfl) fun v30 H29 => ?_
   refine ma tk (eI v30) rfl rfl (wpo_nil ?_)
   exact ⟨(v26, v30), inj_inl H29, tk28, (wc (wc (wc (wkf_nil _)))), hH⟩
  ·refine awp_exit ?_
   have hz := hy13 _ (inj_inr H20)
   subst hz
   exact ⟨⟨_, inj_inr H20⟩, tk_5, (wc (wkf_nil _)), hH⟩
theorem R02_Put_ok {x0 : List (BitVec 8)} {x1 : List Int} {r : (List (BitVec 8))} (H : R02_Put x0 x1 = some r) (σ : St) : ACall Tryz.prog 56 [((eL 1 (@eU .u8 8)) x0), ((eL 1 eI) x1)] σ (fun a τ => a = (eL 1 (@eU .u8 8)) r ∧ τ = σ) := (R02_Put_app H σ).unapp (fun ρ κ => cutL_enc (enc_u td5 sz5).cut ρ κ r)
theorem R02_Bytes_app {x0 : List (BitVec 8)} {x1 : List (BitVec 8)} {r : (List (BitVec 8))} (H : R02_Bytes x0 x1 = some r) (σ : St)  : ACall Tryz.prog 59 [((eL 1 (@eU .u8 8)) x0), ((eL 1 (@eU .u8 8)) x1)] σ (fun a τ => a = .sl (.own σ.opn.length) 1 (r.map (@eU .u8 8)) ∧ τ = σ.more) := by
 unfold R02_Bytes at H
 refine ACall.app (fun ρ κ => cutL_enc (enc_u td5 sz5).cut ρ κ r) (acall_start tk Tryz.func59 (by decide) rfl (nb rfl) ?_)
 have hH := Holds.init σ
 refine sr rfl (ma tk AV.nils rfl rfl (wpo_nil (sr rfl (mm tk ((eL 1 (@eU .u8 8)) x0) rfl rfl (mm tk ((eL 1 (@eU .u8 8)) x1) rfl rfl ?_)))))
 refine l_ H eI rfl (o_len tk td40 rfl) fun v2 H1 => ?_
 refine l_ H1 (eF 1 eI) rfl (o_c tk false rfl (fun _ => rfl)) fun v4 H3 => ?_
 refine wpo_cb H3 (fun x t => eT t 1 (@eU .u8 8) x) rfl rfl rfl (fun v6 hv => h_calla hH rfl rfl (.cons wr (.cons wk_no .nil)) (R02_Put_app hv _)) fun v6 tk7 τ hv6 H5 hH => ?_
 refine mm tk ((eL 1 (@eU .u8 8)) x1) rfl rfl ?_
 obtain ⟨v9, hv10, H8⟩ := ob H5
 refine wpo_a (av := fun t => eT t 1 (@eU .u8 8) v9) rfl rfl rfl (h_app tk hH 0 hv10 rfl td40 ty5 rfl (by decide) rfl (src_l td40 rfl)) fun tk11 τ hH => ?_
 refine ma tk (eT tk11 1 (@eU .u8 8) v9) rfl rfl (wpo_nil (awp_ret ?_))
 obtain rfl := oi H8
 exact ⟨_, (eT tk11 1 (@eU .u8 8) v9), rfl, .of_eq rfl, tk11, rfl, hH⟩
theorem R02_Bytes_ok {x0 : List (BitVec 8)} {x1 : List (BitVec 8)} {r : (List (BitVec 8))} (H : R02_Bytes x0 x1 = some r) (σ : St) : ACall Tryz.prog 59 [((eL 1 (@eU .u8 8)) x0), ((eL 1 (@eU .u8 8)) x1)] σ (fun a τ => a = (eL 1 (@eU .u8 8)) r ∧ τ = σ) := (R02_Bytes_app H σ).unapp (fun ρ κ => cutL_enc (enc_u td5 sz5).cut ρ κ r)
theorem R03_Sum_ok {x0 : List (BitVec 8)} {r : (BitVec 32)} (H : R03_Sum x0 = some r) (σ : St)  : ACall Tryz.prog 83 [((eL 1 (@eU .u8 8)) x0)] σ (fun a τ => a = (@eU .u32 32) r ∧ τ = σ) := by
 unfold R03_Sum at H
 refine ACall.pure (acall_start tk Tryz.func83 (by decide) rfl (nb rfl) ?_)
 have hH := Holds.init σ
 refine sr rfl (ma tk ((@eU .u32 32) 0#32) rfl rfl (wpo_nil (sr rfl (ma tk ((@eU .u32 32) 4294967295#32) rfl rfl (wpo_nil (awp_seq (sr rfl (ma tk (eI (0 : Int)) rfl rfl ?_))))))))
 refine wpo_nil (awp_block ?_)
 obtain ⟨s10, hs4, hj5⟩ := ob H
 refine awp_cutx 0 (fun fr τ => WkF fr (fm [(3, ((@eU .u32 32) s10))]) ∧ Holds σ [] [] τ) ?_ ?_
 ·rintro fr τ ⟨hfr, hH⟩
  have H55 := hj5
  refine AWP.fm [(3, ((@eU .u32 32) s10))] hfr ?_
  refine sr rfl (mm tk ((@eU .u32 32) s10) rfl rfl ?_)
  refine l_ H55 (@eU .u32 32) rfl (o_sub_u tk rfl rfl rfl) fun v57 H56 => ?_
  refine ma tk ((@eU .u32 32) v57) rfl rfl (wpo_nil (awp_ret ?_))
  obtain rfl := oi H56
  exact ⟨_, ((@eU .u32 32) v57), rfl, wr, .of_eq ((enc_u td125 sz125).cut _ _ _), hH.noT⟩
 ·refine awp_loopO (body := fun s => R03_Sum_b0 x0 s.1 s.2) hs4 (fun (s : (BitVec 32) × Int) fr τ => WkF fr (fm [(0, ((eL 1 (@eU .u8 8)) x0)), (3, ((@eU .u32 32) s.1)), (4, (eI s.2))]) ∧ Holds σ [] [] τ) ⟨(wc (wc (wc (wkf_nil _)))), hH⟩ ?_
  rintro ⟨c1, c2⟩ fr τ y6 ⟨hfr, hH⟩ hb8 hy9
  have H11 : R03_Sum_b0 x0 c1 c2 = some y6 := hb8
  unfold R03_Sum_b0 at H11
  refine AWP.fm [(0, ((eL 1 (@eU .u8 8)) x0)), (3, ((@eU .u32 32) c1)), (4, (eI c2))] hfr ?_
  have hH : Holds σ [] [] τ := hH
  refine awp_seq (sr rfl (mm tk (eI c2) rfl rfl (mm tk ((eL 1 (@eU .u8 8)) x0) rfl rfl ?_)))
  refine l_ H11 eI rfl (o_len tk td40 rfl) fun v13 H12 => ?_
  refine l_ H12 eB rfl (o_ar tk rfl rfl rfl) fun v15 H14 => ?_
  refine wpo_nil ?_
  refine awp_if H14 rfl (fun H16 => ?_) (fun H16 => ?_)
  ·refine awp_skip (awp_seq (awp_block (sr rfl (ma tk (eI (0 : Int)) rfl rfl (wpo_nil (awp_block ?_))))))
   obtain ⟨s26, hs20, hj21⟩ := ob H16
   refine awp_cutx 2 (fun fr τ => WkF fr (fm [(0, ((eL 1 (@eU .u8 8)) x0)), (3, ((@eU .u32 32) s26)), (4, (eI c2))]) ∧ Holds σ [] [] τ) ?_ ?_
   ·rintro fr τ ⟨hfr, hH⟩
    have H52 := hj21
    refine AWP.fm [(0, ((eL 1 (@eU .u8 8)) x0)), (3, ((@eU .u32 32) s26)), (4, (eI c2))] hfr ?_
    refine awp_region rfl (mm tk (eI c2) rfl rfl ?_)
    refine l_ H52 eI rfl (o_ar tk rfl rfl rfl) fun v54 H53 => ?_
    refine ma tk (eI v54) rfl rfl (wpo_nil ?_)
    exact ⟨(s26, v54), inj_inl H53, (wc (wc (wc (wkf_nil _)))), hH⟩
   ·refine awp_loopO (body := fun s => R03_Sum_b1 x0 c2 s.1 s.2) hs20 (fun (s : (BitVec 32) × Int) fr τ => WkF fr (fm [(0, ((eL 1 (@eU .u8 8)) x0)), (3, ((@eU .u32 32) s.1)), (4, (eI c2)), (5, (eI s.2))]) ∧ Holds σ [] [] τ) ⟨(wc (wc (wc (wc (wkf_nil _))))), hH⟩ ?_
    rintro ⟨c17, c18⟩ fr τ y22 ⟨hfr, hH⟩ hb24 hy25
    have H27 : R03_Sum_b1 x0 c2 c17 c18 = some y22 := hb24
    unfold R03_Sum_b1 at H27
    refine AWP.fm [(0, ((eL 1 (@eU .u8 8)) x0)), (3, ((@eU .u32 32) c17)), (4, (eI c2)), (5, (eI c18))] hfr ?_
    have hH : Holds σ [] [] τ := hH
    refine awp_seq (sr rfl (mm tk (eI c18) rfl rfl ?_))
    refine l_ H27 eB rfl (o_ar tk rfl rfl rfl) fun v29 H28 => ?_
    refine wpo_nil ?_
    refine awp_if H28 rfl (fun H30 => ?_) (fun H30 => ?_)
    ·refine awp_skip (awp_seq (awp_block (sr rfl (mm tk ((eL 1 (@eU .u8 8)) x0) rfl rfl (mm tk (eI c2) rfl rfl ?_)))))
     refine b_ H30 (fun y => .fptr ((@eU .u8 8) y).cells 0) rfl (fun v32 hv => o_ixa tk hv td40 (enc_u td5 sz5) rfl rfl) fun v32 hv32 H31 => ?_
     refine m_ ((@eU .u8 8) v32) rfl (o_ld_e tk (enc_u td5 sz5) rfl rfl) (mm tk (eI c18) rfl rfl ?_)
     refine b_ H31 (@eU .u8 8) rfl (fun v34 hv => om_shr_u tk rfl hv rfl rfl) fun v34 hv34 H33 => ?_
     refine l_ H33 (@eU .u32 32) rfl (o_cv_uu tk td5 td125 rfl rfl) fun v36 H35 => ?_
     refine l_ H35 (@eU .u32 32) rfl (o_rem_u tk (k := .u32) (y := 2#32) (z := 2#32) rfl rfl rfl rfl) fun v38 H37 => ?_
     refine ma tk ((@eU .u32 32) v38) rfl rfl (wpo_nil (sr rfl (mm tk ((@eU .u32 32) c17) rfl rfl ?_)))
     refine l_ H37 (@eU .u32 32) rfl (o_rem_u tk (k := .u32) (y := 2#32) (z := 2#32) rfl rfl rfl rfl) fun v40 H39 => ?_
     refine ma tk ((@eU .u32 32) v40) rfl rfl (wpo_nil (sr rfl (mm tk ((@eU .u32 32) c17) rfl rfl ?_)))
     refine l_ H39 (@eU .u32 32) rfl (o_quo_u tk (k := .u32) (y := 2#32) (z := 2#32) rfl rfl rfl rfl) fun v42 H41 => ?_
     refine ma tk ((@eU .u32 32) v42) rfl rfl (wpo_nil (sr rfl (mm tk ((@eU .u32 32) v38) rfl rfl (mm tk ((@eU .u32 32) v40) rfl rfl ?_))))
     refine l_ H41 eB rfl (o_neq_u tk rfl rfl) fun v44 H43 => ?_
     refine wpo_nil ?_
     refine awp_if H43 rfl (fun H45 => ?_) (fun H45 => ?_)
     ·refine awp_region rfl (mm tk ((@eU .u32 32) v42) rfl rfl ?_)
      refine l_ H45 (@eU .u32 32) rfl (o_xor_u tk rfl rfl rfl) fun v47 H46 => ?_
      refine ma tk ((@eU .u32 32) v47) rfl rfl (wpo_nil (awp_region rfl (mm tk (eI c18) rfl rfl ?_)))
      refine l_ H46 eI rfl (o_ar tk rfl rfl rfl) fun v49 H48 => ?_
      refine ma tk (eI v49) rfl rfl (wpo_nil ?_)
      exact ⟨(v47, v49), inj_inl H48, (wc (wc (wc (wc (wkf_nil _))))), hH⟩
     ·refine awp_skip (awp_region rfl (mm tk (eI c18) rfl rfl ?_))
      refine l_ H45 eI rfl (o_ar tk rfl rfl rfl) fun v51 H50 => ?_
      refine ma tk (eI v51) rfl rfl (wpo_nil ?_)
      exact ⟨(v42, v51), inj_inl H50, (wc (wc (wc (wc (wkf_nil _))))), hH⟩
    ·refine awp_exit ?_
     have hz := hy25 _ (inj_inr H30)
     subst hz
     exact ⟨⟨_, inj_inr H30⟩, (wc (wc (wc (wkf_nil _)))), hH⟩
  ·refine awp_exit ?_
   have hz := hy9 _ (inj_inr H16)
   subst hz
   exact ⟨⟨_, inj_inr H16⟩, (wc (wkf_nil _)), hH⟩
theorem R03_Seal_app {x0 : List (BitVec 8)} {r : (List (BitVec 8))} (H : R03_Seal x0 = some r) (σ : St)  : ACall Tryz.prog 62 [((eL 1 (@eU .u8 8)) x0)] σ (fun a τ => a = .sl (.own σ.opn.length) 1 (r.map (@eU .u8 8)) ∧ τ = σ.more) := by
 unfold R03_Seal at H
 refine ACall.app (fun ρ κ => cutL_enc (enc_u td5 sz5).cut ρ κ r) (acall_start tk Tryz.func62 (by decide) rfl (nb rfl) ?_)
 have hH := Holds.init σ
 refine sr rfl (ma tk AV.nils rfl rfl (wpo_nil (sr rfl (ma tk AV.nils rfl rfl (wpo_nil (sr rfl (mm tk AV.nils rfl rfl (mm tk ((eL 1 (@eU .u8 8)) x0) rfl rfl ?_))))))))
 obtain ⟨v2, hv3, H1⟩ := ob H
 refine wpo_a (av := fun t => eT t 1 (@eU .u8 8) v2) rfl rfl rfl (h_app0 tk hH hv3 td40 ty5 rfl (by decide) (.inl ⟨rfl, rfl⟩) (src_l td40 rfl)) fun tk4 τ hH => ?_
 refine ma tk (eT tk4 1 (@eU .u8 8) v2) rfl rfl (wpo_nil (sr rfl (mm tk ((eL 1 (@eU .u8 8)) x0) rfl rfl ?_)))
 refine b_ H1 (@eU .u32 32) rfl (fun v6 hv => OpP.of_call rfl rfl (.cons wr .nil) (R03_Sum_ok hv)) fun v6 hv6 H5 => ?_
 refine ma tk ((@eU .u32 32) v6) rfl rfl (wpo_nil (awp_seq (sr rfl (ma tk (eI (0 : Int)) rfl rfl (wpo_nil (awp_block ?_))))))
 obtain ⟨s17, hs11, hj12⟩ := ob H5
 refine awp_cutx 0 (fun fr τ => ∃ tk_3, WkF fr (fm [(3, (eT tk_3 1 (@eU .u8 8) s17))]) ∧ Holds σ [] [tk_3] τ) ?_ ?_
 ·rintro fr τ ⟨tk_3, hfr, hH⟩
  have H36 := hj12
  refine AWP.fm [(3, (eT tk_3 1 (@eU .u8 8) s17))] hfr ?_
  refine sr rfl (mm tk (eT tk_3 1 (@eU .u8 8) s17) rfl rfl (ma tk (eT tk_3 1 (@eU .u8 8) s17) rfl rfl (wpo_nil (awp_ret ?_))))
  obtain rfl := oi H36
  exact ⟨_, (eT tk_3 1 (@eU .u8 8) s17), rfl, .of_eq rfl, tk_3, rfl, hH⟩
 ·refine awp_loopO (body := fun s => R03_Seal_b0 s.1 s.2.1 s.2.2) hs11 (fun (s : (List (BitVec 8)) × (BitVec 32) × Int) fr τ => ∃ tk_3, WkF fr (fm [(3, (eT tk_3 1 (@eU .u8 8) s.1)), (4, ((@eU .u32 32) s.2.1)), (5, (eI s.2.2))]) ∧ Holds σ [] [tk_3] τ) ⟨tk4, (wc (wc (wc (wkf_nil _)))), hH⟩ ?_
  rintro ⟨c7, c8, c9⟩ fr τ y13 ⟨tk_3, hfr, hH⟩ hb15 hy16
  have H18 : R03_Seal_b0 c7 c8 c9 = some y13 := hb15
  unfold R03_Seal_b0 at H18
  refine AWP.fm [(3, (eT tk_3 1 (@eU .u8 8) c7)), (4, ((@eU .u32 32) c8)), (5, (eI c9))] hfr ?_
  have hH : Holds σ [] [tk_3] τ := hH
  refine awp_seq (sr rfl (mm tk (eI c9) rfl rfl ?_))
  refine l_ H18 eB rfl (o_ar tk rfl rfl rfl) fun v20 H19 => ?_
  refine wpo_nil ?_
  refine awp_if H19 rfl (fun H21 => ?_) (fun H21 => ?_)
  ·refine awp_skip (awp_seq (awp_block (sr rfl (mm tk (eT tk_3 1 (@eU .u8 8) c7) rfl rfl (mm tk ((@eU .u32 32) c8) rfl rfl ?_)))))
   refine l_ H21 (@eU .u32 32) rfl (o_rem_u tk (k := .u32) (y := 256#32) (z := 256#32) rfl rfl rfl rfl) fun v23 H22 => ?_
   refine l_ H22 (@eU .u8 8) rfl (o_cv_uu tk td125 td5 rfl rfl) fun v25 H24 => ?_
   refine l_ H24 (eF 1 (@eU .u8 8)) rfl (o_c tk false rfl (fun _ => rfl)) fun v27 H26 => ?_
   obtain ⟨v29, hv30, H28⟩ := ob H26
   refine wpo_a (av := fun t => eT t 1 (@eU .u8 8) v29) rfl rfl rfl (h_app tk hH 0 hv30 rfl td40 ty5 rfl (by decide) rfl (src_l td40 rfl)) fun tk31 τ hH => ?_
   refine ma tk (eT tk31 1 (@eU .u8 8) v29) rfl rfl (wpo_nil (awp_region rfl (mm tk ((@eU .u32 32) c8) rfl rfl ?_)))
   refine l_ H28 (@eU .u32 32) rfl (o_quo_u tk (k := .u32) (y := 256#32) (z := 256#32) rfl rfl rfl rfl) fun v33 H32 => ?_
   refine ma tk ((@eU .u32 32) v33) rfl rfl (wpo_nil (awp_region rfl (mm tk (eI c9) rfl rfl ?_)))
   refine l_ H32 eI rfl (o_ar tk rfl rfl rfl) fun v35 H34 => ?_
   refine ma tk (eI v35) rfl rfl (wpo_nil ?_)
   exact ⟨(v29, v33, v35), inj_inl H34, tk31, (wc (wc (wc (wkf_nil _)))), hH⟩
  ·refine awp_exit ?_
   have hz := hy16 _ (inj_inr H21)
   subst hz
   exact ⟨⟨_, inj_inr H21⟩, tk_3, (wc (wkf_nil _)), hH⟩
theorem R03_Seal_ok {x0 : List (BitVec 8)} {r : (List (BitVec 8))} (H : R03_Seal x0 = some r) (σ : St) : ACall Tryz.prog 62 [((eL 1 (@eU .u8 8)) x0)] σ (fun a τ => a = (eL 1 (@eU .u8 8)) r ∧ τ = σ) := (R03_Seal_app H σ).unapp (fun ρ κ => cutL_enc (enc_u td5 sz5).cut ρ κ r)
theorem R23_Put_ok {x0 : api_Msg} {r : (List (BitVec 8)) × Int} (H : R23_Put x0 = some r) (σ : St)  : ACall Tryz.prog 41 [(e_api_Msg x0)] σ (fun a τ => a = .tup [(eL 1 (@eU .u8 8)) r.1, eI r.2] ∧ τ = σ) := by
 unfold R23_Put at H
 refine ACall.pure (acall_start tk Tryz.func41 (by decide) rfl (nb rfl) ?_)
 have hH := Holds.init σ
 refine sr rfl (m_ (.fptr (c_api_Msg x0) 0) rfl (o_boxf tk rfl wr (b := (e_api_Msg x0)) (enc44.flat _)) (ma tk AV.nils rfl rfl (ma tk (eI (0 : Int)) rfl rfl (wpo_nil (awp_seq (sr rfl (m_ (e_api_Msg x0) rfl (o_ld tk rfl rfl) ?_)))))))
 refine b_ H eI rfl (fun v2 hv => OpP.of_call rfl rfl (.cons wr .nil) (R23_Check_ok hv)) fun v2 hv2 H1 => ?_
 refine ma tk (eI v2) rfl rfl (wpo_nil (sr rfl (mm tk (eI v2) rfl rfl ?_)))
 refine l_ H1 eB rfl (o_ar tk rfl rfl rfl) fun v4 H3 => ?_
 refine wpo_nil ?_
 refine awp_if H3 rfl (fun H5 => ?_) (fun H5 => ?_)
 ·refine sr rfl (mm tk (eI v2) rfl rfl (ma tk AV.nils rfl rfl (ma tk (eI v2) rfl rfl (wpo_nil (awp_ret ?_)))))
  obtain rfl := oi H5
  exact ⟨_, (.tup [((eL 1 (@eU .u8 8)) []), (eI v2)]), rfl, (wk_tup (.cons (wk_nils _) (.cons wr .nil))), .of_eq (by simp only [cutAV, cutL, (enc_l td40 sz40 (enc_u td5 sz5).cut).cut _ _ _, (enc_i64 td53 sz53).cut _ _ _]), hH.noT⟩
 ·refine awp_skip (sr rfl (mc tk (.fptr (c_api_Msg x0) 0) rfl rfl (fun _ => rfl) (m_ (eI x0.Kind) rfl (o_ld tk rfl rfl) (mc tk (.fptr (c_api_Msg x0) 1) rfl rfl (fun _ => rfl) (m_ (eI x0.From) rfl (o_ld tk rfl rfl) (mc tk (.fptr (c_api_Msg x0) 2) rfl rfl (fun _ => rfl) (m_ (eI x0.To) rfl (o_ld tk rfl rfl) (mc tk (.fptr (c_api_Msg x0) 3) rfl rfl (fun _ => rfl) ?_))))))))
  refine m_ (eI x0.Epoch) rfl (o_ld tk rfl rfl) ?_
  refine l_ H5 (eF 1 eI) rfl (o_c tk false rfl (fun _ => rfl)) fun v7 H6 => ?_
  refine b_ H6 (eL 1 (@eU .u8 8)) rfl (fun v9 hv => OpP.of_call rfl rfl (.cons (wk_nils _) (.cons wk_no .nil)) (R02_Put_ok hv)) fun v9 hv9 H8 => ?_
  refine ma tk ((eL 1 (@eU .u8 8)) v9) rfl rfl (wpo_nil (awp_seq (sr rfl (mc tk (.fptr (c_api_Msg x0) 0) rfl rfl (fun _ => rfl) (m_ (eI x0.Kind) rfl (o_ld tk rfl rfl) ?_)))))
  refine b_ H8 eB rfl (fun v11 hv => OpP.of_call rfl rfl (.cons wr .nil) (R23_lease_ok hv)) fun v11 hv11 H10 => ?_
  refine wpo_nil ?_
  obtain ⟨s12, hs14, hj15⟩ := ob H10
  refine awp_cutn (fun fr τ => WkF fr (fm [(1, (.fptr (c_api_Msg x0) 0)), (5, ((eL 1 (@eU .u8 8)) s12))]) ∧ Holds σ [] [] τ) ?_ ?_
  ·rintro fr τ ⟨hfr, hH⟩
   have H21 := hj15
   refine AWP.fm [(1, (.fptr (c_api_Msg x0) 0)), (5, ((eL 1 (@eU .u8 8)) s12))] hfr ?_
   refine awp_seq (sr rfl (mc tk (.fptr (c_api_Msg x0) 0) rfl rfl (fun _ => rfl) (m_ (eI x0.Kind) rfl (o_ld tk rfl rfl) ?_)))
   refine b_ H21 eB rfl (fun v23 hv => OpP.of_call rfl rfl (.cons wr .nil) (R23_key_ok hv)) fun v23 hv23 H22 => ?_
   refine wpo_nil ?_
   obtain ⟨s24, hs26, hj27⟩ := ob H22
   refine awp_cutn (fun fr τ => WkF fr (fm [(1, (.fptr (c_api_Msg x0) 0)), (5, ((eL 1 (@eU .u8 8)) s24))]) ∧ Holds σ [] [] τ) ?_ ?_
   ·rintro fr τ ⟨hfr, hH⟩
    have H33 := hj27
    refine AWP.fm [(1, (.fptr (c_api_Msg x0) 0)), (5, ((eL 1 (@eU .u8 8)) s24))] hfr ?_
    refine awp_seq (sr rfl (mc tk (.fptr (c_api_Msg x0) 0) rfl rfl (fun _ => rfl) (m_ (eI x0.Kind) rfl (o_ld tk rfl rfl) ?_)))
    refine b_ H33 eB rfl (fun v35 hv => OpP.of_call rfl rfl (.cons wr .nil) (R23_asof_ok hv)) fun v35 hv35 H34 => ?_
    refine wpo_nil ?_
    obtain ⟨s36, hs38, hj39⟩ := ob H34
    refine awp_cutn (fun fr τ => WkF fr (fm [(1, (.fptr (c_api_Msg x0) 0)), (5, ((eL 1 (@eU .u8 8)) s36))]) ∧ Holds σ [] [] τ) ?_ ?_
    ·rintro fr τ ⟨hfr, hH⟩
     have H45 := hj39
     refine AWP.fm [(1, (.fptr (c_api_Msg x0) 0)), (5, ((eL 1 (@eU .u8 8)) s36))] hfr ?_
     refine awp_seq (awp_seq ?_)
     obtain ⟨s46, hs48, hj49⟩ := ob H45
     refine awp_cutn (fun fr τ => WkF fr (fm [(1, (.fptr (c_api_Msg x0) 0)), (5, ((eL 1 (@eU .u8 8)) s36)), (53, (eB s46))]) ∧ Holds σ [] [] τ) ?_ ?_
     ·rintro fr τ ⟨hfr, hH⟩
      have H53 := hj49
      refine AWP.fm [(1, (.fptr (c_api_Msg x0) 0)), (5, ((eL 1 (@eU .u8 8)) s36)), (53, (eB s46))] hfr ?_
      obtain ⟨s54, hs56, hj57⟩ := ob H53
      refine awp_cutn (fun fr τ => WkF fr (fm [(1, (.fptr (c_api_Msg x0) 0)), (5, ((eL 1 (@eU .u8 8)) s54))]) ∧ Holds σ [] [] τ) ?_ ?_
      ·rintro fr τ ⟨hfr, hH⟩
       have H61 := hj57
       refine AWP.fm [(1, (.fptr (c_api_Msg x0) 0)), (5, ((eL 1 (@eU .u8 8)) s54))] hfr ?_
       refine awp_seq (awp_seq ?_)
       obtain ⟨s62, hs64, hj65⟩ := ob H61
       refine awp_cutn (fun fr τ => WkF fr (fm [(1, (.fptr (c_api_Msg x0) 0)), (5, ((eL 1 (@eU .u8 8)) s54)), (64, (eB s62))]) ∧ Holds σ [] [] τ) ?_ ?_
       ·rintro fr τ ⟨hfr, hH⟩
        have H71 := hj65
        refine AWP.fm [(1, (.fptr (c_api_Msg x0) 0)), (5, ((eL 1 (@eU .u8 8)) s54)), (64, (eB s62))] hfr ?_
        obtain ⟨s72, hs74, hj75⟩ := ob H71
        refine awp_cutn (fun fr τ => WkF fr (fm [(1, (.fptr (c_api_Msg x0) 0)), (5, ((eL 1 (@eU .u8 8)) s72))]) ∧ Holds σ [] [] τ) ?_ ?_
        ·rintro fr τ ⟨hfr, hH⟩
         have H79 := hj75
         refine AWP.fm [(1, (.fptr (c_api_Msg x0) 0)), (5, ((eL 1 (@eU .u8 8)) s72))] hfr ?_
         refine awp_seq (awp_seq ?_)
         obtain ⟨s80, hs82, hj83⟩ := ob H79
         refine awp_cutn (fun fr τ => WkF fr (fm [(1, (.fptr (c_api_Msg x0) 0)), (5, ((eL 1 (@eU .u8 8)) s72)), (74, (eB s80))]) ∧ Holds σ [] [] τ) ?_ ?_
         ·rintro fr τ ⟨hfr, hH⟩
          have H87 := hj83
          refine AWP.fm [(1, (.fptr (c_api_Msg x0) 0)), (5, ((eL 1 (@eU .u8 8)) s72)), (74, (eB s80))] hfr ?_
          refine awp_if H87 rfl (fun H88 => ?_) (fun H88 => ?_)
          ·refine sr rfl (mm tk ((eL 1 (@eU .u8 8)) s72) rfl rfl (mc tk (.fptr (c_api_Msg x0) 5) rfl rfl (fun _ => rfl) (mc tk (.fptr (c_api_Msg x0) 6) rfl rfl (fun _ => rfl) (m_ (eI x0.X.Version) rfl (o_ld tk rfl rfl) (mc tk (.fptr (c_api_Msg x0) 5) rfl rfl (fun _ => rfl) (mc tk (.fptr (c_api_Msg x0) 8) rfl rfl (fun _ => rfl) (m_ (eI x0.X.Ends) rfl (o_ld tk rfl rfl) ?_)))))))
           refine l_ H88 (eF 1 eI) rfl (o_c tk false rfl (fun _ => rfl)) fun v90 H89 => ?_
           refine b_ H89 (eL 1 (@eU .u8 8)) rfl (fun v92 hv => OpP.of_call rfl rfl (.cons wr (.cons wk_no .nil)) (R02_Put_ok hv)) fun v92 hv92 H91 => ?_
           refine ma tk ((eL 1 (@eU .u8 8)) v92) rfl rfl (wpo_nil (awp_region rfl (mm tk ((eL 1 (@eU .u8 8)) v92) rfl rfl (mc tk (.fptr (c_api_Msg x0) 5) rfl rfl (fun _ => rfl) (mc tk (.fptr (c_api_Msg x0) 9) rfl rfl (fun _ => rfl) (m_ ((eL 1 (@eU .u8 8)) x0.X.Value) rfl (o_ld tk rfl rfl) ?_))))))
           refine b_ H91 (eL 1 (@eU .u8 8)) rfl (fun v94 hv => OpP.of_call rfl rfl (.cons wr (.cons wr .nil)) (R02_Bytes_ok hv)) fun v94 hv94 H93 => ?_
           refine ma tk ((eL 1 (@eU .u8 8)) v94) rfl rfl (wpo_nil (sr rfl (mm tk ((eL 1 (@eU .u8 8)) v94) rfl rfl ?_)))
           refine b_ H93 (eL 1 (@eU .u8 8)) rfl (fun v96 hv => OpP.of_call rfl rfl (.cons wr .nil) (R03_Seal_ok hv)) fun v96 hv96 H95 => ?_
           refine ma tk ((eL 1 (@eU .u8 8)) v96) rfl rfl (ma tk (eI (0 : Int)) rfl rfl (wpo_nil (awp_ret ?_)))
           obtain rfl := oi H95
           exact ⟨_, (.tup [((eL 1 (@eU .u8 8)) v96), (eI (0 : Int))]), rfl, (wk_tup (.cons wr (.cons wr .nil))), .of_eq (by simp only [cutAV, cutL, (enc_l td40 sz40 (enc_u td5 sz5).cut).cut _ _ _, (enc_i64 td53 sz53).cut _ _ _]), hH.noT⟩
          ·refine awp_skip (sr rfl (mm tk ((eL 1 (@eU .u8 8)) s72) rfl rfl ?_))
           refine b_ H88 (eL 1 (@eU .u8 8)) rfl (fun v98 hv => OpP.of_call rfl rfl (.cons wr .nil) (R03_Seal_ok hv)) fun v98 hv98 H97 => ?_
           refine ma tk ((eL 1 (@eU .u8 8)) v98) rfl rfl (ma tk (eI (0 : Int)) rfl rfl (wpo_nil (awp_ret ?_)))
           obtain rfl := oi H97
           exact ⟨_, (.tup [((eL 1 (@eU .u8 8)) v98), (eI (0 : Int))]), rfl, (wk_tup (.cons wr (.cons wr .nil))), .of_eq (by simp only [cutAV, cutL, (enc_l td40 sz40 (enc_u td5 sz5).cut).cut _ _ _, (enc_i64 td53 sz53).cut _ _ _]), hH.noT⟩
         ·refine awp_region rfl (mc tk (.fptr (c_api_Msg x0) 0) rfl rfl (fun _ => rfl) (m_ (eI x0.Kind) rfl (o_ld tk rfl rfl) ?_))
          refine l_ hs82 eB rfl (o_ar tk rfl rfl rfl) fun v85 H84 => ?_
          refine mm tk (eB v85) rfl rfl ?_
          refine if_split H84 (fun hb H86 => ?_) (fun hb H86 => ?_)
          ·subst hb
           refine mc tk (.fptr (c_api_Msg x0) 10) rfl rfl (fun _ => rfl) (m_ (eB x0.Found) rfl (o_ld tk rfl rfl) (pt tk (eB x0.Found) rfl rfl rfl (wpo_nil ?_)))
           have e := oi H86
           subst e
           exact ⟨(wc (wc (wc (wkf_nil _)))), hH⟩
          ·subst hb
           refine k_ rfl (k_ rfl (pf tk (eB false) rfl rfl rfl (wpo_nil ?_)))
           have e := oi H86
           subst e
           exact ⟨(wc (wc (wc (wkf_nil _)))), hH⟩
        ·refine awp_if hs74 rfl (fun H76 => ?_) (fun H76 => ?_)
         ·refine awp_region rfl (mm tk ((eL 1 (@eU .u8 8)) s54) rfl rfl (mc tk (eF 1 eI ([(0 : Int)] : List Int)) rfl rfl (fun _ => rfl) ?_))
          refine b_ H76 (eL 1 (@eU .u8 8)) rfl (fun v78 hv => OpP.of_call rfl rfl (.cons wr (.cons wk_no .nil)) (R02_Put_ok hv)) fun v78 hv78 H77 => ?_
          refine ma tk ((eL 1 (@eU .u8 8)) v78) rfl rfl (wpo_nil ?_)
          have e := oi H77
          subst e
          exact ⟨(wc (wc (wkf_nil _))), hH⟩
         ·refine awp_skip ?_
          have e := oi H76
          subst e
          exact ⟨(wc (wc (wkf_nil _))), hH⟩
       ·refine awp_region rfl (mc tk (.fptr (c_api_Msg x0) 0) rfl rfl (fun _ => rfl) (m_ (eI x0.Kind) rfl (o_ld tk rfl rfl) ?_))
        refine b_ hs64 eB rfl (fun v67 hv => OpP.of_call rfl rfl (.cons wr .nil) (R23_found_ok hv)) fun v67 hv67 H66 => ?_
        refine mm tk (eB v67) rfl rfl ?_
        refine if_split H66 (fun hb H68 => ?_) (fun hb H68 => ?_)
        ·subst hb
         refine mc tk (.fptr (c_api_Msg x0) 10) rfl rfl (fun _ => rfl) (m_ (eB x0.Found) rfl (o_ld tk rfl rfl) ?_)
         refine l_ H68 eB rfl (o_un tk rfl rfl) fun v70 H69 => ?_
         refine pt tk (eB v70) rfl rfl rfl (wpo_nil ?_)
         have e := oi H69
         subst e
         exact ⟨(wc (wc (wc (wkf_nil _)))), hH⟩
        ·subst hb
         refine k_ rfl (k_ rfl (k_ rfl (pf tk (eB false) rfl rfl rfl (wpo_nil ?_))))
         have e := oi H68
         subst e
         exact ⟨(wc (wc (wc (wkf_nil _)))), hH⟩
      ·refine awp_if hs56 rfl (fun H58 => ?_) (fun H58 => ?_)
       ·refine awp_region rfl (mm tk ((eL 1 (@eU .u8 8)) s36) rfl rfl (mc tk (eF 1 eI ([(1 : Int)] : List Int)) rfl rfl (fun _ => rfl) ?_))
        refine b_ H58 (eL 1 (@eU .u8 8)) rfl (fun v60 hv => OpP.of_call rfl rfl (.cons wr (.cons wk_no .nil)) (R02_Put_ok hv)) fun v60 hv60 H59 => ?_
        refine ma tk ((eL 1 (@eU .u8 8)) v60) rfl rfl (wpo_nil ?_)
        have e := oi H59
        subst e
        exact ⟨(wc (wc (wkf_nil _))), hH⟩
       ·refine awp_skip ?_
        have e := oi H58
        subst e
        exact ⟨(wc (wc (wkf_nil _))), hH⟩
     ·refine awp_region rfl (mc tk (.fptr (c_api_Msg x0) 0) rfl rfl (fun _ => rfl) (m_ (eI x0.Kind) rfl (o_ld tk rfl rfl) ?_))
      refine b_ hs48 eB rfl (fun v51 hv => OpP.of_call rfl rfl (.cons wr .nil) (R23_found_ok hv)) fun v51 hv51 H50 => ?_
      refine mm tk (eB v51) rfl rfl ?_
      refine if_split H50 (fun hb H52 => ?_) (fun hb H52 => ?_)
      ·subst hb
       refine mc tk (.fptr (c_api_Msg x0) 10) rfl rfl (fun _ => rfl) (m_ (eB x0.Found) rfl (o_ld tk rfl rfl) (pt tk (eB x0.Found) rfl rfl rfl (wpo_nil ?_)))
       have e := oi H52
       subst e
       exact ⟨(wc (wc (wc (wkf_nil _)))), hH⟩
      ·subst hb
       refine k_ rfl (k_ rfl (pf tk (eB false) rfl rfl rfl (wpo_nil ?_)))
       have e := oi H52
       subst e
       exact ⟨(wc (wc (wc (wkf_nil _)))), hH⟩
    ·refine awp_if hs38 rfl (fun H40 => ?_) (fun H40 => ?_)
     ·refine awp_region rfl (mm tk ((eL 1 (@eU .u8 8)) s24) rfl rfl (mc tk (.fptr (c_api_Msg x0) 5) rfl rfl (fun _ => rfl) (mc tk (.fptr (c_api_Msg x0) 7) rfl rfl (fun _ => rfl) (m_ (eI x0.X.AsOf) rfl (o_ld tk rfl rfl) ?_))))
      refine l_ H40 (eF 1 eI) rfl (o_c tk false rfl (fun _ => rfl)) fun v42 H41 => ?_
      refine b_ H41 (eL 1 (@eU .u8 8)) rfl (fun v44 hv => OpP.of_call rfl rfl (.cons wr (.cons wk_no .nil)) (R02_Put_ok hv)) fun v44 hv44 H43 => ?_
      refine ma tk ((eL 1 (@eU .u8 8)) v44) rfl rfl (wpo_nil ?_)
      have e := oi H43
      subst e
      exact ⟨(wc (wc (wkf_nil _))), hH⟩
     ·refine awp_skip ?_
      have e := oi H40
      subst e
      exact ⟨(wc (wc (wkf_nil _))), hH⟩
   ·refine awp_if hs26 rfl (fun H28 => ?_) (fun H28 => ?_)
    ·refine awp_region rfl (mm tk ((eL 1 (@eU .u8 8)) s12) rfl rfl (mc tk (.fptr (c_api_Msg x0) 5) rfl rfl (fun _ => rfl) (mc tk (.fptr (c_api_Msg x0) 5) rfl rfl (fun _ => rfl) (m_ (eS x0.X.Key) rfl (o_ld tk rfl rfl) ?_))))
     refine b_ H28 (eL 1 (@eU .u8 8)) rfl (fun v30 hv => o_s2b tk hv td9 td40 td5 rfl) fun v30 hv30 H29 => ?_
     refine b_ H29 (eL 1 (@eU .u8 8)) rfl (fun v32 hv => OpP.of_call rfl rfl (.cons wr (.cons wr .nil)) (R02_Bytes_ok hv)) fun v32 hv32 H31 => ?_
     refine ma tk ((eL 1 (@eU .u8 8)) v32) rfl rfl (wpo_nil ?_)
     have e := oi H31
     subst e
     exact ⟨(wc (wc (wkf_nil _))), hH⟩
    ·refine awp_skip ?_
     have e := oi H28
     subst e
     exact ⟨(wc (wc (wkf_nil _))), hH⟩
  ·refine awp_if hs14 rfl (fun H16 => ?_) (fun H16 => ?_)
   ·refine awp_region rfl (mm tk ((eL 1 (@eU .u8 8)) v9) rfl rfl (mc tk (.fptr (c_api_Msg x0) 4) rfl rfl (fun _ => rfl) (m_ (eI x0.Id) rfl (o_ld tk rfl rfl) ?_)))
    refine l_ H16 (eF 1 eI) rfl (o_c tk false rfl (fun _ => rfl)) fun v18 H17 => ?_
    refine b_ H17 (eL 1 (@eU .u8 8)) rfl (fun v20 hv => OpP.of_call rfl rfl (.cons wr (.cons wk_no .nil)) (R02_Put_ok hv)) fun v20 hv20 H19 => ?_
    refine ma tk ((eL 1 (@eU .u8 8)) v20) rfl rfl (wpo_nil ?_)
    have e := oi H19
    subst e
    exact ⟨(wc (wc (wkf_nil _))), hH⟩
   ·refine awp_skip ?_
    have e := oi H16
    subst e
    exact ⟨(wc (wc (wkf_nil _))), hH⟩
theorem R26_Spoil_ok {x0 : R26_Lines} {x1 : Int} {x2 : Int} {x3 : BitVec 8} {r : R26_Lines × Int} (H : R26_Spoil x0 x1 x2 x3 = some r) (σ : St)  : ACall Tryz.prog 25 [(e_R26_Lines x0), (eI x1), (eI x2), ((@eU .u8 8) x3)] σ (fun a τ => a = .tup [e_R26_Lines r.1, eI r.2] ∧ τ = σ) := by
 unfold R26_Spoil at H
 refine ACall.pure (acall_start tk Tryz.func25 (by decide) rfl (nb rfl) ?_)
 have hH := Holds.init σ
 refine sr rfl (m_ (.fptr (c_R26_Lines x0) 0) rfl (o_boxf tk rfl wr (b := (e_R26_Lines x0)) (enc30.flat _)) ?_)
 refine wpo_a (av := fun id => .ref id 0) rfl rfl rfl (h_alloc tk hH ty30 [AV.nils, AV.nils, (eI z_R26_Lines.Lost)] rfl) fun id1 τ ⟨hH, n2⟩ => ?_
 refine ma tk (eI (0 : Int)) rfl rfl (wpo_nil (awp_seq (sr rfl (m_ (e_R26_Lines x0) rfl (o_ld tk rfl rfl) (mm tk (eI x1) rfl rfl ?_)))))
 refine b_ H eB rfl (fun v4 hv => OpP.of_call rfl rfl (.cons wr (.cons wr .nil)) (R26_there_ok hv)) fun v4 hv4 H3 => ?_
 refine l_ H3 eB rfl (o_un tk rfl rfl) fun v6 H5 => ?_
 refine wpo_nil ?_
 refine awp_if H5 rfl (fun H7 => ?_) (fun H7 => ?_)
 ·refine sr rfl (m_ (e_R26_Lines x0) rfl (o_ld tk rfl rfl) ?_)
  refine wpo_z rfl rfl (h_st tk hH 0 rfl ty30 (by simp) rfl rfl wr (b := (e_R26_Lines x0)) (enc30.flat _) rfl (nb rfl) (c_R26_Lines (x0 : R26_Lines)) rfl) fun τ hH => ?_
  refine ma tk (eI (9 : Int)) rfl rfl (wpo_nil (awp_ret ?_))
  obtain rfl := oi H7
  exact ⟨_, (.tup [(e_R26_Lines (x0 : R26_Lines)), (eI (9 : Int))]), (ares_2 (ares_cell hH 0 rfl rfl rfl) rfl), (wk_tup (.cons wr (.cons wr .nil))), .of_eq (by simp only [cutAV, cutL, enc30.cut _ _ _, (enc_i64 td53 sz53).cut _ _ _]), (hH.noT.drop n2)⟩
 ·refine awp_skip (awp_seq (sr rfl (mc tk (.fptr (c_R26_Lines x0) 1) rfl rfl (fun _ => rfl) (m_ ((eL 1 eB) x0.Bad) rfl (o_ld tk rfl rfl) (mm tk (eI x1) rfl rfl ?_)))))
  refine b_ H7 (fun y => .fptr (eB y).cells 0) rfl (fun v10 hv => o_ixa tk hv td28 (enc_b td4 sz4) rfl rfl) fun v10 hv10 H9 => ?_
  refine m_ (eB v10) rfl (o_ld_e tk (enc_b td4 sz4) rfl rfl) (wpo_nil ?_)
  refine awp_if H9 rfl (fun H11 => ?_) (fun H11 => ?_)
  ·refine sr rfl (m_ (e_R26_Lines x0) rfl (o_ld tk rfl rfl) ?_)
   refine wpo_z rfl rfl (h_st tk hH 0 rfl ty30 (by simp) rfl rfl wr (b := (e_R26_Lines x0)) (enc30.flat _) rfl (nb rfl) (c_R26_Lines (x0 : R26_Lines)) rfl) fun τ hH => ?_
   refine ma tk (eI (13 : Int)) rfl rfl (wpo_nil (awp_ret ?_))
   obtain rfl := oi H11
   exact ⟨_, (.tup [(e_R26_Lines (x0 : R26_Lines)), (eI (13 : Int))]), (ares_2 (ares_cell hH 0 rfl rfl rfl) rfl), (wk_tup (.cons wr (.cons wr .nil))), .of_eq (by simp only [cutAV, cutL, enc30.cut _ _ _, (enc_i64 td53 sz53).cut _ _ _]), (hH.noT.drop n2)⟩
  ·refine awp_skip (sr rfl (mc tk (.fptr (c_R26_Lines x0) 0) rfl rfl (fun _ => rfl) (m_ ((eL 11 e_api_Msg) x0.L) rfl (o_ld tk rfl rfl) (mm tk (eI x1) rfl rfl ?_))))
   refine b_ H11 (fun y => .fptr (e_api_Msg y).cells 0) rfl (fun v14 hv => o_ixa tk hv td27 enc44 rfl rfl) fun v14 hv14 H13 => ?_
   refine m_ (e_api_Msg v14) rfl (o_ld_e tk enc44 rfl rfl) ?_
   refine b_ H13 (fun r => .tup [(eL 1 (@eU .u8 8)) r.1, eI r.2]) rfl (fun v16 hv => OpP.of_call rfl rfl (.cons wr .nil) (R23_Put_ok hv)) fun v16 hv16 H15 => ?_
   refine mm tk (.tup [((eL 1 (@eU .u8 8)) v16.1), (eI v16.2)]) rfl rfl (m_ ((eL 1 (@eU .u8 8)) v16.1) rfl (o_ext tk rfl rfl) (m_ (eI v16.2) rfl (o_ext tk rfl rfl) (ma tk ((eL 1 (@eU .u8 8)) v16.1) rfl rfl (ma tk (eI v16.2) rfl rfl (wpo_nil (awp_seq (awp_seq ?_)))))))
   obtain ⟨s17, hs19, hj20⟩ := ob H15
   refine awp_cutn (fun fr τ => WkF fr (fm [(1, (eI x1)), (4, (.fptr (c_R26_Lines x0) 0)), (8, (.ref id1 0)), (44, (eB s17))]) ∧ Holds σ [(id1, [AV.nils, AV.nils, (eI z_R26_Lines.Lost)])] [] τ) ?_ ?_
   ·rintro fr τ ⟨hfr, hH⟩
    have H31 := hj20
    refine AWP.fm [(1, (eI x1)), (4, (.fptr (c_R26_Lines x0) 0)), (8, (.ref id1 0)), (44, (eB s17))] hfr ?_
    refine awp_if H31 rfl (fun H32 => ?_) (fun H32 => ?_)
    ·refine sr rfl (m_ (e_R26_Lines x0) rfl (o_ld tk rfl rfl) ?_)
     refine wpo_z rfl rfl (h_st tk hH 0 rfl ty30 (by simp) rfl rfl wr (b := (e_R26_Lines x0)) (enc30.flat _) rfl (nb rfl) (c_R26_Lines (x0 : R26_Lines)) rfl) fun τ hH => ?_
     refine ma tk (eI (2 : Int)) rfl rfl (wpo_nil (awp_ret ?_))
     obtain rfl := oi H32
     exact ⟨_, (.tup [(e_R26_Lines (x0 : R26_Lines)), (eI (2 : Int))]), (ares_2 (ares_cell hH 0 rfl rfl rfl) rfl), (wk_tup (.cons wr (.cons wr .nil))), .of_eq (by simp only [cutAV, cutL, enc30.cut _ _ _, (enc_i64 td53 sz53).cut _ _ _]), (hH.noT.drop n2)⟩
    ·refine awp_skip (sr rfl (mc tk (.fptr (c_R26_Lines x0) 0) rfl rfl (fun _ => rfl) (m_ ((eL 11 e_api_Msg) x0.L) rfl (o_ld tk rfl rfl) (mc tk (.fptr (c_R26_Lines x0) 2) rfl rfl (fun _ => rfl) (m_ (eI x0.Lost) rfl (o_ld tk rfl rfl) (mc tk (.agg [((eL 11 e_api_Msg) (⟨x0.L, ([] : List Bool), x0.Lost⟩ : R26_Lines).L), AV.nils, (eI (⟨x0.L, ([] : List Bool), x0.Lost⟩ : R26_Lines).Lost)]) rfl rfl (fun _ => rfl) ?_))))))
     refine wpo_a (av := fun id => .ref id 0) rfl rfl rfl (h_alloc tk hH ty30 [AV.nils, AV.nils, (eI z_R26_Lines.Lost)] rfl) fun id34 τ ⟨hH, n35⟩ => ?_
     refine wpo_z rfl rfl (h_st (y := (.agg [((eL 11 e_api_Msg) (⟨x0.L, ([] : List Bool), x0.Lost⟩ : R26_Lines).L), AV.nils, (eI (⟨x0.L, ([] : List Bool), x0.Lost⟩ : R26_Lines).Lost)])) tk hH 0 rfl ty30 (by simp) rfl rfl wr (b := (.agg [((eL 11 e_api_Msg) (⟨x0.L, ([] : List Bool), x0.Lost⟩ : R26_Lines).L), AV.nils, (eI (⟨x0.L, ([] : List Bool), x0.Lost⟩ : R26_Lines).Lost)])) rfl rfl (nb rfl) [((eL 11 e_api_Msg) ((⟨x0.L, ([] : List Bool), x0.Lost⟩ : R26_Lines) : R26_Lines).L), AV.nils, (eI ((⟨x0.L, ([] : List Bool), x0.Lost⟩ : R26_Lines) : R26_Lines).Lost)] rfl) fun τ hH => ?_
     refine wpo_nil (sr rfl (mc tk (.ref id34 1) rfl rfl (fun _ => rfl) (wpo_rd (a := AV.nils) rfl rfl rfl (h_ld tk hH 0 rfl rfl rfl) (mc tk (.fptr (c_R26_Lines x0) 1) rfl rfl (fun _ => rfl) (m_ ((eL 1 eB) x0.Bad) rfl (o_ld tk rfl rfl) ?_)))))
     obtain ⟨v38, hv39, H37⟩ := ob H32
     refine wpo_a (av := fun b => .vec b 1 (v38).length) rfl rfl rfl (h_appV0 tk hH hv39 (enc_b td4 sz4) td28 ty4 rfl (by decide) (by simp) (.inl rfl) (srv_l (enc_b td4 sz4) td28 rfl)) fun id40 τ ⟨hH, n41⟩ => ?_
     refine mc tk (.ref id34 1) rfl rfl (fun _ => rfl) ?_
     refine wpo_z rfl rfl (h_st (y := (.vec id40 1 (v38).length)) tk hH 1 rfl ty28 (by simp) rfl rfl wr (b := (.vec id40 1 (v38).length)) rfl rfl (nb rfl) [((eL 11 e_api_Msg) ({ ((⟨x0.L, ([] : List Bool), x0.Lost⟩ : R26_Lines) : R26_Lines) with Bad := v38 } : R26_Lines).L), (.vec id40 1 (v38).length), (eI ({ ((⟨x0.L, ([] : List Bool), x0.Lost⟩ : R26_Lines) : R26_Lines) with Bad := v38 } : R26_Lines).Lost)] rfl) fun τ hH => ?_
     refine wpo_nil (sr rfl (mc tk (.ref id34 1) rfl rfl (fun _ => rfl) (wpo_rd (a := (.vec id40 1 (v38).length)) rfl rfl rfl (h_ld tk hH 1 rfl rfl rfl) (mm tk (eI x1) rfl rfl ?_))))
     refine b_ H37 (fun _ => .ref id40 (0 + (x1 : Int).toNat * 1 + 0)) rfl (fun v44 hv => o_vecx tk hv td28 sz4 (by decide) rfl rfl) fun v44 hv44 H43 => ?_
     obtain ⟨c46, hc47, H45⟩ := ob H43
     refine wpo_z rfl rfl (h_stx tk hH 0 hc47 rfl (enc_b td4 sz4) ty4 (by simp) rfl rfl wr (b := (eB true)) rfl rfl (by decide) (fun _ => rfl)) fun τ hH => ?_
     refine wpo_nil (awp_seq ?_)
     refine AWP.frzF hH 1 0 1 rfl rfl n41 (by decide) (enc_b td4 sz4) rfl (updA_len hc47) fun tk48 τ (hH : Holds σ [(id34, [((eL 11 e_api_Msg) ({ ({ ((⟨x0.L, ([] : List Bool), x0.Lost⟩ : R26_Lines) : R26_Lines) with Bad := v38 } : R26_Lines) with Bad := c46 } : R26_Lines).L), (eT tk48 1 eB ({ ({ ((⟨x0.L, ([] : List Bool), x0.Lost⟩ : R26_Lines) : R26_Lines) with Bad := v38 } : R26_Lines) with Bad := c46 } : R26_Lines).Bad), (eI ({ ({ ((⟨x0.L, ([] : List Bool), x0.Lost⟩ : R26_Lines) : R26_Lines) with Bad := v38 } : R26_Lines) with Bad := c46 } : R26_Lines).Lost)]), (id1, [AV.nils, AV.nils, (eI z_R26_Lines.Lost)])] [tk48] τ) => ?_
     refine awp_region rfl (wpo_rd (a := (.agg [((eL 11 e_api_Msg) ({ ({ ((⟨x0.L, ([] : List Bool), x0.Lost⟩ : R26_Lines) : R26_Lines) with Bad := v38 } : R26_Lines) with Bad := c46 } : R26_Lines).L), (eT tk48 1 eB ({ ({ ((⟨x0.L, ([] : List Bool), x0.Lost⟩ : R26_Lines) : R26_Lines) with Bad := v38 } : R26_Lines) with Bad := c46 } : R26_Lines).Bad), (eI ({ ({ ((⟨x0.L, ([] : List Bool), x0.Lost⟩ : R26_Lines) : R26_Lines) with Bad := v38 } : R26_Lines) with Bad := c46 } : R26_Lines).Lost)])) rfl rfl rfl (h_ld tk hH 0 rfl rfl rfl) ?_)
     refine wpo_z rfl rfl (h_st (y := (.agg [((eL 11 e_api_Msg) ({ ({ ((⟨x0.L, ([] : List Bool), x0.Lost⟩ : R26_Lines) : R26_Lines) with Bad := v38 } : R26_Lines) with Bad := c46 } : R26_Lines).L), (eT tk48 1 eB ({ ({ ((⟨x0.L, ([] : List Bool), x0.Lost⟩ : R26_Lines) : R26_Lines) with Bad := v38 } : R26_Lines) with Bad := c46 } : R26_Lines).Bad), (eI ({ ({ ((⟨x0.L, ([] : List Bool), x0.Lost⟩ : R26_Lines) : R26_Lines) with Bad := v38 } : R26_Lines) with Bad := c46 } : R26_Lines).Lost)])) tk hH 1 rfl ty30 (by simp) rfl rfl wr (b := (.agg [((eL 11 e_api_Msg) ({ ({ ((⟨x0.L, ([] : List Bool), x0.Lost⟩ : R26_Lines) : R26_Lines) with Bad := v38 } : R26_Lines) with Bad := c46 } : R26_Lines).L), (eT tk48 1 eB ({ ({ ((⟨x0.L, ([] : List Bool), x0.Lost⟩ : R26_Lines) : R26_Lines) with Bad := v38 } : R26_Lines) with Bad := c46 } : R26_Lines).Bad), (eI ({ ({ ((⟨x0.L, ([] : List Bool), x0.Lost⟩ : R26_Lines) : R26_Lines) with Bad := v38 } : R26_Lines) with Bad := c46 } : R26_Lines).Lost)])) rfl rfl (nb rfl) [((eL 11 e_api_Msg) (({ ({ ((⟨x0.L, ([] : List Bool), x0.Lost⟩ : R26_Lines) : R26_Lines) with Bad := v38 } : R26_Lines) with Bad := c46 } : R26_Lines) : R26_Lines).L), (eT tk48 1 eB (({ ({ ((⟨x0.L, ([] : List Bool), x0.Lost⟩ : R26_Lines) : R26_Lines) with Bad := v38 } : R26_Lines) with Bad := c46 } : R26_Lines) : R26_Lines).Bad), (eI (({ ({ ((⟨x0.L, ([] : List Bool), x0.Lost⟩ : R26_Lines) : R26_Lines) with Bad := v38 } : R26_Lines) with Bad := c46 } : R26_Lines) : R26_Lines).Lost)] rfl) fun τ hH => ?_
     refine ma tk (eI (0 : Int)) rfl rfl (wpo_nil (awp_ret ?_))
     obtain rfl := oi H45
     exact ⟨_, (.tup [(e_R26_Lines (({ ({ ((⟨x0.L, ([] : List Bool), x0.Lost⟩ : R26_Lines) : R26_Lines) with Bad := v38 } : R26_Lines) with Bad := c46 } : R26_Lines) : R26_Lines)), (eI (0 : Int))]), (ares_2 (ares_cell hH 1 rfl rfl rfl) rfl), (wk_tup (.cons (wk_agg (.cons wr (.cons wk_no (.cons wr .nil)))) (.cons wr .nil))), .of_eq (by simp only [cutAV, cutL, enc30.cut _ _ _, (enc_i64 td53 sz53).cut _ _ _]), ((hH.noT.drop n35).drop n2)⟩
   ·refine awp_region rfl (mm tk (eI x2) rfl rfl ?_)
    refine l_ hs19 eB rfl (o_ar tk rfl rfl rfl) fun v22 H21 => ?_
    refine mm tk (eB v22) rfl rfl ?_
    refine if_split H21 (fun hb H23 => ?_) (fun hb H23 => ?_)
    ·subst hb
     refine k_ rfl (k_ rfl (k_ rfl (k_ rfl (pt tk (eB true) rfl rfl rfl (mm tk (eB true) rfl rfl (k_ rfl (k_ rfl (pt tk (eB true) rfl rfl rfl ?_))))))))
     refine wpo_nil ?_
     have e := oi H23
     subst e
     exact ⟨(wc (wc (wc (wc (wkf_nil _))))), hH⟩
    ·subst hb
     refine mm tk (eI x2) rfl rfl (mm tk ((eL 1 (@eU .u8 8)) v16.1) rfl rfl ?_)
     refine l_ H23 eI rfl (o_len tk td40 rfl) fun v25 H24 => ?_
     refine l_ H24 eB rfl (o_ar tk rfl rfl rfl) fun v27 H26 => ?_
     refine pf tk (eB v27) rfl rfl rfl (mm tk (eB v27) rfl rfl ?_)
     refine if_split H26 (fun hb H28 => ?_) (fun hb H28 => ?_)
     ·subst hb
      refine k_ rfl (k_ rfl (pt tk (eB true) rfl rfl rfl (wpo_nil ?_)))
      have e := oi H28
      subst e
      exact ⟨(wc (wc (wc (wc (wkf_nil _))))), hH⟩
     ·subst hb
      refine mm tk ((@eU .u8 8) x3) rfl rfl ?_
      refine l_ H28 eB rfl (o_eql_u tk rfl rfl) fun v30 H29 => ?_
      refine pf tk (eB v30) rfl rfl rfl (wpo_nil ?_)
      have e := oi H29
      subst e
      exact ⟨(wc (wc (wc (wc (wkf_nil _))))), hH⟩
theorem L26_do_ok {x0 : lines_Lines} {x1 : R26_Lines} {x2 : L26_Op} {r : R26_Lines × Bool × lines_Lines} (H : L26_do x0 x1 x2 = some r) (σ : St) {p0 p0_l c_p0_l : Nat} (h0 : σ.objs[p0]? = some [(gR p0_l 2 c_p0_l (x0.l).length), (eI x0.lost)]) (h0_l : σ.objs[p0_l]? = some (gK e_lines_parcel c_p0_l x0.l)) (hd : [p0, p0_l].Pairwise fun a b => a ≠ b) (hle_p0_l : (x0.l).length ≤ c_p0_l) (hg : σ.gl = gls) : ACall Tryz.prog 7 [(.ref p0 0), (e_R26_Lines x1), (e_L26_Op x2)] σ (fun a τ => a = .tup [e_R26_Lines r.1, eB r.2.1] ∧ τ = σ.grow [(p0, [(gC (σ.objs.length + 0) 2 c_p0_l (r.2.2.l).length), (eI r.2.2.lost)]), (p0_l, [])] [(gK e_lines_parcel c_p0_l r.2.2.l)] [] 0) := by
 unfold L26_do at H
 refine ACall.outV (B := (fun f => [(p0, [(gC (f 0) 2 c_p0_l (r.2.2.l).length), (eI r.2.2.lost)]), (p0_l, [])])) (L := [(gK e_lines_parcel c_p0_l r.2.2.l)]) (fun ρ κ => by simp only [cutAV, cutL, enc30.cut ρ κ, (enc_b td4 sz4).cut ρ κ]) (by simp only [List.mem_cons, List.not_mem_nil, or_false]; rintro _ (rfl) ρ κ <;> exact gK_cut (by first | exact enc68.cut) _ _ ρ κ) (by intro f; simp only [List.mem_cons, List.not_mem_nil, or_false]; rintro _ (rfl | rfl) <;> exact (List.getElem?_eq_some_iff.1 (by assumption)).1) (fun ρ κ f f1 h1 h3 => (.cons rfl (.cons (cut_gC (h1 0 (by simp))) (.cons (.of_eq ((enc_i64 td3 sz3).cut ρ κ _)) .nil)) (.cons rfl .nil .nil))) (acall_start tk Tryz.func7 (by decide) rfl (nb rfl) ?_)
 have hH := Holds.brings (σ := σ) [(p0, [(gR p0_l 2 c_p0_l (x0.l).length), (eI x0.lost)]), (p0_l, (gK e_lines_parcel c_p0_l x0.l))] (by simp only [List.mem_cons, List.not_mem_nil, or_false]; rintro _ (rfl | rfl) <;> assumption) hd
 refine AWP.renF (g := fun i => gR i 2 c_p0_l (x0.l).length) hH 0 1 0 rfl rfl (by decide) rfl ren_gR fun id1 τ (hH : Holds σ [(id1, (gK e_lines_parcel c_p0_l x0.l)), (p0, [(gR id1 2 c_p0_l (x0.l).length), (eI x0.lost)]), (p0_l, (cL e_lines_parcel ([] : List lines_parcel)))] [] τ) n2 => ?_
 refine sr rfl (m_ (.fptr (c_R26_Lines x1) 0) rfl (o_boxf tk rfl wr (b := (e_R26_Lines x1)) (enc30.flat _)) (m_ (.fptr (c_L26_Op x2) 0) rfl (o_boxf tk rfl wr (b := (e_L26_Op x2)) (enc34.flat _)) ?_))
 refine wpo_a (av := fun id => .ref id 0) rfl rfl rfl (h_alloc tk hH ty30 [AV.nils, AV.nils, (eI z_R26_Lines.Lost)] rfl) fun id3 τ ⟨hH, n4⟩ => ?_
 refine ma tk (eB false) rfl rfl (wpo_nil (awp_seq (sr rfl (mc tk (.fptr (c_L26_Op x2) 0) rfl rfl (fun _ => rfl) (m_ (eI x2.Kind) rfl (o_ld tk rfl rfl) (wpo_nil (awp_block (sr rfl ?_))))))))
 refine l_ H eB rfl (o_ar tk rfl rfl rfl) fun v6 H5 => ?_
 refine ma tk (eB v6) rfl rfl (wpo_nil ?_)
 refine awp_if H5 rfl (fun H7 => ?_) (fun H7 => ?_)
 ·refine sr rfl (mm tk (.ref p0 0) rfl rfl (mc tk (.fptr (c_L26_Op x2) 1) rfl rfl (fun _ => rfl) (m_ ((eL 11 e_api_Msg) x2.L) rfl (o_ld tk rfl rfl) ?_)))
  refine wpo_cb H7 (fun x _ => .tup []) rfl rfl rfl (fun v9 hv => h_callg hH (fun i => [(2, (p0, [(gC (i + 0) 2 c_p0_l (v9.l).length), (eI v9.lost)])), (1, (id1, []))]) (fun _ => ⟨⟨_, rfl⟩, ⟨⟨_, rfl⟩, trivial⟩⟩) rfl rfl (.cons wr (.cons wr .nil)) (lines_Lines_Send_ok hv _ (hH.at_ 2 rfl) (hH.at_ 1 rfl) (hH.pw [2, 1] rfl (by decide)) (.r hle_p0_l))) fun v9 id11 τ hv9 H8 ⟨hH, n12⟩ => ?_
  have hH : Holds σ [(id11, (gK e_lines_parcel c_p0_l v9.l)), (id3, [AV.nils, AV.nils, (eI z_R26_Lines.Lost)]), (id1, (cL e_lines_parcel ([] : List lines_parcel))), (p0, [(gC id11 2 c_p0_l (v9.l).length), (eI v9.lost)]), (p0_l, (cL e_lines_parcel ([] : List lines_parcel)))] [] _ := hH
  have hH := hH.dropAt 2 rfl n2
  have hH : Holds σ [(id11, (gK e_lines_parcel c_p0_l v9.l)), (id3, [AV.nils, AV.nils, (eI z_R26_Lines.Lost)]), (p0, [(gC id11 2 c_p0_l (v9.l).length), (eI v9.lost)]), (p0_l, (cL e_lines_parcel ([] : List lines_parcel)))] [] _ := hH
  refine wpo_nil (sr rfl (m_ (e_R26_Lines x1) rfl (o_ld tk rfl rfl) (mc tk (.fptr (c_L26_Op x2) 1) rfl rfl (fun _ => rfl) (m_ ((eL 11 e_api_Msg) x2.L) rfl (o_ld tk rfl rfl) ?_))))
  refine b_ H8 e_R26_Lines rfl (fun v14 hv => OpP.of_call rfl rfl (.cons wr (.cons wr .nil)) (R26_Send_ok hv)) fun v14 hv14 H13 => ?_
  refine wpo_z rfl rfl (h_st tk hH 1 rfl ty30 (by simp) rfl rfl wr (b := (e_R26_Lines v14)) (enc30.flat _) rfl (nb rfl) (c_R26_Lines (v14 : R26_Lines)) rfl) fun τ hH => ?_
  refine ma tk (eB true) rfl rfl (wpo_nil (awp_ret ?_))
  obtain rfl := oi H13
  have hH : Holds σ [(id11, (gK e_lines_parcel c_p0_l v9.l)), (id3, (c_R26_Lines (v14 : R26_Lines))), (p0, [(gC id11 2 c_p0_l (v9.l).length), (eI v9.lost)]), (p0_l, (cL e_lines_parcel ([] : List lines_parcel)))] [] _ := hH
  have hF : Holds σ [(id11, (gK e_lines_parcel c_p0_l v9.l)), (p0, [(gC id11 2 c_p0_l (v9.l).length), (eI v9.lost)]), (p0_l, (cL e_lines_parcel ([] : List lines_parcel)))] [] _ := hH.pick (by simp only [List.mem_cons, List.not_mem_nil, or_false]; rintro _ (rfl | rfl | rfl) <;> simp) (pw_zip (hH.pw [0, 2, 3] rfl (by decide))) (by simp only [List.mem_cons, List.not_mem_nil, or_false]; rintro _ (rfl | rfl | rfl | rfl) <;> first | exact .inl (by assumption) | exact .inr (by simp)) (fun t h => by cases h) .nil
  exact ⟨_, (.tup [(e_R26_Lines (v14 : R26_Lines)), (eB true)]), (ares_2 (ares_cell hH 1 rfl rfl rfl) rfl), (wk_tup (.cons wr (.cons wr .nil))), rfl, fun i => [id11].getD i 0, by intro i hi; match i, hi with | 0, _ => exact n12 | k + 1, hi => exact absurd hi (by simp), hF⟩
 ·refine sr rfl ?_
  refine l_ H7 eB rfl (o_ar tk rfl rfl rfl) fun v17 H16 => ?_
  refine ma tk (eB v17) rfl rfl (wpo_nil ?_)
  refine awp_if H16 rfl (fun H18 => ?_) (fun H18 => ?_)
  ·refine sr rfl (m_ (e_R26_Lines x1) rfl (o_ld tk rfl rfl) (mc tk (.fptr (c_L26_Op x2) 2) rfl rfl (fun _ => rfl) (m_ (eI x2.I) rfl (o_ld tk rfl rfl) ?_)))
   refine b_ H18 (fun r => .tup [e_R26_Lines r.1, e_api_Msg r.2.1, eI r.2.2]) rfl (fun v20 hv => OpP.of_call rfl rfl (.cons wr (.cons wr .nil)) (R26_Take_ok hv)) fun v20 hv20 H19 => ?_
   refine mm tk (.tup [(e_R26_Lines v20.1), (e_api_Msg v20.2.1), (eI v20.2.2)]) rfl rfl (m_ (e_R26_Lines v20.1) rfl (o_ext tk rfl rfl) (m_ (e_api_Msg v20.2.1) rfl (o_ext tk rfl rfl) (m_ (eI v20.2.2) rfl (o_ext tk rfl rfl) ?_)))
   refine wpo_a (av := fun id => .ref id 0) rfl rfl rfl (h_alloc tk hH ty30 [AV.nils, AV.nils, (eI z_R26_Lines.Lost)] rfl) fun id21 τ ⟨hH, n22⟩ => ?_
   refine wpo_a (av := fun id => .ref id 0) rfl rfl rfl (h_allocw tk hH ty44 (c_api_Msg z_api_Msg) (.cons wr (.cons wr (.cons wr (.cons wr (.cons wr (.cons wr (.cons wr (.cons wr (.cons wr (.cons (by exact wk_nils _) (.cons wr .nil)))))))))))) fun id23 τ ⟨hH, n24⟩ => ?_
   refine wpo_z rfl rfl (h_st tk hH 1 rfl ty30 (by simp) rfl rfl wr (b := (e_R26_Lines v20.1)) (enc30.flat _) rfl (nb rfl) (c_R26_Lines (v20.1 : R26_Lines)) rfl) fun τ hH => ?_
   obtain ⟨c27, hc28, H26⟩ := lt_ex H19
   refine wpo_z rfl rfl (h_st tk hH 0 rfl ty44 (by simp) rfl rfl wr (b := (e_api_Msg v20.2.1)) (enc44.flat _) rfl (nb rfl) (c_api_Msg c27) (by rw [← hc28]; rfl)) fun τ hH => ?_
   refine ma tk (eI v20.2.2) rfl rfl (wpo_nil (sr rfl (mm tk (.ref p0 0) rfl rfl (mc tk (.fptr (c_L26_Op x2) 2) rfl rfl (fun _ => rfl) (m_ (eI x2.I) rfl (o_ld tk rfl rfl) ?_)))))
   refine wpo_cb H26 (fun x _ => .tup [e_api_Msg x.1, eErr x.2.1]) rfl rfl rfl (fun v30 hv => h_callg hH (fun i => [(4, (p0, [(gC (i + 0) 2 c_p0_l (v30.2.2.l).length), (eI v30.2.2.lost)])), (3, (id1, []))]) (fun _ => ⟨⟨_, rfl⟩, ⟨⟨_, rfl⟩, trivial⟩⟩) rfl rfl (.cons wr (.cons wr .nil)) (lines_Lines_Take_ok hv _ (hH.at_ 4 rfl) (hH.at_ 3 rfl) (hH.pw [4, 3] rfl (by decide)) hle_p0_l)) fun v30 id32 τ hv30 H29 ⟨hH, n33⟩ => ?_
   have hH : Holds σ [(id32, (gK e_lines_parcel c_p0_l v30.2.2.l)), (id23, (c_api_Msg c27)), (id21, (c_R26_Lines (v20.1 : R26_Lines))), (id3, [AV.nils, AV.nils, (eI z_R26_Lines.Lost)]), (id1, (cL e_lines_parcel ([] : List lines_parcel))), (p0, [(gC id32 2 c_p0_l (v30.2.2.l).length), (eI v30.2.2.lost)]), (p0_l, (cL e_lines_parcel ([] : List lines_parcel)))] [] _ := hH
   have hH := hH.dropAt 4 rfl n2
   have hH : Holds σ [(id32, (gK e_lines_parcel c_p0_l v30.2.2.l)), (id23, (c_api_Msg c27)), (id21, (c_R26_Lines (v20.1 : R26_Lines))), (id3, [AV.nils, AV.nils, (eI z_R26_Lines.Lost)]), (p0, [(gC id32 2 c_p0_l (v30.2.2.l).length), (eI v30.2.2.lost)]), (p0_l, (cL e_lines_parcel ([] : List lines_parcel)))] [] _ := hH
   refine mm tk (.tup [(e_api_Msg v30.1), (eErr v30.2.1)]) rfl rfl (m_ (e_api_Msg v30.1) rfl (o_ext tk rfl rfl) (m_ (eErr v30.2.1) rfl (o_ext tk rfl rfl) ?_))
   refine wpo_a (av := fun id => .ref id 0) rfl rfl rfl (h_allocw tk hH ty44 (c_api_Msg z_api_Msg) (.cons wr (.cons wr (.cons wr (.cons wr (.cons wr (.cons wr (.cons wr (.cons wr (.cons wr (.cons (by exact wk_nils _) (.cons wr .nil)))))))))))) fun id34 τ ⟨hH, n35⟩ => ?_
   obtain ⟨c37, hc38, H36⟩ := lt_ex H29
   refine wpo_z rfl rfl (h_st tk hH 0 rfl ty44 (by simp) rfl rfl wr (b := (e_api_Msg v30.1)) (enc44.flat _) rfl (nb rfl) (c_api_Msg c37) (by rw [← hc38]; rfl)) fun τ hH => ?_
   refine ma tk (eErr v30.2.1) rfl rfl (wpo_nil (awp_seq ?_))
   refine awp_drawS mixed [10] rfl (by decide +kernel) rfl rfl ?_
   refine wpdS_rd (a := (e_R26_Lines (v20.1 : R26_Lines))) rfl (by decide +kernel) rfl rfl (h_ld tk hH 3 rfl rfl rfl) (wpdS_rd (a := (e_api_Msg c27)) rfl (by decide +kernel) rfl rfl (h_ld tk hH 2 rfl rfl rfl) (wpdS_rd (a := (e_api_Msg c37)) rfl (by decide +kernel) rfl rfl (h_ld tk hH 0 rfl rfl rfl) ?_))
   refine wpdS_bd H36 eB rfl rfl rfl (fun v40 hv => OpP.of_call rfl rfl (.cons wr (.cons wr .nil)) (R23_Same_ok hv)) fun v40 hv40 H39 => ?_
   refine wpdS_mv (a := (eB v40)) rfl rfl rfl (o_mv tk rfl (Wk.refl _)) ?_
   refine if_split H39 (fun hb H41 => ?_) (fun hb H41 => ?_)
   ·subst hb
    refine wpdS_mv (a := (eErr v30.2.1)) rfl rfl rfl (o_mv tk rfl (Wk.refl _)) ?_
    refine wpdS_bdr H41 eI rfl (by decide +kernel) rfl rfl (fun v43 hv => h_callr rfl rfl (.cons wr .nil) (trouble_Of_ok hv _ (hH.gl.trans hg))) fun v43 hv43 H42 => ?_
    refine wpdS_mv (a := (eI v20.2.2)) rfl rfl rfl (o_mv tk rfl (Wk.refl _)) ?_
    refine wpdS_lt H42 eB rfl rfl rfl (o_ar tk rfl rfl rfl) fun v45 H44 => ?_
    refine wpdS_mv (a := (eB v45)) rfl rfl rfl (o_pick_t tk rfl rfl (Wk.refl _)) ?_
    refine wpdS_z rfl rfl rfl (h_st tk hH 4 rfl ty30 (by simp) rfl rfl wr (b := (e_R26_Lines (v20.1 : R26_Lines))) (enc30.flat _) rfl (nb rfl) (c_R26_Lines ((v20.1 : R26_Lines) : R26_Lines)) rfl) fun τ hH => ?_
    refine wpdS_mv (a := (eB v45)) rfl rfl rfl (o_as tk rfl (Wk.refl _)) (wpdS_nil (awp_ret ?_))
    obtain rfl := oi H44
    have hH : Holds σ [(id34, (c_api_Msg c37)), (id32, (gK e_lines_parcel c_p0_l v30.2.2.l)), (id23, (c_api_Msg c27)), (id21, (c_R26_Lines (v20.1 : R26_Lines))), (id3, (c_R26_Lines ((v20.1 : R26_Lines) : R26_Lines))), (p0, [(gC id32 2 c_p0_l (v30.2.2.l).length), (eI v30.2.2.lost)]), (p0_l, (cL e_lines_parcel ([] : List lines_parcel)))] [] _ := hH
    have hF : Holds σ [(id32, (gK e_lines_parcel c_p0_l v30.2.2.l)), (p0, [(gC id32 2 c_p0_l (v30.2.2.l).length), (eI v30.2.2.lost)]), (p0_l, (cL e_lines_parcel ([] : List lines_parcel)))] [] _ := hH.pick (by simp only [List.mem_cons, List.not_mem_nil, or_false]; rintro _ (rfl | rfl | rfl) <;> simp) (pw_zip (hH.pw [1, 5, 6] rfl (by decide))) (by simp only [List.mem_cons, List.not_mem_nil, or_false]; rintro _ (rfl | rfl | rfl | rfl | rfl | rfl | rfl) <;> first | exact .inl (by assumption) | exact .inr (by simp)) (fun t h => by cases h) .nil
    exact ⟨_, (.tup [(e_R26_Lines ((v20.1 : R26_Lines) : R26_Lines)), (eB v45)]), (ares_2 (ares_cell hH 4 rfl rfl rfl) rfl), (wk_tup (.cons wr (.cons wr .nil))), rfl, fun i => [id32].getD i 0, by intro i hi; match i, hi with | 0, _ => exact n33 | k + 1, hi => exact absurd hi (by simp), hF⟩
   ·subst hb
    refine wpdS_skip rfl rfl rfl (wpdS_skip rfl rfl rfl (wpdS_skip rfl rfl rfl (wpdS_skip rfl rfl rfl (wpdS_mv (a := (eB false)) rfl rfl rfl (o_pick_f tk rfl rfl (Wk.refl _)) ?_))))
    refine wpdS_z rfl rfl rfl (h_st tk hH 4 rfl ty30 (by simp) rfl rfl wr (b := (e_R26_Lines (v20.1 : R26_Lines))) (enc30.flat _) rfl (nb rfl) (c_R26_Lines ((v20.1 : R26_Lines) : R26_Lines)) rfl) fun τ hH => ?_
    refine wpdS_mv (a := (eB false)) rfl rfl rfl (o_as tk rfl (Wk.refl _)) (wpdS_nil (awp_ret ?_))
    obtain rfl := oi H41
    have hH : Holds σ [(id34, (c_api_Msg c37)), (id32, (gK e_lines_parcel c_p0_l v30.2.2.l)), (id23, (c_api_Msg c27)), (id21, (c_R26_Lines (v20.1 : R26_Lines))), (id3, (c_R26_Lines ((v20.1 : R26_Lines) : R26_Lines))), (p0, [(gC id32 2 c_p0_l (v30.2.2.l).length), (eI v30.2.2.lost)]), (p0_l, (cL e_lines_parcel ([] : List lines_parcel)))] [] _ := hH
    have hF : Holds σ [(id32, (gK e_lines_parcel c_p0_l v30.2.2.l)), (p0, [(gC id32 2 c_p0_l (v30.2.2.l).length), (eI v30.2.2.lost)]), (p0_l, (cL e_lines_parcel ([] : List lines_parcel)))] [] _ := hH.pick (by simp only [List.mem_cons, List.not_mem_nil, or_false]; rintro _ (rfl | rfl | rfl) <;> simp) (pw_zip (hH.pw [1, 5, 6] rfl (by decide))) (by simp only [List.mem_cons, List.not_mem_nil, or_false]; rintro _ (rfl | rfl | rfl | rfl | rfl | rfl | rfl) <;> first | exact .inl (by assumption) | exact .inr (by simp)) (fun t h => by cases h) .nil
    exact ⟨_, (.tup [(e_R26_Lines ((v20.1 : R26_Lines) : R26_Lines)), (eB false)]), (ares_2 (ares_cell hH 4 rfl rfl rfl) rfl), (wk_tup (.cons wr (.cons wr .nil))), rfl, fun i => [id32].getD i 0, by intro i hi; match i, hi with | 0, _ => exact n33 | k + 1, hi => exact absurd hi (by simp), hF⟩
  ·refine sr rfl ?_
   refine l_ H18 eB rfl (o_ar tk rfl rfl rfl) fun v49 H48 => ?_
   refine ma tk (eB v49) rfl rfl (wpo_nil ?_)
   refine awp_if H48 rfl (fun H50 => ?_) (fun H50 => ?_)
   ·refine sr rfl (m_ (e_R26_Lines x1) rfl (o_ld tk rfl rfl) (mc tk (.fptr (c_L26_Op x2) 2) rfl rfl (fun _ => rfl) (m_ (eI x2.I) rfl (o_ld tk rfl rfl) ?_)))
    refine b_ H50 (fun r => .tup [e_R26_Lines r.1, eI r.2]) rfl (fun v52 hv => OpP.of_call rfl rfl (.cons wr (.cons wr .nil)) (R26_Drop_ok hv)) fun v52 hv52 H51 => ?_
    refine mm tk (.tup [(e_R26_Lines v52.1), (eI v52.2)]) rfl rfl (m_ (e_R26_Lines v52.1) rfl (o_ext tk rfl rfl) (m_ (eI v52.2) rfl (o_ext tk rfl rfl) ?_))
    refine wpo_a (av := fun id => .ref id 0) rfl rfl rfl (h_alloc tk hH ty30 [AV.nils, AV.nils, (eI z_R26_Lines.Lost)] rfl) fun id53 τ ⟨hH, n54⟩ => ?_
    refine wpo_z rfl rfl (h_st tk hH 0 rfl ty30 (by simp) rfl rfl wr (b := (e_R26_Lines v52.1)) (enc30.flat _) rfl (nb rfl) (c_R26_Lines (v52.1 : R26_Lines)) rfl) fun τ hH => ?_
    refine ma tk (eI v52.2) rfl rfl (wpo_nil (awp_seq ?_))
    refine awp_drawR mixed [4, 8] rfl (by decide +kernel) rfl rfl (fun σ => σ.objs[id53]? = some (c_R26_Lines (v52.1 : R26_Lines))) 1 (hH.at_ 0 rfl) ?_
    refine wpdR_rdp (a := (e_R26_Lines (v52.1 : R26_Lines))) rfl (by decide +kernel) rfl rfl (fun σ hF => (h_ld tk (Holds.one hF) 0 rfl rfl rfl)) ?_
    refine wpdR_mv (a := (.ref p0 0)) rfl rfl rfl (o_mv tk rfl (Wk.refl _)) ?_
    refine wpdR_mv (a := (.fptr (c_L26_Op x2) 2)) rfl rfl rfl (o_c tk false rfl (fun _ => rfl)) ?_
    refine wpdR_mv (a := (eI x2.I)) rfl rfl rfl (o_ld tk rfl rfl) ?_
    refine wpdR_cb H51 (fun x _ => eErr x.1) rfl rfl rfl (fun v57 hv => h_callg hH (fun i => [(3, (p0, [(gC (i + 0) 2 c_p0_l (v57.2.l).length), (eI v57.2.lost)])), (2, (id1, []))]) (fun _ => ⟨⟨_, rfl⟩, ⟨⟨_, rfl⟩, trivial⟩⟩) rfl rfl (.cons wr (.cons wr .nil)) (lines_Lines_Drop_ok hv _ (hH.at_ 3 rfl) (hH.at_ 2 rfl) (hH.pw [3, 2] rfl (by decide)) hle_p0_l)) fun v57 id59 τ hv57 H56 ⟨hH, n60⟩ => ?_
    have hH : Holds σ [(id59, (gK e_lines_parcel c_p0_l v57.2.l)), (id53, (c_R26_Lines (v52.1 : R26_Lines))), (id3, [AV.nils, AV.nils, (eI z_R26_Lines.Lost)]), (id1, (cL e_lines_parcel ([] : List lines_parcel))), (p0, [(gC id59 2 c_p0_l (v57.2.l).length), (eI v57.2.lost)]), (p0_l, (cL e_lines_parcel ([] : List lines_parcel)))] [] _ := hH
    have hH := hH.dropAt 3 rfl n2
    have hH : Holds σ [(id59, (gK e_lines_parcel c_p0_l v57.2.l)), (id53, (c_R26_Lines (v52.1 : R26_Lines))), (id3, [AV.nils, AV.nils, (eI z_R26_Lines.Lost)]), (p0, [(gC id59 2 c_p0_l (v57.2.l).length), (eI v57.2.lost)]), (p0_l, (cL e_lines_parcel ([] : List lines_parcel)))] [] _ := hH
    refine ⟨fun _ => (hH.at_ 1 rfl), ?_⟩
    refine wpdR_bdr H56 eI rfl (by decide +kernel) rfl rfl (fun v62 hv => h_callr rfl rfl (.cons wr .nil) (trouble_Of_ok hv _ (hH.gl.trans hg))) fun v62 hv62 H61 => ?_
    refine wpdR_mv (a := (eI v52.2)) rfl rfl rfl (o_mv tk rfl (Wk.refl _)) ?_
    refine wpdR_lt H61 eB rfl rfl rfl (o_ar tk rfl rfl rfl) fun v64 H63 => ?_
    refine wpdR_z rfl rfl rfl (h_st tk hH 2 rfl ty30 (by simp) rfl rfl wr (b := (e_R26_Lines (v52.1 : R26_Lines))) (enc30.flat _) rfl (nb rfl) (c_R26_Lines ((v52.1 : R26_Lines) : R26_Lines)) rfl) fun τ hH => ⟨fun h => absurd h (by decide +kernel), ?_⟩
    refine wpdR_mv (a := (eB v64)) rfl rfl rfl (o_as tk rfl (Wk.refl _)) ?_
    refine wpdR_nil ?_
    refine awp_ret ?_
    obtain rfl := oi H63
    have hH : Holds σ [(id59, (gK e_lines_parcel c_p0_l v57.2.l)), (id53, (c_R26_Lines (v52.1 : R26_Lines))), (id3, (c_R26_Lines ((v52.1 : R26_Lines) : R26_Lines))), (p0, [(gC id59 2 c_p0_l (v57.2.l).length), (eI v57.2.lost)]), (p0_l, (cL e_lines_parcel ([] : List lines_parcel)))] [] _ := hH
    have hF : Holds σ [(id59, (gK e_lines_parcel c_p0_l v57.2.l)), (p0, [(gC id59 2 c_p0_l (v57.2.l).length), (eI v57.2.lost)]), (p0_l, (cL e_lines_parcel ([] : List lines_parcel)))] [] _ := hH.pick (by simp only [List.mem_cons, List.not_mem_nil, or_false]; rintro _ (rfl | rfl | rfl) <;> simp) (pw_zip (hH.pw [0, 3, 4] rfl (by decide))) (by simp only [List.mem_cons, List.not_mem_nil, or_false]; rintro _ (rfl | rfl | rfl | rfl | rfl) <;> first | exact .inl (by assumption) | exact .inr (by simp)) (fun t h => by cases h) .nil
    exact ⟨_, (.tup [(e_R26_Lines ((v52.1 : R26_Lines) : R26_Lines)), (eB v64)]), (ares_2 (ares_cell hH 2 rfl rfl rfl) rfl), (wk_tup (.cons wr (.cons wr .nil))), rfl, fun i => [id59].getD i 0, by intro i hi; match i, hi with | 0, _ => exact n60 | k + 1, hi => exact absurd hi (by simp), hF⟩
   ·refine sr rfl ?_
    refine l_ H50 eB rfl (o_ar tk rfl rfl rfl) fun v67 H66 => ?_
    refine ma tk (eB v67) rfl rfl (wpo_nil ?_)
    refine awp_if H66 rfl (fun H68 => ?_) (fun H68 => ?_)
    ·refine sr rfl (m_ (e_R26_Lines x1) rfl (o_ld tk rfl rfl) (mc tk (.fptr (c_L26_Op x2) 2) rfl rfl (fun _ => rfl) (m_ (eI x2.I) rfl (o_ld tk rfl rfl) ?_)))
     refine b_ H68 (fun r => .tup [e_R26_Lines r.1, eI r.2]) rfl (fun v70 hv => OpP.of_call rfl rfl (.cons wr (.cons wr .nil)) (R26_Twice_ok hv)) fun v70 hv70 H69 => ?_
     refine mm tk (.tup [(e_R26_Lines v70.1), (eI v70.2)]) rfl rfl (m_ (e_R26_Lines v70.1) rfl (o_ext tk rfl rfl) (m_ (eI v70.2) rfl (o_ext tk rfl rfl) ?_))
     refine wpo_a (av := fun id => .ref id 0) rfl rfl rfl (h_alloc tk hH ty30 [AV.nils, AV.nils, (eI z_R26_Lines.Lost)] rfl) fun id71 τ ⟨hH, n72⟩ => ?_
     refine wpo_z rfl rfl (h_st tk hH 0 rfl ty30 (by simp) rfl rfl wr (b := (e_R26_Lines v70.1)) (enc30.flat _) rfl (nb rfl) (c_R26_Lines (v70.1 : R26_Lines)) rfl) fun τ hH => ?_
     refine ma tk (eI v70.2) rfl rfl (wpo_nil (awp_seq ?_))
     refine awp_drawR mixed [4, 8] rfl (by decide +kernel) rfl rfl (fun σ => σ.objs[id71]? = some (c_R26_Lines (v70.1 : R26_Lines))) 1 (hH.at_ 0 rfl) ?_
     refine wpdR_rdp (a := (e_R26_Lines (v70.1 : R26_Lines))) rfl (by decide +kernel) rfl rfl (fun σ hF => (h_ld tk (Holds.one hF) 0 rfl rfl rfl)) ?_
     refine wpdR_mv (a := (.ref p0 0)) rfl rfl rfl (o_mv tk rfl (Wk.refl _)) ?_
     refine wpdR_mv (a := (.fptr (c_L26_Op x2) 2)) rfl rfl rfl (o_c tk false rfl (fun _ => rfl)) ?_
     refine wpdR_mv (a := (eI x2.I)) rfl rfl rfl (o_ld tk rfl rfl) ?_
     refine wpdR_cb H69 (fun x _ => eErr x.1) rfl rfl rfl (fun v75 hv => h_callg hH (fun i => [(3, (p0, [(gC (i + 0) 2 c_p0_l (v75.2.l).length), (eI v75.2.lost)])), (2, (id1, []))]) (fun _ => ⟨⟨_, rfl⟩, ⟨⟨_, rfl⟩, trivial⟩⟩) rfl rfl (.cons wr (.cons wr .nil)) (lines_Lines_Twice_ok hv _ (hH.at_ 3 rfl) (hH.at_ 2 rfl) (hH.pw [3, 2] rfl (by decide)) (.r hle_p0_l))) fun v75 id77 τ hv75 H74 ⟨hH, n78⟩ => ?_
     have hH : Holds σ [(id77, (gK e_lines_parcel c_p0_l v75.2.l)), (id71, (c_R26_Lines (v70.1 : R26_Lines))), (id3, [AV.nils, AV.nils, (eI z_R26_Lines.Lost)]), (id1, (cL e_lines_parcel ([] : List lines_parcel))), (p0, [(gC id77 2 c_p0_l (v75.2.l).length), (eI v75.2.lost)]), (p0_l, (cL e_lines_parcel ([] : List lines_parcel)))] [] _ := hH
     have hH := hH.dropAt 3 rfl n2
     have hH : Holds σ [(id77, (gK e_lines_parcel c_p0_l v75.2.l)), (id71, (c_R26_Lines (v70.1 : R26_Lines))), (id3, [AV.nils, AV.nils, (eI z_R26_Lines.Lost)]), (p0, [(gC id77 2 c_p0_l (v75.2.l).length), (eI v75.2.lost)]), (p0_l, (cL e_lines_parcel ([] : List lines_parcel)))] [] _ := hH
     refine ⟨fun _ => (hH.at_ 1 rfl), ?_⟩
     refine wpdR_bdr H74 eI rfl (by decide +kernel) rfl rfl (fun v80 hv => h_callr rfl rfl (.cons wr .nil) (trouble_Of_ok hv _ (hH.gl.trans hg))) fun v80 hv80 H79 => ?_
     refine wpdR_mv (a := (eI v70.2)) rfl rfl rfl (o_mv tk rfl (Wk.refl _)) ?_
     refine wpdR_lt H79 eB rfl rfl rfl (o_ar tk rfl rfl rfl) fun v82 H81 => ?_
     refine wpdR_z rfl rfl rfl (h_st tk hH 2 rfl ty30 (by simp) rfl rfl wr (b := (e_R26_Lines (v70.1 : R26_Lines))) (enc30.flat _) rfl (nb rfl) (c_R26_Lines ((v70.1 : R26_Lines) : R26_Lines)) rfl) fun τ hH => ⟨fun h => absurd h (by decide +kernel), ?_⟩
     refine wpdR_mv (a := (eB v82)) rfl rfl rfl (o_as tk rfl (Wk.refl _)) ?_
     refine wpdR_nil ?_
     refine awp_ret ?_
     obtain rfl := oi H81
     have hH : Holds σ [(id77, (gK e_lines_parcel c_p0_l v75.2.l)), (id71, (c_R26_Lines (v70.1 : R26_Lines))), (id3, (c_R26_Lines ((v70.1 : R26_Lines) : R26_Lines))), (p0, [(gC id77 2 c_p0_l (v75.2.l).length), (eI v75.2.lost)]), (p0_l, (cL e_lines_parcel ([] : List lines_parcel)))] [] _ := hH
     have hF : Holds σ [(id77, (gK e_lines_parcel c_p0_l v75.2.l)), (p0, [(gC id77 2 c_p0_l (v75.2.l).length), (eI v75.2.lost)]), (p0_l, (cL e_lines_parcel ([] : List lines_parcel)))] [] _ := hH.pick (by simp only [List.mem_cons, List.not_mem_nil, or_false]; rintro _ (rfl | rfl | rfl) <;> simp) (pw_zip (hH.pw [0, 3, 4] rfl (by decide))) (by simp only [List.mem_cons, List.not_mem_nil, or_false]; rintro _ (rfl | rfl | rfl | rfl | rfl) <;> first | exact .inl (by assumption) | exact .inr (by simp)) (fun t h => by cases h) .nil
     exact ⟨_, (.tup [(e_R26_Lines ((v70.1 : R26_Lines) : R26_Lines)), (eB v82)]), (ares_2 (ares_cell hH 2 rfl rfl rfl) rfl), (wk_tup (.cons wr (.cons wr .nil))), rfl, fun i => [id77].getD i 0, by intro i hi; match i, hi with | 0, _ => exact n78 | k + 1, hi => exact absurd hi (by simp), hF⟩
    ·refine sr rfl ?_
     refine l_ H68 eB rfl (o_ar tk rfl rfl rfl) fun v85 H84 => ?_
     refine ma tk (eB v85) rfl rfl (wpo_nil ?_)
     refine awp_if H84 rfl (fun H86 => ?_) (fun H86 => ?_)
     ·refine sr rfl (m_ (e_R26_Lines x1) rfl (o_ld tk rfl rfl) (mc tk (.fptr (c_L26_Op x2) 2) rfl rfl (fun _ => rfl) (m_ (eI x2.I) rfl (o_ld tk rfl rfl) (mc tk (.fptr (c_L26_Op x2) 3) rfl rfl (fun _ => rfl) (m_ (eI x2.At) rfl (o_ld tk rfl rfl) (mc tk (.fptr (c_L26_Op x2) 4) rfl rfl (fun _ => rfl) (m_ ((@eU .u8 8) x2.By) rfl (o_ld tk rfl rfl) ?_)))))))
      refine b_ H86 (fun r => .tup [e_R26_Lines r.1, eI r.2]) rfl (fun v88 hv => OpP.of_call rfl rfl (.cons wr (.cons wr (.cons wr (.cons wr .nil)))) (R26_Spoil_ok hv)) fun v88 hv88 H87 => ?_
      refine mm tk (.tup [(e_R26_Lines v88.1), (eI v88.2)]) rfl rfl (m_ (e_R26_Lines v88.1) rfl (o_ext tk rfl rfl) (m_ (eI v88.2) rfl (o_ext tk rfl rfl) ?_))
      refine wpo_a (av := fun id => .ref id 0) rfl rfl rfl (h_alloc tk hH ty30 [AV.nils, AV.nils, (eI z_R26_Lines.Lost)] rfl) fun id89 τ ⟨hH, n90⟩ => ?_
      refine wpo_z rfl rfl (h_st tk hH 0 rfl ty30 (by simp) rfl rfl wr (b := (e_R26_Lines v88.1)) (enc30.flat _) rfl (nb rfl) (c_R26_Lines (v88.1 : R26_Lines)) rfl) fun τ hH => ?_
      refine ma tk (eI v88.2) rfl rfl (wpo_nil (awp_seq ?_))
      refine awp_drawR mixed [8, 12] rfl (by decide +kernel) rfl rfl (fun σ => σ.objs[id89]? = some (c_R26_Lines (v88.1 : R26_Lines))) 1 (hH.at_ 0 rfl) ?_
      refine wpdR_rdp (a := (e_R26_Lines (v88.1 : R26_Lines))) rfl (by decide +kernel) rfl rfl (fun σ hF => (h_ld tk (Holds.one hF) 0 rfl rfl rfl)) ?_
      refine wpdR_mv (a := (.ref p0 0)) rfl rfl rfl (o_mv tk rfl (Wk.refl _)) ?_
      refine wpdR_mv (a := (.fptr (c_L26_Op x2) 2)) rfl rfl rfl (o_c tk false rfl (fun _ => rfl)) ?_
      refine wpdR_mv (a := (eI x2.I)) rfl rfl rfl (o_ld tk rfl rfl) ?_
      refine wpdR_mv (a := (.fptr (c_L26_Op x2) 3)) rfl rfl rfl (o_c tk false rfl (fun _ => rfl)) ?_
      refine wpdR_mv (a := (eI x2.At)) rfl rfl rfl (o_ld tk rfl rfl) ?_
      refine wpdR_mv (a := (.fptr (c_L26_Op x2) 4)) rfl rfl rfl (o_c tk false rfl (fun _ => rfl)) ?_
      refine wpdR_mv (a := ((@eU .u8 8) x2.By)) rfl rfl rfl (o_ld tk rfl rfl) ?_
      refine wpdR_cb H87 (fun x _ => eErr x.1) rfl rfl rfl (fun v93 hv => h_callg hH (fun i => [(3, (p0, [(gC (i + 0) 2 c_p0_l (v93.2.l).length), (eI v93.2.lost)])), (2, (id1, []))]) (fun _ => ⟨⟨_, rfl⟩, ⟨⟨_, rfl⟩, trivial⟩⟩) rfl rfl (.cons wr (.cons wr (.cons wr (.cons wr .nil)))) (lines_Lines_Spoil_ok hv _ (hH.at_ 3 rfl) (hH.at_ 2 rfl) (hH.pw [3, 2] rfl (by decide)) (.r hle_p0_l))) fun v93 id95 τ hv93 H92 ⟨hH, n96⟩ => ?_
      have hH : Holds σ [(id95, (gK e_lines_parcel c_p0_l v93.2.l)), (id89, (c_R26_Lines (v88.1 : R26_Lines))), (id3, [AV.nils, AV.nils, (eI z_R26_Lines.Lost)]), (id1, (cL e_lines_parcel ([] : List lines_parcel))), (p0, [(gC id95 2 c_p0_l (v93.2.l).length), (eI v93.2.lost)]), (p0_l, (cL e_lines_parcel ([] : List lines_parcel)))] [] _ := hH
      have hH := hH.dropAt 3 rfl n2
      have hH : Holds σ [(id95, (gK e_lines_parcel c_p0_l v93.2.l)), (id89, (c_R26_Lines (v88.1 : R26_Lines))), (id3, [AV.nils, AV.nils, (eI z_R26_Lines.Lost)]), (p0, [(gC id95 2 c_p0_l (v93.2.l).length), (eI v93.2.lost)]), (p0_l, (cL e_lines_parcel ([] : List lines_parcel)))] [] _ := hH
      refine ⟨fun _ => (hH.at_ 1 rfl), ?_⟩
      refine wpdR_bdr H92 eI rfl (by decide +kernel) rfl rfl (fun v98 hv => h_callr rfl rfl (.cons wr .nil) (trouble_Of_ok hv _ (hH.gl.trans hg))) fun v98 hv98 H97 => ?_
      refine wpdR_mv (a := (eI v88.2)) rfl rfl rfl (o_mv tk rfl (Wk.refl _)) ?_
      refine wpdR_lt H97 eB rfl rfl rfl (o_ar tk rfl rfl rfl) fun v100 H99 => ?_
      refine wpdR_z rfl rfl rfl (h_st tk hH 2 rfl ty30 (by simp) rfl rfl wr (b := (e_R26_Lines (v88.1 : R26_Lines))) (enc30.flat _) rfl (nb rfl) (c_R26_Lines ((v88.1 : R26_Lines) : R26_Lines)) rfl) fun τ hH => ⟨fun h => absurd h (by decide +kernel), ?_⟩
      refine wpdR_mv (a := (eB v100)) rfl rfl rfl (o_as tk rfl (Wk.refl _)) ?_
      refine wpdR_nil ?_
      refine awp_ret ?_
      obtain rfl := oi H99
      have hH : Holds σ [(id95, (gK e_lines_parcel c_p0_l v93.2.l)), (id89, (c_R26_Lines (v88.1 : R26_Lines))), (id3, (c_R26_Lines ((v88.1 : R26_Lines) : R26_Lines))), (p0, [(gC id95 2 c_p0_l (v93.2.l).length), (eI v93.2.lost)]), (p0_l, (cL e_lines_parcel ([] : List lines_parcel)))] [] _ := hH
      have hF : Holds σ [(id95, (gK e_lines_parcel c_p0_l v93.2.l)), (p0, [(gC id95 2 c_p0_l (v93.2.l).length), (eI v93.2.lost)]), (p0_l, (cL e_lines_parcel ([] : List lines_parcel)))] [] _ := hH.pick (by simp only [List.mem_cons, List.not_mem_nil, or_false]; rintro _ (rfl | rfl | rfl) <;> simp) (pw_zip (hH.pw [0, 3, 4] rfl (by decide))) (by simp only [List.mem_cons, List.not_mem_nil, or_false]; rintro _ (rfl | rfl | rfl | rfl | rfl) <;> first | exact .inl (by assumption) | exact .inr (by simp)) (fun t h => by cases h) .nil
      exact ⟨_, (.tup [(e_R26_Lines ((v88.1 : R26_Lines) : R26_Lines)), (eB v100)]), (ares_2 (ares_cell hH 2 rfl rfl rfl) rfl), (wk_tup (.cons wr (.cons wr .nil))), rfl, fun i => [id95].getD i 0, by intro i hi; match i, hi with | 0, _ => exact n96 | k + 1, hi => exact absurd hi (by simp), hF⟩
     ·refine awp_skip (sr rfl (m_ (e_R26_Lines x1) rfl (o_ld tk rfl rfl) (mc tk (.fptr (c_L26_Op x2) 2) rfl rfl (fun _ => rfl) (m_ (eI x2.I) rfl (o_ld tk rfl rfl) ?_))))
      refine b_ H86 (fun r => .tup [e_api_Msg r.1, eI r.2]) rfl (fun v103 hv => OpP.of_call rfl rfl (.cons wr (.cons wr .nil)) (R26_Look_ok hv)) fun v103 hv103 H102 => ?_
      refine mm tk (.tup [(e_api_Msg v103.1), (eI v103.2)]) rfl rfl (m_ (e_api_Msg v103.1) rfl (o_ext tk rfl rfl) (m_ (eI v103.2) rfl (o_ext tk rfl rfl) ?_))
      refine wpo_a (av := fun id => .ref id 0) rfl rfl rfl (h_allocw tk hH ty44 (c_api_Msg z_api_Msg) (.cons wr (.cons wr (.cons wr (.cons wr (.cons wr (.cons wr (.cons wr (.cons wr (.cons wr (.cons (by exact wk_nils _) (.cons wr .nil)))))))))))) fun id104 τ ⟨hH, n105⟩ => ?_
      obtain ⟨c107, hc108, H106⟩ := lt_ex H102
      refine wpo_z rfl rfl (h_st tk hH 0 rfl ty44 (by simp) rfl rfl wr (b := (e_api_Msg v103.1)) (enc44.flat _) rfl (nb rfl) (c_api_Msg c107) (by rw [← hc108]; rfl)) fun τ hH => ?_
      refine ma tk (eI v103.2) rfl rfl (wpo_nil (sr rfl (mm tk (.ref p0 0) rfl rfl (mc tk (.fptr (c_L26_Op x2) 2) rfl rfl (fun _ => rfl) (m_ (eI x2.I) rfl (o_ld tk rfl rfl) ?_)))))
      refine wpo_bdr H106 (fun r => .tup [e_api_Msg r.1, eErr r.2]) rfl rfl rfl (fun v110 hv => h_callr rfl rfl (.cons wr (.cons wr .nil)) (lines_Lines_Look_ok hv _ (hH.at_ 3 rfl) (hH.at_ 2 rfl) (hH.pw [3, 2] rfl (by decide)) (.r hle_p0_l))) fun v110 hv110 H109 => ?_
      refine mm tk (.tup [(e_api_Msg v110.1), (eErr v110.2)]) rfl rfl (m_ (e_api_Msg v110.1) rfl (o_ext tk rfl rfl) (m_ (eErr v110.2) rfl (o_ext tk rfl rfl) ?_))
      refine wpo_a (av := fun id => .ref id 0) rfl rfl rfl (h_allocw tk hH ty44 (c_api_Msg z_api_Msg) (.cons wr (.cons wr (.cons wr (.cons wr (.cons wr (.cons wr (.cons wr (.cons wr (.cons wr (.cons (by exact wk_nils _) (.cons wr .nil)))))))))))) fun id111 τ ⟨hH, n112⟩ => ?_
      obtain ⟨c114, hc115, H113⟩ := lt_ex H109
      refine wpo_z rfl rfl (h_st tk hH 0 rfl ty44 (by simp) rfl rfl wr (b := (e_api_Msg v110.1)) (enc44.flat _) rfl (nb rfl) (c_api_Msg c114) (by rw [← hc115]; rfl)) fun τ hH => ?_
      refine ma tk (eErr v110.2) rfl rfl (wpo_nil (awp_seq ?_))
      refine awp_drawS mixed [10] rfl (by decide +kernel) rfl rfl ?_
      refine wpdS_mv (a := (e_R26_Lines x1)) rfl rfl rfl (o_ld tk rfl rfl) (wpdS_rd (a := (e_api_Msg c107)) rfl (by decide +kernel) rfl rfl (h_ld tk hH 1 rfl rfl rfl) (wpdS_rd (a := (e_api_Msg c114)) rfl (by decide +kernel) rfl rfl (h_ld tk hH 0 rfl rfl rfl) ?_))
      refine wpdS_bd H113 eB rfl rfl rfl (fun v117 hv => OpP.of_call rfl rfl (.cons wr (.cons wr .nil)) (R23_Same_ok hv)) fun v117 hv117 H116 => ?_
      refine wpdS_mv (a := (eB v117)) rfl rfl rfl (o_mv tk rfl (Wk.refl _)) ?_
      refine if_split H116 (fun hb H118 => ?_) (fun hb H118 => ?_)
      ·subst hb
       refine wpdS_mv (a := (eErr v110.2)) rfl rfl rfl (o_mv tk rfl (Wk.refl _)) ?_
       refine wpdS_bdr H118 eI rfl (by decide +kernel) rfl rfl (fun v120 hv => h_callr rfl rfl (.cons wr .nil) (trouble_Of_ok hv _ (hH.gl.trans hg))) fun v120 hv120 H119 => ?_
       refine wpdS_mv (a := (eI v103.2)) rfl rfl rfl (o_mv tk rfl (Wk.refl _)) ?_
       refine wpdS_lt H119 eB rfl rfl rfl (o_ar tk rfl rfl rfl) fun v122 H121 => ?_
       refine wpdS_mv (a := (eB v122)) rfl rfl rfl (o_pick_t tk rfl rfl (Wk.refl _)) ?_
       refine wpdS_z rfl rfl rfl (h_st tk hH 2 rfl ty30 (by simp) rfl rfl wr (b := (e_R26_Lines x1)) (enc30.flat _) rfl (nb rfl) (c_R26_Lines (x1 : R26_Lines)) rfl) fun τ hH => ?_
       refine wpdS_mv (a := (eB v122)) rfl rfl rfl (o_as tk rfl (Wk.refl _)) (wpdS_nil ?_)
       refine AWP.wko hH 4 rfl (c1 := [(gC id1 2 c_p0_l (x0.l).length), (eI x0.lost)]) (.cons (GG.wk (.r hle_p0_l)) (.cons wr .nil)) fun τ (hH : Holds σ [(id111, (c_api_Msg c114)), (id104, (c_api_Msg c107)), (id3, (c_R26_Lines (x1 : R26_Lines))), (id1, (gK e_lines_parcel c_p0_l x0.l)), (p0, [(gC id1 2 c_p0_l (x0.l).length), (eI x0.lost)]), (p0_l, (cL e_lines_parcel ([] : List lines_parcel)))] [] τ) => ?_
       refine awp_ret ?_
       obtain rfl := oi H121
       have hH : Holds σ [(id111, (c_api_Msg c114)), (id104, (c_api_Msg c107)), (id3, (c_R26_Lines (x1 : R26_Lines))), (id1, (gK e_lines_parcel c_p0_l x0.l)), (p0, [(gC id1 2 c_p0_l (x0.l).length), (eI x0.lost)]), (p0_l, (cL e_lines_parcel ([] : List lines_parcel)))] [] _ := hH
       have hF : Holds σ [(id1, (gK e_lines_parcel c_p0_l x0.l)), (p0, [(gC id1 2 c_p0_l (x0.l).length), (eI x0.lost)]), (p0_l, (cL e_lines_parcel ([] : List lines_parcel)))] [] _ := hH.pick (by simp only [List.mem_cons, List.not_mem_nil, or_false]; rintro _ (rfl | rfl | rfl) <;> simp) (pw_zip (hH.pw [3, 4, 5] rfl (by decide))) (by simp only [List.mem_cons, List.not_mem_nil, or_false]; rintro _ (rfl | rfl | rfl | rfl | rfl | rfl) <;> first | exact .inl (by assumption) | exact .inr (by simp)) (fun t h => by cases h) .nil
       exact ⟨_, (.tup [(e_R26_Lines (x1 : R26_Lines)), (eB v122)]), (ares_2 (ares_cell hH 2 rfl rfl rfl) rfl), (wk_tup (.cons wr (.cons wr .nil))), rfl, fun i => [id1].getD i 0, by intro i hi; match i, hi with | 0, _ => exact n2 | k + 1, hi => exact absurd hi (by simp), hF⟩
      ·subst hb
       refine wpdS_skip rfl rfl rfl (wpdS_skip rfl rfl rfl (wpdS_skip rfl rfl rfl (wpdS_skip rfl rfl rfl (wpdS_mv (a := (eB false)) rfl rfl rfl (o_pick_f tk rfl rfl (Wk.refl _)) ?_))))
       refine wpdS_z rfl rfl rfl (h_st tk hH 2 rfl ty30 (by simp) rfl rfl wr (b := (e_R26_Lines x1)) (enc30.flat _) rfl (nb rfl) (c_R26_Lines (x1 : R26_Lines)) rfl) fun τ hH => ?_
       refine wpdS_mv (a := (eB false)) rfl rfl rfl (o_as tk rfl (Wk.refl _)) (wpdS_nil ?_)
       refine AWP.wko hH 4 rfl (c1 := [(gC id1 2 c_p0_l (x0.l).length), (eI x0.lost)]) (.cons (GG.wk (.r hle_p0_l)) (.cons wr .nil)) fun τ (hH : Holds σ [(id111, (c_api_Msg c114)), (id104, (c_api_Msg c107)), (id3, (c_R26_Lines (x1 : R26_Lines))), (id1, (gK e_lines_parcel c_p0_l x0.l)), (p0, [(gC id1 2 c_p0_l (x0.l).length), (eI x0.lost)]), (p0_l, (cL e_lines_parcel ([] : List lines_parcel)))] [] τ) => ?_
       refine awp_ret ?_
       obtain rfl := oi H118
       have hH : Holds σ [(id111, (c_api_Msg c114)), (id104, (c_api_Msg c107)), (id3, (c_R26_Lines (x1 : R26_Lines))), (id1, (gK e_lines_parcel c_p0_l x0.l)), (p0, [(gC id1 2 c_p0_l (x0.l).length), (eI x0.lost)]), (p0_l, (cL e_lines_parcel ([] : List lines_parcel)))] [] _ := hH
       have hF : Holds σ [(id1, (gK e_lines_parcel c_p0_l x0.l)), (p0, [(gC id1 2 c_p0_l (x0.l).length), (eI x0.lost)]), (p0_l, (cL e_lines_parcel ([] : List lines_parcel)))] [] _ := hH.pick (by simp only [List.mem_cons, List.not_mem_nil, or_false]; rintro _ (rfl | rfl | rfl) <;> simp) (pw_zip (hH.pw [3, 4, 5] rfl (by decide))) (by simp only [List.mem_cons, List.not_mem_nil, or_false]; rintro _ (rfl | rfl | rfl | rfl | rfl | rfl) <;> first | exact .inl (by assumption) | exact .inr (by simp)) (fun t h => by cases h) .nil
       exact ⟨_, (.tup [(e_R26_Lines (x1 : R26_Lines)), (eB false)]), (ares_2 (ares_cell hH 2 rfl rfl rfl) rfl), (wk_tup (.cons wr (.cons wr .nil))), rfl, fun i => [id1].getD i 0, by intro i hi; match i, hi with | 0, _ => exact n2 | k + 1, hi => exact absurd hi (by simp), hF⟩
theorem L26_LinesDoes_ok {x0 : List L26_Op} {r : Bool} (H : L26_LinesDoes x0 = some r) (σ : St)  (hg : σ.gl = gls) : ACall Tryz.prog 3 [((eL 5 e_L26_Op) x0)] σ (fun a τ => a = eB r ∧ τ = σ) := by
 unfold L26_LinesDoes at H
 refine ACall.pure (acall_start tk Tryz.func3 (by decide) rfl (nb rfl) ?_)
 have hH := Holds.init σ
 refine sr rfl (ma tk (eB false) rfl rfl (wpo_nil (awp_seq (sr rfl (mm tk ((eL 5 e_L26_Op) x0) rfl rfl ?_)))))
 refine b_ H eB rfl (fun v2 hv => OpP.of_call rfl rfl (.cons wr .nil) (L26_light_ok hv)) fun v2 hv2 H1 => ?_
 refine l_ H1 eB rfl (o_un tk rfl rfl) fun v4 H3 => ?_
 refine wpo_nil ?_
 refine awp_if H3 rfl (fun H5 => ?_) (fun H5 => ?_)
 ·refine sr rfl ?_
  refine wpo_bdr H5 eB rfl rfl rfl (fun v7 hv => h_callr rfl rfl .nil (L26_works_ok hv _ (hH.gl.trans hg))) fun v7 hv7 H6 => ?_
  refine ma tk (eB v7) rfl rfl (wpo_nil (awp_ret ?_))
  obtain rfl := oi H6
  exact ⟨_, (eB v7), rfl, wr, .of_eq ((enc_b td4 sz4).cut _ _ _), hH.noT⟩
 ·refine awp_skip (sr rfl ?_)
  refine wpo_cb H5 (fun _ id => .ref id 0) rfl rfl rfl (fun v9 hv => h_calln1 (B := (fun f c => [[(gC (f 1) 2 0 (c.l).length), (eI c.lost)], (gK e_lines_parcel 0 c.l)])) hH v9 rfl rfl .nil (lines_New_ok hv _)) fun v9 id10 τ hv9 H8 ⟨hH, n11⟩ => ?_
  obtain ⟨id10_l, h_id10_l⟩ : ∃ x, x = id10 + 1 := ⟨_, rfl⟩
  have hH : Holds σ [(id10, [(gC id10_l 2 0 (v9.l).length), (eI v9.lost)]), (id10_l, (gK e_lines_parcel 0 v9.l))] [] τ := by rw [h_id10_l]; exact hH
  have n11_1 : σ.objs.length ≤ id10_l := by omega
  refine ma tk (.ref id10 0) rfl rfl (wpo_nil (awp_seq (sr rfl (mm tk (.ref id10 0) rfl rfl (mc tk (eB false) rfl rfl (fun _ => rfl) (wpo_nil ?_))))))
  refine awp_false rfl ?_
  refine awp_skip (sr rfl (mc tk (.agg [AV.nils, AV.nils, (eI (⟨([] : List api_Msg), ([] : List Bool), (0 : Int)⟩ : R26_Lines).Lost)]) rfl rfl (fun _ => rfl) ?_))
  refine wpo_a (av := fun id => .ref id 0) rfl rfl rfl (h_alloc tk hH ty30 [AV.nils, AV.nils, (eI z_R26_Lines.Lost)] rfl) fun id12 τ ⟨hH, n13⟩ => ?_
  refine wpo_z rfl rfl (h_st (y := (.agg [AV.nils, AV.nils, (eI (⟨([] : List api_Msg), ([] : List Bool), (0 : Int)⟩ : R26_Lines).Lost)])) tk hH 0 rfl ty30 (by simp) rfl rfl wr (b := (.agg [AV.nils, AV.nils, (eI (⟨([] : List api_Msg), ([] : List Bool), (0 : Int)⟩ : R26_Lines).Lost)])) rfl rfl (nb rfl) [AV.nils, AV.nils, (eI ((⟨([] : List api_Msg), ([] : List Bool), (0 : Int)⟩ : R26_Lines) : R26_Lines).Lost)] rfl) fun τ hH => ?_
  refine wpo_nil (awp_seq (sr rfl (ma tk (eI (0 : Int)) rfl rfl (wpo_nil (awp_block ?_)))))
  refine AWP.wko hH 0 rfl (c1 := (c_R26_Lines ((⟨([] : List api_Msg), ([] : List Bool), (0 : Int)⟩ : R26_Lines) : R26_Lines))) (.cons (wk_nils _) (.cons (wk_nils _) (.cons wr .nil))) fun τ (hH : Holds σ [(id12, (c_R26_Lines ((⟨([] : List api_Msg), ([] : List Bool), (0 : Int)⟩ : R26_Lines) : R26_Lines))), (id10, [(gC id10_l 2 0 (v9.l).length), (eI v9.lost)]), (id10_l, (gK e_lines_parcel 0 v9.l))] [] τ) => ?_
  obtain ⟨o19, hs20, hj21⟩ := ob H8
  refine awp_cutx 0 (fun fr τ => ∃ s26 : (List lines_parcel) × R26_Lines × lines_Lines, o19 = .inl s26 ∧ ∃ id_id10_l c_id10_l, σ.objs.length ≤ id_id10_l ∧ WkF fr (fm []) ∧ Holds σ [(id_id10_l, (gK e_lines_parcel c_id10_l s26.1)), (id12, (c_R26_Lines s26.2.1)), (id10, [(gC id_id10_l 2 c_id10_l (s26.1).length), (eI s26.2.2.lost)])] [] τ) ?_ ?_
  ·rintro fr τ ⟨s26, rfl, id_id10_l, c_id10_l, n_id10_l, hfr, hH⟩
   have H81 := hj21
   simp only [Sum.elim_inl] at H81
   refine AWP.fm [] hfr ?_
   refine sr rfl ?_
   refine wpo_bdr H81 eB rfl rfl rfl (fun v83 hv => h_callr rfl rfl .nil (L26_works_ok hv _ (hH.gl.trans hg))) fun v83 hv83 H82 => ?_
   refine ma tk (eB v83) rfl rfl (wpo_nil (awp_ret ?_))
   obtain rfl := oi H82
   exact ⟨_, (eB v83), rfl, wr, .of_eq ((enc_b td4 sz4).cut _ _ _), (((hH.noT.drop n_id10_l).drop n13).drop n11)⟩
  ·refine awp_loopO (body := fun s => L26_LinesDoes_b0 x0 s.1 s.2.1 s.2.2.1 s.2.2.2) hs20 (fun (s : Int × (List lines_parcel) × R26_Lines × lines_Lines) fr τ => ∃ id_id10_l c_id10_l, σ.objs.length ≤ id_id10_l ∧ WkF fr (fm [(0, ((eL 5 e_L26_Op) x0)), (3, (.ref id10 0)), (4, (.ref id12 0)), (5, (eI s.1))]) ∧ Holds σ [(id_id10_l, (gK e_lines_parcel c_id10_l s.2.1)), (id12, (c_R26_Lines s.2.2.1)), (id10, [(gC id_id10_l 2 c_id10_l (s.2.1).length), (eI s.2.2.2.lost)])] [] τ) ⟨id10_l, 0, n11_1, (wc (wc (wc (wc (wkf_nil _))))), ((show Holds σ [(id12, (c_R26_Lines ((⟨([] : List api_Msg), ([] : List Bool), (0 : Int)⟩ : R26_Lines) : R26_Lines))), (id10, [(gC id10_l 2 0 (v9.l).length), (eI v9.lost)]), (id10_l, (gK e_lines_parcel 0 v9.l))] [] _ from hH).front 2 rfl)⟩ ?_
   rintro ⟨c15, c16, c17, c18⟩ fr τ y22 ⟨id_id10_l, c_id10_l, n_id10_l, hfr, hH⟩ hb24 hy25
   have H27 : L26_LinesDoes_b0 x0 c15 c16 c17 c18 = some y22 := hb24
   unfold L26_LinesDoes_b0 at H27
   refine AWP.fm [(0, ((eL 5 e_L26_Op) x0)), (3, (.ref id10 0)), (4, (.ref id12 0)), (5, (eI c15))] hfr ?_
   have hH : Holds σ [(id_id10_l, (gK e_lines_parcel c_id10_l c16)), (id12, (c_R26_Lines c17)), (id10, [(gC id_id10_l 2 c_id10_l (c16).length), (eI c18.lost)])] [] τ := hH
   refine awp_seq (sr rfl (mm tk (eI c15) rfl rfl (mm tk ((eL 5 e_L26_Op) x0) rfl rfl ?_)))
   refine l_ H27 eI rfl (o_len tk td22 rfl) fun v29 H28 => ?_
   refine l_ H28 eB rfl (o_ar tk rfl rfl rfl) fun v31 H30 => ?_
   refine wpo_nil ?_
   refine awp_if H30 rfl (fun H32 => ?_) (fun H32 => ?_)
   ·refine awp_skip (awp_seq (awp_block (awp_seq ?_)))
    refine AWP.reveal hH 2 0 0 rfl rfl rfl .c rfl (fun kc33 τ (hH : Holds σ [(id_id10_l, (gK e_lines_parcel kc33 c16)), (id12, (c_R26_Lines c17)), (id10, [(gR id_id10_l 2 kc33 (c16).length), (eI c18.lost)])] [] τ) hle34 => ?_) (by decide)
    obtain ⟨v36, hv37, H35⟩ := ob H32
    obtain ⟨v39, hv40, H38⟩ := ob H35
    refine awp_drawU mixed hH 11 [1, 6, 10] [(.p, fun _ => (.ref id10 0)), (.r, fun _ => (e_R26_Lines c17)), (.p, fun _ => ((eL 5 e_L26_Op) x0)), (.p, fun _ => (eI c15)), (.p, fun _ => (.fptr (c_L26_Op v36) 0)), (.p, fun _ => (e_L26_Op v36)), (.t (fun id41 => [(id41, (gK e_lines_parcel kc33 v39.2.2.l)), (id12, (c_R26_Lines c17)), (id10, [(gC id41 2 kc33 (v39.2.2.l).length), (eI v39.2.2.lost)])]), fun _ => (.tup [(e_R26_Lines v39.1), (eB v39.2.1)])), (.p, fun _ => (.tup [(e_R26_Lines v39.1), (eB v39.2.1)])), (.p, fun _ => (e_R26_Lines v39.1)), (.p, fun _ => (eB v39.2.1)), (.a [AV.nils, AV.nils, (eI z_R26_Lines.Lost)], fun id => .ref id 0)] [6, 11] rfl rfl rfl (by decide +kernel) rfl rfl rfl (by decide +kernel) rfl ?_
    refine wpdU_mv rfl rfl (o_mv tk rfl (Wk.refl _)) ?_
    refine wpdU_rd (by decide +kernel) rfl rfl (fun X σ1 hH => (h_ld tk hH 1 rfl rfl rfl)) ?_
    refine wpdU_mv rfl rfl (o_mv tk rfl (Wk.refl _)) ?_
    refine wpdU_mv rfl rfl (o_mv tk rfl (Wk.refl _)) ?_
    refine wpdU_mv rfl rfl (o_ixa tk hv37 td22 enc34 rfl rfl) ?_
    refine wpdU_mv rfl rfl (o_ld_e tk enc34 rfl rfl) ?_
    refine wpdU_g rfl (by decide +kernel) rfl rfl (fun X σ1 hH => g_fix (h_callg hH (fun i => [(2, (id10, [(gC (i + 0) 2 kc33 (v39.2.2.l).length), (eI v39.2.2.lost)])), (0, (id_id10_l, []))]) (fun _ => ⟨⟨_, rfl⟩, ⟨⟨_, rfl⟩, trivial⟩⟩) rfl rfl (.cons wr (.cons wr (.cons wr .nil))) (L26_do_ok hv40 _ (hH.at_ 2 rfl) (hH.at_ 0 rfl) (hH.pw [2, 0] rfl (by decide)) hle34 (hH.gl.trans hg))) (fun b τ h2 => (h2.dropAt 1 rfl n_id10_l))) fun id41 n42 => ?_
    refine wpdU_mv rfl rfl (o_mv tk rfl (Wk.refl _)) ?_
    refine wpdU_mv rfl rfl (o_ext tk rfl rfl) ?_
    refine wpdU_mv rfl rfl (o_ext tk rfl rfl) ?_
    refine wpdU_a rfl rfl (fun σ1 O1 hH => (h_alloc tk hH ty30 [AV.nils, AV.nils, (eI z_R26_Lines.Lost)] rfl)) fun id43 n44 => ?_
    refine wpdU_nil fun τ hH => ?_
    have hH : Holds σ [(id43, [AV.nils, AV.nils, (eI z_R26_Lines.Lost)]), (id41, (gK e_lines_parcel kc33 v39.2.2.l)), (id12, (c_R26_Lines c17)), (id10, [(gC id41 2 kc33 (v39.2.2.l).length), (eI v39.2.2.lost)])] [] τ := hH
    refine wpdS_z rfl rfl rfl (h_st tk hH 0 rfl ty30 (by simp) rfl rfl wr (b := (e_R26_Lines v39.1)) (enc30.flat _) rfl (nb rfl) (c_R26_Lines (v39.1 : R26_Lines)) rfl) fun τ hH => ?_
    refine wpdS_mv (a := (eB v39.2.1)) rfl rfl rfl (o_as tk rfl (Wk.refl _)) (wpdS_nil (sr rfl (wpo_rd (a := (e_R26_Lines (v39.1 : R26_Lines))) rfl rfl rfl (h_ld tk hH 0 rfl rfl rfl) ?_)))
    obtain ⟨c47, hc48, H46⟩ := lt_ex H38
    refine wpo_z rfl rfl (h_st tk hH 2 rfl ty30 (by simp) rfl rfl wr (b := (e_R26_Lines (v39.1 : R26_Lines))) (enc30.flat _) rfl (nb rfl) (c_R26_Lines c47) (by rw [← hc48]; rfl)) fun τ hH => ?_
    refine wpo_nil (awp_seq ?_)
    obtain ⟨s49, hs51, hj52⟩ := ob H46
    refine awp_cutn (fun fr τ => WkF fr (fm [(0, ((eL 5 e_L26_Op) x0)), (3, (.ref id10 0)), (4, (.ref id12 0)), (5, (eI c15)), (57, (eB s49))]) ∧ Holds σ [(id43, (c_R26_Lines (v39.1 : R26_Lines))), (id41, (gK e_lines_parcel kc33 v39.2.2.l)), (id12, (c_R26_Lines c47)), (id10, [(gC id41 2 kc33 (v39.2.2.l).length), (eI v39.2.2.lost)])] [] τ) ?_ ?_
    ·rintro fr τ ⟨hfr, hH⟩
     have H76 := hj52
     refine AWP.fm [(0, ((eL 5 e_L26_Op) x0)), (3, (.ref id10 0)), (4, (.ref id12 0)), (5, (eI c15)), (57, (eB s49))] hfr ?_
     refine awp_if H76 rfl (fun H77 => ?_) (fun H77 => ?_)
     ·refine sr rfl (ma tk (eB false) rfl rfl (wpo_nil (awp_ret ?_)))
      have hz := hy25 _ (inj_inr H77)
      refine ⟨⟨_, inj_inr H77⟩, ?_⟩
      rw [← hz] at hj21
      have H78 := (show some _ = some _ from hj21)
      obtain rfl := oi H78
      exact ⟨_, (eB false), rfl, wr, .of_eq ((enc_b td4 sz4).cut _ _ _), ((((hH.noT.drop n44).drop n42).drop n13).drop n11)⟩
     ·refine awp_skip (awp_region rfl (mm tk (eI c15) rfl rfl ?_))
      refine l_ H77 eI rfl (o_ar tk rfl rfl rfl) fun v80 H79 => ?_
      refine ma tk (eI v80) rfl rfl (wpo_nil ?_)
      exact ⟨(v80, v39.2.2.l, c47, v39.2.2), inj_inl H79, id41, kc33, n42, (wc (wc (wc (wc (wkf_nil _))))), (hH.drop n44)⟩
    ·refine awp_drawS mixed [] rfl (by decide +kernel) rfl rfl ?_
     refine wpdS_mv (a := (eB v39.2.1)) rfl rfl rfl (o_mv tk rfl (Wk.refl _)) ?_
     refine wpdS_lt hs51 eB rfl rfl rfl (o_un tk rfl rfl) fun v54 H53 => ?_
     refine wpdS_mv (a := (eB v54)) rfl rfl rfl (o_mv tk rfl (Wk.refl _)) ?_
     refine if_split H53 (fun hb H55 => ?_) (fun hb H55 => ?_)
     ·subst hb
      refine wpdS_skip rfl rfl rfl (wpdS_skip rfl rfl rfl (wpdS_skip rfl rfl rfl (wpdS_skip rfl rfl rfl (wpdS_skip rfl rfl rfl (wpdS_skip rfl rfl rfl (wpdS_mv (a := (eB true)) rfl rfl rfl (o_pick_t tk rfl rfl (Wk.refl _)) (wpdS_mv (a := (eB true)) rfl rfl rfl (o_mv tk rfl (Wk.refl _)) (wpdS_skip rfl rfl rfl ?_))))))))
      refine wpdS_skip rfl rfl rfl (wpdS_skip rfl rfl rfl (wpdS_skip rfl rfl rfl (wpdS_skip rfl rfl rfl (wpdS_mv (a := (eB true)) rfl rfl rfl (o_pick_t tk rfl rfl (Wk.refl _)) (wpdS_mv (a := (eB true)) rfl rfl rfl (o_mv tk rfl (Wk.refl _)) (wpdS_skip rfl rfl rfl (wpdS_skip rfl rfl rfl (wpdS_skip rfl rfl rfl ?_))))))))
      refine wpdS_skip rfl rfl rfl (wpdS_skip rfl rfl rfl (wpdS_skip rfl rfl rfl (wpdS_mv (a := (eB true)) rfl rfl rfl (o_pick_t tk rfl rfl (Wk.refl _)) (wpdS_nil ?_))))
      have e := oi H55
      subst e
      exact ⟨(wc (wc (wc (wc (wc (wkf_nil _)))))), hH⟩
     ·subst hb
      refine wpdS_mv (a := (.ref id10 0)) rfl rfl rfl (o_mv tk rfl (Wk.refl _)) ?_
      refine wpdS_bdr H55 eI rfl (by decide +kernel) rfl rfl (fun v57 hv => h_callr rfl rfl (.cons wr .nil) (lines_Lines_Len_ok hv _ (hH.at_ 3 rfl) (hH.at_ 1 rfl) (hH.pw [3, 1] rfl (by decide)) .c)) fun v57 hv57 H56 => ?_
      refine wpdS_mv (a := (.ref id12 0)) rfl rfl rfl (o_c tk false rfl (fun _ => rfl)) (wpdS_rd (a := ((eL 11 e_api_Msg) c47.L)) rfl (by decide +kernel) rfl rfl (h_ld tk hH 2 rfl rfl rfl) ?_)
      refine wpdS_lt H56 eI rfl rfl rfl (o_len tk td27 rfl) fun v59 H58 => ?_
      refine wpdS_lt H58 eB rfl rfl rfl (o_ar tk rfl rfl rfl) fun v61 H60 => ?_
      refine wpdS_mv (a := (eB v61)) rfl rfl rfl (o_pick_f tk rfl rfl (Wk.refl _)) (wpdS_mv (a := (eB v61)) rfl rfl rfl (o_mv tk rfl (Wk.refl _)) ?_)
      refine if_split H60 (fun hb H62 => ?_) (fun hb H62 => ?_)
      ·subst hb
       refine wpdS_skip rfl rfl rfl (wpdS_skip rfl rfl rfl (wpdS_skip rfl rfl rfl (wpdS_skip rfl rfl rfl (wpdS_skip rfl rfl rfl (wpdS_mv (a := (eB true)) rfl rfl rfl (o_pick_t tk rfl rfl (Wk.refl _)) (wpdS_mv (a := (eB true)) rfl rfl rfl (o_mv tk rfl (Wk.refl _)) (wpdS_skip rfl rfl rfl (wpdS_skip rfl rfl rfl ?_))))))))
       refine wpdS_skip rfl rfl rfl (wpdS_skip rfl rfl rfl (wpdS_skip rfl rfl rfl (wpdS_skip rfl rfl rfl (wpdS_mv (a := (eB true)) rfl rfl rfl (o_pick_t tk rfl rfl (Wk.refl _)) (wpdS_nil ?_)))))
       have e := oi H62
       subst e
       exact ⟨(wc (wc (wc (wc (wc (wkf_nil _)))))), hH⟩
      ·subst hb
       refine wpdS_mv (a := (.ref id10 0)) rfl rfl rfl (o_mv tk rfl (Wk.refl _)) ?_
       refine wpdS_bdr H62 eI rfl (by decide +kernel) rfl rfl (fun v64 hv => h_callr rfl rfl (.cons wr .nil) (lines_Lines_Lost_ok hv _ (hH.at_ 3 rfl) (hH.at_ 1 rfl) (hH.pw [3, 1] rfl (by decide)) .c)) fun v64 hv64 H63 => ?_
       refine wpdS_mv (a := (.ref id12 2)) rfl rfl rfl (o_c tk false rfl (fun _ => rfl)) (wpdS_rd (a := (eI c47.Lost)) rfl (by decide +kernel) rfl rfl (h_ld tk hH 2 rfl rfl rfl) ?_)
       refine wpdS_lt H63 eB rfl rfl rfl (o_ar tk rfl rfl rfl) fun v66 H65 => ?_
       refine wpdS_mv (a := (eB v66)) rfl rfl rfl (o_pick_f tk rfl rfl (Wk.refl _)) (wpdS_mv (a := (eB v66)) rfl rfl rfl (o_mv tk rfl (Wk.refl _)) ?_)
       refine if_split H65 (fun hb H67 => ?_) (fun hb H67 => ?_)
       ·subst hb
        refine wpdS_skip rfl rfl rfl (wpdS_skip rfl rfl rfl (wpdS_skip rfl rfl rfl (wpdS_skip rfl rfl rfl (wpdS_skip rfl rfl rfl (wpdS_skip rfl rfl rfl (wpdS_mv (a := (eB true)) rfl rfl rfl (o_pick_t tk rfl rfl (Wk.refl _)) (wpdS_nil ?_)))))))
        have e := oi H67
        subst e
        exact ⟨(wc (wc (wc (wc (wc (wkf_nil _)))))), hH⟩
       ·subst hb
        refine wpdS_mv (a := (.ref id10 0)) rfl rfl rfl (o_mv tk rfl (Wk.refl _)) ?_
        refine wpdS_bdr H67 (eL 11 e_api_Msg) rfl (by decide +kernel) rfl rfl (fun v69 hv => h_callr rfl rfl (.cons wr .nil) (lines_Lines_All_ok hv _ (hH.at_ 3 rfl) (hH.at_ 1 rfl) (hH.pw [3, 1] rfl (by decide)) .c)) fun v69 hv69 H68 => ?_
        refine wpdS_rd (a := (e_R26_Lines c47)) rfl (by decide +kernel) rfl rfl (h_ld tk hH 2 rfl rfl rfl) ?_
        refine wpdS_bd H68 (eL 11 e_api_Msg) rfl rfl rfl (fun v71 hv => OpP.of_call rfl rfl (.cons wr .nil) (R26_All_ok hv)) fun v71 hv71 H70 => ?_
        refine wpdS_bd H70 eB rfl rfl rfl (fun v73 hv => OpP.of_call rfl rfl (.cons wr (.cons wr .nil)) (R23_SameAll_ok hv)) fun v73 hv73 H72 => ?_
        refine wpdS_lt H72 eB rfl rfl rfl (o_un tk rfl rfl) fun v75 H74 => ?_
        refine wpdS_mv (a := (eB v75)) rfl rfl rfl (o_pick_f tk rfl rfl (Wk.refl _)) (wpdS_nil ?_)
        have e := oi H74
        subst e
        exact ⟨(wc (wc (wc (wc (wc (wkf_nil _)))))), hH⟩
   ·refine awp_exit ?_
    have hz := hy25 _ (inj_inr H32)
    exact ⟨⟨_, inj_inr H32⟩, (c16, c17, c18), hz.symm, id_id10_l, c_id10_l, n_id10_l, (wkf_nil _), hH⟩
end Go.Proofs.YtedcgeghgbgonaaGreatDoor
