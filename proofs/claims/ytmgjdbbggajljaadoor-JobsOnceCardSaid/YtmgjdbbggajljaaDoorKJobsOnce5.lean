/- Never more wait than may, and of each key one; what waits goes in the order in which it came last. (part 5 of 6) -/
import Derived.Test.YtmgjdbbggajljaaDoorKJobsOnce4
import Derived.ChangeSame
import Derived.ChangeVars
import Derived.JoinedOf
import Derived.LaidHandle
import Derived.LaidLaws
import Derived.RowKit
import Derived.RowKitTokens
import Derived.Stop.Joined
import Derived.Test.YtmgjdbbggajljaaDoorRows
namespace Go.Proofs.YtmgjdbbggajljaaDoor
open Go Go.Va
set_option linter.unusedVariables false
set_option linter.unusedSimpArgs false
set_option maxRecDepth 20000
set_option maxHeartbeats 2000000
theorem L19_works_ok  {r : Bool} (H : L19_works = some r) (σ : St)  (hg : σ.gl = gls) : ACall Tryd.prog 6 [] σ (fun a τ => a = eB r ∧ τ = σ) := by
 unfold L19_works at H
 refine ACall.pure (acall_start tk Tryd.func6 (by decide) rfl (nb rfl) ?_)
 have hH := Holds.init σ
 refine sr rfl (ma tk (eB false) rfl rfl (wpo_nil (sr rfl ?_)))
 obtain ⟨v2, hvv2, H1⟩ := ob H
 rcases hz6 : v2.1 with _ | c3
 ·rw [hz6, Option.elim_none] at H1
  refine wpo_a (av := fun _ => .tup [.nilp, (eErr v2.2)]) rfl rfl rfl (h_callno0 hH hz6 rfl rfl (.cons wr .nil) (jobs_New_ok hvv2 _)) fun _ τ hH => ?_
  refine mm tk (.tup [.nilp, (eErr v2.2)]) rfl rfl (m_ .nilp rfl (o_ext tk rfl rfl) (m_ (eErr v2.2) rfl (o_ext tk rfl rfl) (ma tk .nilp rfl rfl (ma tk (eErr v2.2) rfl rfl (wpo_nil (sr rfl ?_))))))
  obtain ⟨v8, hvv8, H7⟩ := ob H1
  rcases hz12 : v8.1 with _ | c9
  ·rw [hz12, Option.elim_none] at H7
   refine wpo_a (av := fun _ => .tup [.nilp, (eErr v8.2)]) rfl rfl rfl (h_callno0 hH hz12 rfl rfl (.cons wr .nil) (jobs_New_ok hvv8 _)) fun _ τ hH => ?_
   refine mm tk (.tup [.nilp, (eErr v8.2)]) rfl rfl (m_ .nilp rfl (o_ext tk rfl rfl) (m_ (eErr v8.2) rfl (o_ext tk rfl rfl) (ma tk .nilp rfl rfl (ma tk (eErr v8.2) rfl rfl (wpo_nil (awp_seq (sr rfl (mm tk .nilp rfl rfl ?_))))))))
   refine mc tk (eB true) rfl rfl (fun _ => rfl) (mm tk (eB true) rfl rfl (k_ rfl (k_ rfl (pt tk (eB true) rfl rfl rfl (wpo_nil ?_)))))
   refine awp_true rfl ?_
   refine sr rfl (ma tk (eB false) rfl rfl (wpo_nil (awp_ret ?_)))
   obtain rfl := oi H7
   exact ⟨_, (eB false), rfl, wr, .of_eq ((enc_b td4 sz4).cut _ _ _), hH.noT⟩
  ·rw [hz12, Option.elim_some] at H7
   refine wpo_a (av := fun id => .tup [.ref id 0, (eErr v8.2)]) rfl rfl rfl (h_callno1 hH hz12 rfl rfl (.cons wr .nil) (jobs_New_ok hvv8 _)) fun id10 τ ⟨hH, n11⟩ => ?_
   have hH : Holds σ [(id10, [(eI ({ c9 with down_l := [], up_l := [] } : jobs_Jobs).down_limit), (.fn (.func 24) [] []), AV.nils, (eI ({ c9 with down_l := [], up_l := [] } : jobs_Jobs).up_limit), (.fn (.func 25) [] []), AV.nils])] [] τ := hH
   refine mm tk (.tup [(.ref id10 0), (eErr v8.2)]) rfl rfl (m_ (.ref id10 0) rfl (o_ext tk rfl rfl) (m_ (eErr v8.2) rfl (o_ext tk rfl rfl) (ma tk (.ref id10 0) rfl rfl (ma tk (eErr v8.2) rfl rfl (wpo_nil (awp_seq (awp_seq ?_)))))))
   refine AWP.tokO hH 0 rfl (c1 := fun tk13 => [(eI ({ c9 with down_l := [], up_l := [] } : jobs_Jobs).down_limit), (.fn (.func 24) [] []), (eT tk13 5 e_api_Entry ({ c9 with down_l := [], up_l := [] } : jobs_Jobs).down_l), (eI ({ c9 with down_l := [], up_l := [] } : jobs_Jobs).up_limit), (.fn (.func 25) [] []), AV.nils]) (fun _ => (.same (.same (.tok (.same (.same (.same .nil))))))) fun tk13 τ (hH : Holds σ [(id10, [(eI ({ c9 with down_l := [], up_l := [] } : jobs_Jobs).down_limit), (.fn (.func 24) [] []), (eT tk13 5 e_api_Entry ({ c9 with down_l := [], up_l := [] } : jobs_Jobs).down_l), (eI ({ c9 with down_l := [], up_l := [] } : jobs_Jobs).up_limit), (.fn (.func 25) [] []), AV.nils])] [tk13] τ) => ?_
   refine AWP.tokO hH 0 rfl (c1 := fun tk14 => [(eI ({ c9 with down_l := [], up_l := [] } : jobs_Jobs).down_limit), (.fn (.func 24) [] []), (eT tk13 5 e_api_Entry ({ c9 with down_l := [], up_l := [] } : jobs_Jobs).down_l), (eI ({ c9 with down_l := [], up_l := [] } : jobs_Jobs).up_limit), (.fn (.func 25) [] []), (eT tk14 1 eS ({ c9 with down_l := [], up_l := [] } : jobs_Jobs).up_l)]) (fun _ => (.same (.same (.same (.same (.same (.tok .nil))))))) fun tk14 τ (hH : Holds σ [(id10, [(eI ({ c9 with down_l := [], up_l := [] } : jobs_Jobs).down_limit), (.fn (.func 24) [] []), (eT tk13 5 e_api_Entry ({ c9 with down_l := [], up_l := [] } : jobs_Jobs).down_l), (eI ({ c9 with down_l := [], up_l := [] } : jobs_Jobs).up_limit), (.fn (.func 25) [] []), (eT tk14 1 eS ({ c9 with down_l := [], up_l := [] } : jobs_Jobs).up_l)])] [tk14, tk13] τ) => ?_
   refine awp_region rfl (mm tk .nilp rfl rfl (mc tk (eB true) rfl rfl (fun _ => rfl) (mm tk (eB true) rfl rfl (k_ rfl (k_ rfl (pt tk (eB true) rfl rfl rfl (wpo_nil ?_)))))))
   refine awp_true rfl ?_
   refine sr rfl (ma tk (eB false) rfl rfl (wpo_nil (awp_ret ?_)))
   obtain rfl := oi H7
   exact ⟨_, (eB false), rfl, wr, .of_eq ((enc_b td4 sz4).cut _ _ _), (hH.noT.drop n11)⟩
 ·rw [hz6, Option.elim_some] at H1
  refine wpo_a (av := fun id => .tup [.ref id 0, (eErr v2.2)]) rfl rfl rfl (h_callno1 hH hz6 rfl rfl (.cons wr .nil) (jobs_New_ok hvv2 _)) fun id4 τ ⟨hH, n5⟩ => ?_
  have hH : Holds σ [(id4, [(eI ({ c3 with down_l := [], up_l := [] } : jobs_Jobs).down_limit), (.fn (.func 24) [] []), AV.nils, (eI ({ c3 with down_l := [], up_l := [] } : jobs_Jobs).up_limit), (.fn (.func 25) [] []), AV.nils])] [] τ := hH
  refine mm tk (.tup [(.ref id4 0), (eErr v2.2)]) rfl rfl (m_ (.ref id4 0) rfl (o_ext tk rfl rfl) (m_ (eErr v2.2) rfl (o_ext tk rfl rfl) (ma tk (.ref id4 0) rfl rfl (ma tk (eErr v2.2) rfl rfl (wpo_nil (awp_seq ?_))))))
  refine AWP.tokO hH 0 rfl (c1 := fun tk15 => [(eI ({ c3 with down_l := [], up_l := [] } : jobs_Jobs).down_limit), (.fn (.func 24) [] []), (eT tk15 5 e_api_Entry ({ c3 with down_l := [], up_l := [] } : jobs_Jobs).down_l), (eI ({ c3 with down_l := [], up_l := [] } : jobs_Jobs).up_limit), (.fn (.func 25) [] []), AV.nils]) (fun _ => (.same (.same (.tok (.same (.same (.same .nil))))))) fun tk15 τ (hH : Holds σ [(id4, [(eI ({ c3 with down_l := [], up_l := [] } : jobs_Jobs).down_limit), (.fn (.func 24) [] []), (eT tk15 5 e_api_Entry ({ c3 with down_l := [], up_l := [] } : jobs_Jobs).down_l), (eI ({ c3 with down_l := [], up_l := [] } : jobs_Jobs).up_limit), (.fn (.func 25) [] []), AV.nils])] [tk15] τ) => ?_
  refine AWP.tokO hH 0 rfl (c1 := fun tk16 => [(eI ({ c3 with down_l := [], up_l := [] } : jobs_Jobs).down_limit), (.fn (.func 24) [] []), (eT tk15 5 e_api_Entry ({ c3 with down_l := [], up_l := [] } : jobs_Jobs).down_l), (eI ({ c3 with down_l := [], up_l := [] } : jobs_Jobs).up_limit), (.fn (.func 25) [] []), (eT tk16 1 eS ({ c3 with down_l := [], up_l := [] } : jobs_Jobs).up_l)]) (fun _ => (.same (.same (.same (.same (.same (.tok .nil))))))) fun tk16 τ (hH : Holds σ [(id4, [(eI ({ c3 with down_l := [], up_l := [] } : jobs_Jobs).down_limit), (.fn (.func 24) [] []), (eT tk15 5 e_api_Entry ({ c3 with down_l := [], up_l := [] } : jobs_Jobs).down_l), (eI ({ c3 with down_l := [], up_l := [] } : jobs_Jobs).up_limit), (.fn (.func 25) [] []), (eT tk16 1 eS ({ c3 with down_l := [], up_l := [] } : jobs_Jobs).up_l)])] [tk16, tk15] τ) => ?_
  refine awp_region rfl ?_
  obtain ⟨v18, hvv18, H17⟩ := ob H1
  rcases hz22 : v18.1 with _ | c19
  ·rw [hz22, Option.elim_none] at H17
   refine wpo_a (av := fun _ => .tup [.nilp, (eErr v18.2)]) rfl rfl rfl (h_callno0 hH hz22 rfl rfl (.cons wr .nil) (jobs_New_ok hvv18 _)) fun _ τ hH => ?_
   refine mm tk (.tup [.nilp, (eErr v18.2)]) rfl rfl (m_ .nilp rfl (o_ext tk rfl rfl) (m_ (eErr v18.2) rfl (o_ext tk rfl rfl) (ma tk .nilp rfl rfl (ma tk (eErr v18.2) rfl rfl (wpo_nil (awp_seq (sr rfl (mm tk (.ref id4 0) rfl rfl ?_))))))))
   refine mc tk (eB false) rfl rfl (fun _ => rfl) (mm tk (eB false) rfl rfl (mm tk (eErr v2.2) rfl rfl ?_))
   refine l_ H17 eB rfl (o_err_neq tk rfl rfl rfl) fun v24 H23 => ?_
   refine pf tk (eB v24) rfl rfl rfl (wpo_nil ?_)
   refine awp_if H23 rfl (fun H25 => ?_) (fun H25 => ?_)
   ·refine sr rfl (ma tk (eB false) rfl rfl (wpo_nil (awp_ret ?_)))
    obtain rfl := oi H25
    exact ⟨_, (eB false), rfl, wr, .of_eq ((enc_b td4 sz4).cut _ _ _), (hH.noT.drop n5)⟩
   ·refine awp_skip (sr rfl (mm tk (.ref id4 0) rfl rfl (mc tk (.agg [(eS (⟨([97#8] : List (BitVec 8)), (1 : Int), (1 : Int), (0 : Int), ([] : List (BitVec 8))⟩ : api_Entry).Key), (eI (⟨([97#8] : List (BitVec 8)), (1 : Int), (1 : Int), (0 : Int), ([] : List (BitVec 8))⟩ : api_Entry).Version), (eI (⟨([97#8] : List (BitVec 8)), (1 : Int), (1 : Int), (0 : Int), ([] : List (BitVec 8))⟩ : api_Entry).AsOf), (eI (⟨([97#8] : List (BitVec 8)), (1 : Int), (1 : Int), (0 : Int), ([] : List (BitVec 8))⟩ : api_Entry).Ends), AV.nils]) rfl rfl (fun _ => rfl) ?_)))
    refine wpo_cb H25 (fun x _ => eB x.1) rfl rfl rfl (fun v27 hv => h_callT hH [] 2 ((perm_at 1 rfl).trans (.cons _ ((perm_at 0 rfl).trans (.cons _ (.refl _))))) (fun g => [(0, (id4, [(eI v27.2.down_limit), (.fn (.func 24) [] []), (eT (g 0) 5 e_api_Entry v27.2.down_l), (eI v27.2.up_limit), (.fn (.func 25) [] []), (eT (g 1) 1 eS v27.2.up_l)]))]) (fun _ => ⟨⟨_, rfl⟩, trivial⟩) rfl rfl (.cons wr (.cons (wk_agg (.cons wr (.cons wr (.cons wr (.cons wr (.cons (wk_nils _) .nil)))))) .nil)) (jobs_Jobs_Push_ok hv _ (hH.at_ 0 rfl) (hH.pw [0] rfl (by decide)) (hH.open_ 1 rfl) (hH.open_ 0 rfl) (hH.tnin 1 0 rfl rfl (by decide)))) fun v27 tk28 τ hv27 H26 (hH : Holds σ [(id4, [(eI v27.2.down_limit), (.fn (.func 24) [] []), (eT (tk28 + 0) 5 e_api_Entry v27.2.down_l), (eI v27.2.up_limit), (.fn (.func 25) [] []), (eT (tk28 + 1) 1 eS v27.2.up_l)])] [(tk28 + 0), (tk28 + 1)] τ) => ?_
    refine ma tk (eB v27.1) rfl rfl (wpo_nil (sr rfl (mm tk (.ref id4 0) rfl rfl (mc tk (.agg [(eS (⟨([98#8] : List (BitVec 8)), (1 : Int), (1 : Int), (0 : Int), ([] : List (BitVec 8))⟩ : api_Entry).Key), (eI (⟨([98#8] : List (BitVec 8)), (1 : Int), (1 : Int), (0 : Int), ([] : List (BitVec 8))⟩ : api_Entry).Version), (eI (⟨([98#8] : List (BitVec 8)), (1 : Int), (1 : Int), (0 : Int), ([] : List (BitVec 8))⟩ : api_Entry).AsOf), (eI (⟨([98#8] : List (BitVec 8)), (1 : Int), (1 : Int), (0 : Int), ([] : List (BitVec 8))⟩ : api_Entry).Ends), AV.nils]) rfl rfl (fun _ => rfl) ?_))))
    refine wpo_cb H26 (fun x _ => eB x.1) rfl rfl rfl (fun v30 hv => h_callT hH [] 2 ((perm_at 0 rfl).trans (.cons _ ((perm_at 0 rfl).trans (.cons _ (.refl _))))) (fun g => [(0, (id4, [(eI v30.2.down_limit), (.fn (.func 24) [] []), (eT (g 0) 5 e_api_Entry v30.2.down_l), (eI v30.2.up_limit), (.fn (.func 25) [] []), (eT (g 1) 1 eS v30.2.up_l)]))]) (fun _ => ⟨⟨_, rfl⟩, trivial⟩) rfl rfl (.cons wr (.cons (wk_agg (.cons wr (.cons wr (.cons wr (.cons wr (.cons (wk_nils _) .nil)))))) .nil)) (jobs_Jobs_Push_ok hv _ (hH.at_ 0 rfl) (hH.pw [0] rfl (by decide)) (hH.open_ 0 rfl) (hH.open_ 1 rfl) (hH.tnin 0 1 rfl rfl (by decide)))) fun v30 tk31 τ hv30 H29 (hH : Holds σ [(id4, [(eI v30.2.down_limit), (.fn (.func 24) [] []), (eT (tk31 + 0) 5 e_api_Entry v30.2.down_l), (eI v30.2.up_limit), (.fn (.func 25) [] []), (eT (tk31 + 1) 1 eS v30.2.up_l)])] [(tk31 + 0), (tk31 + 1)] τ) => ?_
    refine ma tk (eB v30.1) rfl rfl (wpo_nil (sr rfl (mm tk (.ref id4 0) rfl rfl (mc tk (.agg [(eS (⟨([99#8] : List (BitVec 8)), (1 : Int), (1 : Int), (0 : Int), ([] : List (BitVec 8))⟩ : api_Entry).Key), (eI (⟨([99#8] : List (BitVec 8)), (1 : Int), (1 : Int), (0 : Int), ([] : List (BitVec 8))⟩ : api_Entry).Version), (eI (⟨([99#8] : List (BitVec 8)), (1 : Int), (1 : Int), (0 : Int), ([] : List (BitVec 8))⟩ : api_Entry).AsOf), (eI (⟨([99#8] : List (BitVec 8)), (1 : Int), (1 : Int), (0 : Int), ([] : List (BitVec 8))⟩ : api_Entry).Ends), AV.nils]) rfl rfl (fun _ => rfl) ?_))))
    refine wpo_cb H29 (fun x _ => eB x.1) rfl rfl rfl (fun v33 hv => h_callT hH [] 2 ((perm_at 0 rfl).trans (.cons _ ((perm_at 0 rfl).trans (.cons _ (.refl _))))) (fun g => [(0, (id4, [(eI v33.2.down_limit), (.fn (.func 24) [] []), (eT (g 0) 5 e_api_Entry v33.2.down_l), (eI v33.2.up_limit), (.fn (.func 25) [] []), (eT (g 1) 1 eS v33.2.up_l)]))]) (fun _ => ⟨⟨_, rfl⟩, trivial⟩) rfl rfl (.cons wr (.cons (wk_agg (.cons wr (.cons wr (.cons wr (.cons wr (.cons (wk_nils _) .nil)))))) .nil)) (jobs_Jobs_Push_ok hv _ (hH.at_ 0 rfl) (hH.pw [0] rfl (by decide)) (hH.open_ 0 rfl) (hH.open_ 1 rfl) (hH.tnin 0 1 rfl rfl (by decide)))) fun v33 tk34 τ hv33 H32 (hH : Holds σ [(id4, [(eI v33.2.down_limit), (.fn (.func 24) [] []), (eT (tk34 + 0) 5 e_api_Entry v33.2.down_l), (eI v33.2.up_limit), (.fn (.func 25) [] []), (eT (tk34 + 1) 1 eS v33.2.up_l)])] [(tk34 + 0), (tk34 + 1)] τ) => ?_
    refine ma tk (eB v33.1) rfl rfl (wpo_nil (sr rfl (mm tk (.ref id4 0) rfl rfl (mc tk (.agg [(eS (⟨([97#8] : List (BitVec 8)), (2 : Int), (2 : Int), (0 : Int), ([] : List (BitVec 8))⟩ : api_Entry).Key), (eI (⟨([97#8] : List (BitVec 8)), (2 : Int), (2 : Int), (0 : Int), ([] : List (BitVec 8))⟩ : api_Entry).Version), (eI (⟨([97#8] : List (BitVec 8)), (2 : Int), (2 : Int), (0 : Int), ([] : List (BitVec 8))⟩ : api_Entry).AsOf), (eI (⟨([97#8] : List (BitVec 8)), (2 : Int), (2 : Int), (0 : Int), ([] : List (BitVec 8))⟩ : api_Entry).Ends), AV.nils]) rfl rfl (fun _ => rfl) ?_))))
    refine wpo_cb H32 (fun x _ => eB x.1) rfl rfl rfl (fun v36 hv => h_callT hH [] 2 ((perm_at 0 rfl).trans (.cons _ ((perm_at 0 rfl).trans (.cons _ (.refl _))))) (fun g => [(0, (id4, [(eI v36.2.down_limit), (.fn (.func 24) [] []), (eT (g 0) 5 e_api_Entry v36.2.down_l), (eI v36.2.up_limit), (.fn (.func 25) [] []), (eT (g 1) 1 eS v36.2.up_l)]))]) (fun _ => ⟨⟨_, rfl⟩, trivial⟩) rfl rfl (.cons wr (.cons (wk_agg (.cons wr (.cons wr (.cons wr (.cons wr (.cons (wk_nils _) .nil)))))) .nil)) (jobs_Jobs_Push_ok hv _ (hH.at_ 0 rfl) (hH.pw [0] rfl (by decide)) (hH.open_ 0 rfl) (hH.open_ 1 rfl) (hH.tnin 0 1 rfl rfl (by decide)))) fun v36 tk37 τ hv36 H35 (hH : Holds σ [(id4, [(eI v36.2.down_limit), (.fn (.func 24) [] []), (eT (tk37 + 0) 5 e_api_Entry v36.2.down_l), (eI v36.2.up_limit), (.fn (.func 25) [] []), (eT (tk37 + 1) 1 eS v36.2.up_l)])] [(tk37 + 0), (tk37 + 1)] τ) => ?_
    refine ma tk (eB v36.1) rfl rfl (wpo_nil (sr rfl (mm tk (.ref id4 0) rfl rfl ?_)))
    refine wpo_cb H35 (fun x _ => .tup [e_api_Entry x.1, eB x.2.1]) rfl rfl rfl (fun v39 hv => h_callT hH [] 2 ((perm_at 0 rfl).trans (.cons _ ((perm_at 0 rfl).trans (.cons _ (.refl _))))) (fun g => [(0, (id4, [(eI v39.2.2.down_limit), (.fn (.func 24) [] []), (eT (g 0) 5 e_api_Entry v39.2.2.down_l), (eI v39.2.2.up_limit), (.fn (.func 25) [] []), (eT (g 1) 1 eS v39.2.2.up_l)]))]) (fun _ => ⟨⟨_, rfl⟩, trivial⟩) rfl rfl (.cons wr .nil) (jobs_Jobs_Pop_ok hv _ (hH.at_ 0 rfl) (hH.pw [0] rfl (by decide)) (hH.open_ 0 rfl) (hH.open_ 1 rfl) (hH.tnin 0 1 rfl rfl (by decide)))) fun v39 tk40 τ hv39 H38 (hH : Holds σ [(id4, [(eI v39.2.2.down_limit), (.fn (.func 24) [] []), (eT (tk40 + 0) 5 e_api_Entry v39.2.2.down_l), (eI v39.2.2.up_limit), (.fn (.func 25) [] []), (eT (tk40 + 1) 1 eS v39.2.2.up_l)])] [(tk40 + 0), (tk40 + 1)] τ) => ?_
    refine mm tk (.tup [(e_api_Entry v39.1), (eB v39.2.1)]) rfl rfl (m_ (e_api_Entry v39.1) rfl (o_ext tk rfl rfl) (m_ (eB v39.2.1) rfl (o_ext tk rfl rfl) ?_))
    refine wpo_a (av := fun id => .ref id 0) rfl rfl rfl (h_alloc tk hH ty42 [(eS z_api_Entry.Key), (eI z_api_Entry.Version), (eI z_api_Entry.AsOf), (eI z_api_Entry.Ends), AV.nils] rfl) fun id41 τ ⟨hH, n42⟩ => ?_
    refine wpo_z rfl rfl (h_st tk hH 0 rfl ty42 (by simp) rfl rfl wr (b := (e_api_Entry v39.1)) (enc42.flat _) rfl (nb rfl) (c_api_Entry (v39.1 : api_Entry)) rfl) fun τ hH => ?_
    refine ma tk (eB v39.2.1) rfl rfl (wpo_nil (sr rfl (mm tk (.ref id4 0) rfl rfl ?_)))
    refine wpo_bdr H38 (fun r => .tup [e_api_Entry r.1, eB r.2]) rfl rfl rfl (fun v45 hv => h_callr rfl rfl (.cons wr (.cons wr .nil)) (jobs_Jobs_Find_ok hv _ (hH.at_ 1 rfl) (hH.pw [1] rfl (by decide)))) fun v45 hv45 H44 => ?_
    refine mm tk (.tup [(e_api_Entry v45.1), (eB v45.2)]) rfl rfl (m_ (e_api_Entry v45.1) rfl (o_ext tk rfl rfl) (m_ (eB v45.2) rfl (o_ext tk rfl rfl) ?_))
    refine wpo_a (av := fun id => .ref id 0) rfl rfl rfl (h_alloc tk hH ty42 [(eS z_api_Entry.Key), (eI z_api_Entry.Version), (eI z_api_Entry.AsOf), (eI z_api_Entry.Ends), AV.nils] rfl) fun id46 τ ⟨hH, n47⟩ => ?_
    refine wpo_z rfl rfl (h_st tk hH 0 rfl ty42 (by simp) rfl rfl wr (b := (e_api_Entry v45.1)) (enc42.flat _) rfl (nb rfl) (c_api_Entry (v45.1 : api_Entry)) rfl) fun τ hH => ?_
    refine ma tk (eB v45.2) rfl rfl (wpo_nil (sr rfl (mm tk (.ref id4 0) rfl rfl ?_)))
    refine wpo_cb H44 (fun x _ => .tup [e_api_Entry x.1, eB x.2.1]) rfl rfl rfl (fun v50 hv => h_callT hH [] 2 ((perm_at 0 rfl).trans (.cons _ ((perm_at 0 rfl).trans (.cons _ (.refl _))))) (fun g => [(2, (id4, [(eI v50.2.2.down_limit), (.fn (.func 24) [] []), (eT (g 0) 5 e_api_Entry v50.2.2.down_l), (eI v50.2.2.up_limit), (.fn (.func 25) [] []), (eT (g 1) 1 eS v50.2.2.up_l)]))]) (fun _ => ⟨⟨_, rfl⟩, trivial⟩) rfl rfl (.cons wr (.cons wr .nil)) (jobs_Jobs_Drop_ok hv _ (hH.at_ 2 rfl) (hH.pw [2] rfl (by decide)) (hH.open_ 0 rfl) (hH.open_ 1 rfl) (hH.tnin 0 1 rfl rfl (by decide)))) fun v50 tk51 τ hv50 H49 (hH : Holds σ [(id46, (c_api_Entry (v45.1 : api_Entry))), (id41, (c_api_Entry (v39.1 : api_Entry))), (id4, [(eI v50.2.2.down_limit), (.fn (.func 24) [] []), (eT (tk51 + 0) 5 e_api_Entry v50.2.2.down_l), (eI v50.2.2.up_limit), (.fn (.func 25) [] []), (eT (tk51 + 1) 1 eS v50.2.2.up_l)])] [(tk51 + 0), (tk51 + 1)] τ) => ?_
    refine mm tk (.tup [(e_api_Entry v50.1), (eB v50.2.1)]) rfl rfl (m_ (e_api_Entry v50.1) rfl (o_ext tk rfl rfl) (m_ (eB v50.2.1) rfl (o_ext tk rfl rfl) ?_))
    refine wpo_a (av := fun id => .ref id 0) rfl rfl rfl (h_alloc tk hH ty42 [(eS z_api_Entry.Key), (eI z_api_Entry.Version), (eI z_api_Entry.AsOf), (eI z_api_Entry.Ends), AV.nils] rfl) fun id52 τ ⟨hH, n53⟩ => ?_
    refine wpo_z rfl rfl (h_st tk hH 0 rfl ty42 (by simp) rfl rfl wr (b := (e_api_Entry v50.1)) (enc42.flat _) rfl (nb rfl) (c_api_Entry (v50.1 : api_Entry)) rfl) fun τ hH => ?_
    refine ma tk (eB v50.2.1) rfl rfl (wpo_nil (sr rfl (mm tk (eErr v18.2) rfl rfl ?_)))
    refine wpo_bdr H49 eI rfl rfl rfl (fun v56 hv => h_callr rfl rfl (.cons wr .nil) (trouble_Of_ok hv _ (hH.gl.trans hg))) fun v56 hv56 H55 => ?_
    refine l_ H55 eB rfl (o_ar tk rfl rfl rfl) fun v58 H57 => ?_
    refine mm tk (eB v58) rfl rfl ?_
    refine if_split H57 (fun hb H59 => ?_) (fun hb H59 => ?_)
    ·subst hb
     refine mm tk (eB v27.1) rfl rfl (pt tk (eB v27.1) rfl rfl rfl (mm tk (eB v27.1) rfl rfl ?_))
     refine if_split H59 (fun hb H60 => ?_) (fun hb H60 => ?_)
     ·rw [hb]
      refine mm tk (eB v30.1) rfl rfl (pt tk (eB v30.1) rfl rfl rfl (mm tk (eB v30.1) rfl rfl ?_))
      refine if_split H60 (fun hb H61 => ?_) (fun hb H61 => ?_)
      ·rw [hb]
       refine mm tk (eB v33.1) rfl rfl ?_
       refine l_ H61 eB rfl (o_un tk rfl rfl) fun v63 H62 => ?_
       refine pt tk (eB v63) rfl rfl rfl (mm tk (eB v63) rfl rfl ?_)
       refine if_split H62 (fun hb H64 => ?_) (fun hb H64 => ?_)
       ·subst hb
        refine mm tk (eB v36.1) rfl rfl (pt tk (eB v36.1) rfl rfl rfl (mm tk (eB v36.1) rfl rfl ?_))
        refine if_split H64 (fun hb H65 => ?_) (fun hb H65 => ?_)
        ·rw [hb]
         refine mm tk (eB v39.2.1) rfl rfl (pt tk (eB v39.2.1) rfl rfl rfl (mm tk (eB v39.2.1) rfl rfl ?_))
         refine if_split H65 (fun hb H66 => ?_) (fun hb H66 => ?_)
         ·rw [hb]
          refine mc tk (.ref id41 0) rfl rfl (fun _ => rfl) (wpo_rd (a := (eS (v39.1 : api_Entry).Key)) rfl rfl rfl (h_ld tk hH 2 rfl rfl rfl) ?_)
          refine l_ H66 eB rfl (o_eql_s tk rfl rfl) fun v68 H67 => ?_
          refine pt tk (eB v68) rfl rfl rfl (mm tk (eB v68) rfl rfl ?_)
          refine if_split H67 (fun hb H69 => ?_) (fun hb H69 => ?_)
          ·subst hb
           refine mm tk (eB v45.2) rfl rfl (pt tk (eB v45.2) rfl rfl rfl (mm tk (eB v45.2) rfl rfl ?_))
           refine if_split H69 (fun hb H70 => ?_) (fun hb H70 => ?_)
           ·rw [hb]
            refine mc tk (.ref id46 1) rfl rfl (fun _ => rfl) (wpo_rd (a := (eI (v45.1 : api_Entry).Version)) rfl rfl rfl (h_ld tk hH 1 rfl rfl rfl) ?_)
            refine l_ H70 eB rfl (o_ar tk rfl rfl rfl) fun v72 H71 => ?_
            refine pt tk (eB v72) rfl rfl rfl (mm tk (eB v72) rfl rfl ?_)
            refine if_split H71 (fun hb H73 => ?_) (fun hb H73 => ?_)
            ·subst hb
             refine mm tk (eB v50.2.1) rfl rfl (pt tk (eB v50.2.1) rfl rfl rfl (mm tk (eB v50.2.1) rfl rfl ?_))
             refine if_split H73 (fun hb H74 => ?_) (fun hb H74 => ?_)
             ·rw [hb]
              refine mc tk (.ref id52 1) rfl rfl (fun _ => rfl) (wpo_rd (a := (eI (v50.1 : api_Entry).Version)) rfl rfl rfl (h_ld tk hH 0 rfl rfl rfl) ?_)
              refine l_ H74 eB rfl (o_ar tk rfl rfl rfl) fun v76 H75 => ?_
              refine pt tk (eB v76) rfl rfl rfl (mm tk (eB v76) rfl rfl ?_)
              refine if_split H75 (fun hb H77 => ?_) (fun hb H77 => ?_)
              ·subst hb
               refine mm tk (.ref id4 0) rfl rfl ?_
               refine wpo_cb H77 (fun x _ => eB x.1) rfl rfl rfl (fun v79 hv => h_callT hH [] 2 ((perm_at 0 rfl).trans (.cons _ ((perm_at 0 rfl).trans (.cons _ (.refl _))))) (fun g => [(3, (id4, [(eI v79.2.down_limit), (.fn (.func 24) [] []), (eT (g 0) 5 e_api_Entry v79.2.down_l), (eI v79.2.up_limit), (.fn (.func 25) [] []), (eT (g 1) 1 eS v79.2.up_l)]))]) (fun _ => ⟨⟨_, rfl⟩, trivial⟩) rfl rfl (.cons wr (.cons wr .nil)) (jobs_Jobs_Want_ok hv _ (hH.at_ 3 rfl) (hH.pw [3] rfl (by decide)) (hH.open_ 0 rfl) (hH.open_ 1 rfl) (hH.tnin 0 1 rfl rfl (by decide)))) fun v79 tk80 τ hv79 H78 (hH : Holds σ [(id52, (c_api_Entry (v50.1 : api_Entry))), (id46, (c_api_Entry (v45.1 : api_Entry))), (id41, (c_api_Entry (v39.1 : api_Entry))), (id4, [(eI v79.2.down_limit), (.fn (.func 24) [] []), (eT (tk80 + 0) 5 e_api_Entry v79.2.down_l), (eI v79.2.up_limit), (.fn (.func 25) [] []), (eT (tk80 + 1) 1 eS v79.2.up_l)])] [(tk80 + 0), (tk80 + 1)] τ) => ?_
               refine pt tk (eB v79.1) rfl rfl rfl (mm tk (eB v79.1) rfl rfl ?_)
               refine if_split H78 (fun hb H81 => ?_) (fun hb H81 => ?_)
               ·rw [hb]
                refine mm tk (.ref id4 0) rfl rfl ?_
                refine wpo_cb H81 (fun x _ => eB x.1) rfl rfl rfl (fun v83 hv => h_callT hH [] 2 ((perm_at 0 rfl).trans (.cons _ ((perm_at 0 rfl).trans (.cons _ (.refl _))))) (fun g => [(3, (id4, [(eI v83.2.down_limit), (.fn (.func 24) [] []), (eT (g 0) 5 e_api_Entry v83.2.down_l), (eI v83.2.up_limit), (.fn (.func 25) [] []), (eT (g 1) 1 eS v83.2.up_l)]))]) (fun _ => ⟨⟨_, rfl⟩, trivial⟩) rfl rfl (.cons wr (.cons wr .nil)) (jobs_Jobs_Want_ok hv _ (hH.at_ 3 rfl) (hH.pw [3] rfl (by decide)) (hH.open_ 0 rfl) (hH.open_ 1 rfl) (hH.tnin 0 1 rfl rfl (by decide)))) fun v83 tk84 τ hv83 H82 (hH : Holds σ [(id52, (c_api_Entry (v50.1 : api_Entry))), (id46, (c_api_Entry (v45.1 : api_Entry))), (id41, (c_api_Entry (v39.1 : api_Entry))), (id4, [(eI v83.2.down_limit), (.fn (.func 24) [] []), (eT (tk84 + 0) 5 e_api_Entry v83.2.down_l), (eI v83.2.up_limit), (.fn (.func 25) [] []), (eT (tk84 + 1) 1 eS v83.2.up_l)])] [(tk84 + 0), (tk84 + 1)] τ) => ?_
                refine pt tk (eB v83.1) rfl rfl rfl (mm tk (eB v83.1) rfl rfl ?_)
                refine if_split H82 (fun hb H85 => ?_) (fun hb H85 => ?_)
                ·rw [hb]
                 refine mm tk (.ref id4 0) rfl rfl ?_
                 refine wpo_bdr H85 (eL 1 eS) rfl rfl rfl (fun v87 hv => h_callr rfl rfl (.cons wr .nil) (jobs_Jobs_Up_ok hv _ (hH.at_ 3 rfl) (hH.pw [3] rfl (by decide)))) fun v87 hv87 H86 => ?_
                 refine l_ H86 eI rfl (o_len tk td31 rfl) fun v89 H88 => ?_
                 refine l_ H88 eB rfl (o_ar tk rfl rfl rfl) fun v91 H90 => ?_
                 refine pt tk (eB v91) rfl rfl rfl (mm tk (eB v91) rfl rfl ?_)
                 refine if_split H90 (fun hb H92 => ?_) (fun hb H92 => ?_)
                 ·subst hb
                  refine mm tk (.ref id4 0) rfl rfl ?_
                  refine wpo_bdr H92 (eL 5 e_api_Entry) rfl rfl rfl (fun v94 hv => h_callr rfl rfl (.cons wr .nil) (jobs_Jobs_Down_ok hv _ (hH.at_ 3 rfl) (hH.pw [3] rfl (by decide)))) fun v94 hv94 H93 => ?_
                  refine l_ H93 eI rfl (o_len tk td30 rfl) fun v96 H95 => ?_
                  refine l_ H95 eB rfl (o_ar tk rfl rfl rfl) fun v98 H97 => ?_
                  refine pt tk (eB v98) rfl rfl rfl (ma tk (eB v98) rfl rfl (wpo_nil (awp_ret ?_)))
                  obtain rfl := oi H97
                  exact ⟨_, (eB v98), rfl, wr, .of_eq ((enc_b td4 sz4).cut _ _ _), ((((hH.noT.drop n53).drop n47).drop n42).drop n5)⟩
                 ·subst hb
                  refine k_ rfl (k_ rfl (k_ rfl (k_ rfl (pf tk (eB false) rfl rfl rfl (ma tk (eB false) rfl rfl (wpo_nil (awp_ret ?_)))))))
                  obtain rfl := oi H92
                  exact ⟨_, (eB false), rfl, wr, .of_eq ((enc_b td4 sz4).cut _ _ _), ((((hH.noT.drop n53).drop n47).drop n42).drop n5)⟩
                ·rw [hb]
                 refine k_ rfl (k_ rfl (k_ rfl (k_ rfl (pf tk (eB false) rfl rfl rfl (mm tk (eB false) rfl rfl (k_ rfl (k_ rfl (k_ rfl ?_))))))))
                 refine k_ rfl (pf tk (eB false) rfl rfl rfl (ma tk (eB false) rfl rfl (wpo_nil (awp_ret ?_))))
                 obtain rfl := oi H85
                 exact ⟨_, (eB false), rfl, wr, .of_eq ((enc_b td4 sz4).cut _ _ _), ((((hH.noT.drop n53).drop n47).drop n42).drop n5)⟩
               ·rw [hb]
                refine k_ rfl (k_ rfl (pf tk (eB false) rfl rfl rfl (mm tk (eB false) rfl rfl (k_ rfl (k_ rfl (k_ rfl (k_ rfl (pf tk (eB false) rfl rfl rfl ?_))))))))
                refine mm tk (eB false) rfl rfl (k_ rfl (k_ rfl (k_ rfl (k_ rfl (pf tk (eB false) rfl rfl rfl (ma tk (eB false) rfl rfl (wpo_nil (awp_ret ?_))))))))
                obtain rfl := oi H81
                exact ⟨_, (eB false), rfl, wr, .of_eq ((enc_b td4 sz4).cut _ _ _), ((((hH.noT.drop n53).drop n47).drop n42).drop n5)⟩
              ·subst hb
               refine k_ rfl (k_ rfl (pf tk (eB false) rfl rfl rfl (mm tk (eB false) rfl rfl (k_ rfl (k_ rfl (pf tk (eB false) rfl rfl rfl (mm tk (eB false) rfl rfl (k_ rfl ?_))))))))
               refine k_ rfl (k_ rfl (k_ rfl (pf tk (eB false) rfl rfl rfl (mm tk (eB false) rfl rfl (k_ rfl (k_ rfl (k_ rfl (k_ rfl ?_))))))))
               refine pf tk (eB false) rfl rfl rfl (ma tk (eB false) rfl rfl (wpo_nil (awp_ret ?_)))
               obtain rfl := oi H77
               exact ⟨_, (eB false), rfl, wr, .of_eq ((enc_b td4 sz4).cut _ _ _), ((((hH.noT.drop n53).drop n47).drop n42).drop n5)⟩
             ·rw [hb]
              refine k_ rfl (k_ rfl (k_ rfl (pf tk (eB false) rfl rfl rfl (mm tk (eB false) rfl rfl (k_ rfl (k_ rfl (pf tk (eB false) rfl rfl rfl (mm tk (eB false) rfl rfl ?_))))))))
              refine k_ rfl (k_ rfl (pf tk (eB false) rfl rfl rfl (mm tk (eB false) rfl rfl (k_ rfl (k_ rfl (k_ rfl (k_ rfl (pf tk (eB false) rfl rfl rfl ?_))))))))
              refine mm tk (eB false) rfl rfl (k_ rfl (k_ rfl (k_ rfl (k_ rfl (pf tk (eB false) rfl rfl rfl (ma tk (eB false) rfl rfl (wpo_nil (awp_ret ?_))))))))
              obtain rfl := oi H74
              exact ⟨_, (eB false), rfl, wr, .of_eq ((enc_b td4 sz4).cut _ _ _), ((((hH.noT.drop n53).drop n47).drop n42).drop n5)⟩
            ·subst hb
             refine k_ rfl (pf tk (eB false) rfl rfl rfl (mm tk (eB false) rfl rfl (k_ rfl (k_ rfl (k_ rfl (pf tk (eB false) rfl rfl rfl (mm tk (eB false) rfl rfl (k_ rfl ?_))))))))
             refine k_ rfl (pf tk (eB false) rfl rfl rfl (mm tk (eB false) rfl rfl (k_ rfl (k_ rfl (pf tk (eB false) rfl rfl rfl (mm tk (eB false) rfl rfl (k_ rfl (k_ rfl ?_))))))))
             refine k_ rfl (k_ rfl (pf tk (eB false) rfl rfl rfl (mm tk (eB false) rfl rfl (k_ rfl (k_ rfl (k_ rfl (k_ rfl (pf tk (eB false) rfl rfl rfl ?_))))))))
             refine ma tk (eB false) rfl rfl (wpo_nil (awp_ret ?_))
             obtain rfl := oi H73
             exact ⟨_, (eB false), rfl, wr, .of_eq ((enc_b td4 sz4).cut _ _ _), ((((hH.noT.drop n53).drop n47).drop n42).drop n5)⟩
           ·rw [hb]
            refine k_ rfl (k_ rfl (k_ rfl (pf tk (eB false) rfl rfl rfl (mm tk (eB false) rfl rfl (k_ rfl (pf tk (eB false) rfl rfl rfl (mm tk (eB false) rfl rfl (k_ rfl ?_))))))))
            refine k_ rfl (k_ rfl (pf tk (eB false) rfl rfl rfl (mm tk (eB false) rfl rfl (k_ rfl (k_ rfl (pf tk (eB false) rfl rfl rfl (mm tk (eB false) rfl rfl (k_ rfl ?_))))))))
            refine k_ rfl (pf tk (eB false) rfl rfl rfl (mm tk (eB false) rfl rfl (k_ rfl (k_ rfl (k_ rfl (k_ rfl (pf tk (eB false) rfl rfl rfl (mm tk (eB false) rfl rfl ?_))))))))
            refine k_ rfl (k_ rfl (k_ rfl (k_ rfl (pf tk (eB false) rfl rfl rfl (ma tk (eB false) rfl rfl (wpo_nil (awp_ret ?_)))))))
            obtain rfl := oi H70
            exact ⟨_, (eB false), rfl, wr, .of_eq ((enc_b td4 sz4).cut _ _ _), ((((hH.noT.drop n53).drop n47).drop n42).drop n5)⟩
          ·subst hb
           refine k_ rfl (pf tk (eB false) rfl rfl rfl (mm tk (eB false) rfl rfl (k_ rfl (k_ rfl (k_ rfl (pf tk (eB false) rfl rfl rfl (mm tk (eB false) rfl rfl (k_ rfl ?_))))))))
           refine pf tk (eB false) rfl rfl rfl (mm tk (eB false) rfl rfl (k_ rfl (k_ rfl (k_ rfl (pf tk (eB false) rfl rfl rfl (mm tk (eB false) rfl rfl (k_ rfl (k_ rfl ?_))))))))
           refine pf tk (eB false) rfl rfl rfl (mm tk (eB false) rfl rfl (k_ rfl (k_ rfl (pf tk (eB false) rfl rfl rfl (mm tk (eB false) rfl rfl (k_ rfl (k_ rfl (k_ rfl ?_))))))))
           refine k_ rfl (pf tk (eB false) rfl rfl rfl (mm tk (eB false) rfl rfl (k_ rfl (k_ rfl (k_ rfl (k_ rfl (pf tk (eB false) rfl rfl rfl (ma tk (eB false) rfl rfl ?_))))))))
           refine wpo_nil (awp_ret ?_)
           obtain rfl := oi H69
           exact ⟨_, (eB false), rfl, wr, .of_eq ((enc_b td4 sz4).cut _ _ _), ((((hH.noT.drop n53).drop n47).drop n42).drop n5)⟩
         ·rw [hb]
          refine k_ rfl (k_ rfl (k_ rfl (pf tk (eB false) rfl rfl rfl (mm tk (eB false) rfl rfl (k_ rfl (pf tk (eB false) rfl rfl rfl (mm tk (eB false) rfl rfl (k_ rfl ?_))))))))
          refine k_ rfl (k_ rfl (pf tk (eB false) rfl rfl rfl (mm tk (eB false) rfl rfl (k_ rfl (pf tk (eB false) rfl rfl rfl (mm tk (eB false) rfl rfl (k_ rfl (k_ rfl ?_))))))))
          refine k_ rfl (pf tk (eB false) rfl rfl rfl (mm tk (eB false) rfl rfl (k_ rfl (k_ rfl (pf tk (eB false) rfl rfl rfl (mm tk (eB false) rfl rfl (k_ rfl (k_ rfl ?_))))))))
          refine pf tk (eB false) rfl rfl rfl (mm tk (eB false) rfl rfl (k_ rfl (k_ rfl (k_ rfl (k_ rfl (pf tk (eB false) rfl rfl rfl (mm tk (eB false) rfl rfl (k_ rfl ?_))))))))
          refine k_ rfl (k_ rfl (k_ rfl (pf tk (eB false) rfl rfl rfl (ma tk (eB false) rfl rfl (wpo_nil (awp_ret ?_))))))
          obtain rfl := oi H66
          exact ⟨_, (eB false), rfl, wr, .of_eq ((enc_b td4 sz4).cut _ _ _), ((((hH.noT.drop n53).drop n47).drop n42).drop n5)⟩
        ·rw [hb]
         refine k_ rfl (pf tk (eB false) rfl rfl rfl (mm tk (eB false) rfl rfl (k_ rfl (k_ rfl (k_ rfl (pf tk (eB false) rfl rfl rfl (mm tk (eB false) rfl rfl (k_ rfl ?_))))))))
         refine pf tk (eB false) rfl rfl rfl (mm tk (eB false) rfl rfl (k_ rfl (k_ rfl (k_ rfl (pf tk (eB false) rfl rfl rfl (mm tk (eB false) rfl rfl (k_ rfl (pf tk (eB false) rfl rfl rfl ?_))))))))
         refine mm tk (eB false) rfl rfl (k_ rfl (k_ rfl (k_ rfl (pf tk (eB false) rfl rfl rfl (mm tk (eB false) rfl rfl (k_ rfl (k_ rfl (pf tk (eB false) rfl rfl rfl ?_))))))))
         refine mm tk (eB false) rfl rfl (k_ rfl (k_ rfl (pf tk (eB false) rfl rfl rfl (mm tk (eB false) rfl rfl (k_ rfl (k_ rfl (k_ rfl (k_ rfl ?_))))))))
         refine pf tk (eB false) rfl rfl rfl (mm tk (eB false) rfl rfl (k_ rfl (k_ rfl (k_ rfl (k_ rfl (pf tk (eB false) rfl rfl rfl (ma tk (eB false) rfl rfl (wpo_nil ?_))))))))
         refine awp_ret ?_
         obtain rfl := oi H65
         exact ⟨_, (eB false), rfl, wr, .of_eq ((enc_b td4 sz4).cut _ _ _), ((((hH.noT.drop n53).drop n47).drop n42).drop n5)⟩
       ·subst hb
        refine k_ rfl (pf tk (eB false) rfl rfl rfl (mm tk (eB false) rfl rfl (k_ rfl (pf tk (eB false) rfl rfl rfl (mm tk (eB false) rfl rfl (k_ rfl (k_ rfl (k_ rfl ?_))))))))
        refine pf tk (eB false) rfl rfl rfl (mm tk (eB false) rfl rfl (k_ rfl (pf tk (eB false) rfl rfl rfl (mm tk (eB false) rfl rfl (k_ rfl (k_ rfl (k_ rfl (pf tk (eB false) rfl rfl rfl ?_))))))))
        refine mm tk (eB false) rfl rfl (k_ rfl (pf tk (eB false) rfl rfl rfl (mm tk (eB false) rfl rfl (k_ rfl (k_ rfl (k_ rfl (pf tk (eB false) rfl rfl rfl (mm tk (eB false) rfl rfl ?_))))))))
        refine k_ rfl (k_ rfl (pf tk (eB false) rfl rfl rfl (mm tk (eB false) rfl rfl (k_ rfl (k_ rfl (pf tk (eB false) rfl rfl rfl (mm tk (eB false) rfl rfl (k_ rfl ?_))))))))
        refine k_ rfl (k_ rfl (k_ rfl (pf tk (eB false) rfl rfl rfl (mm tk (eB false) rfl rfl (k_ rfl (k_ rfl (k_ rfl (k_ rfl ?_))))))))
        refine pf tk (eB false) rfl rfl rfl (ma tk (eB false) rfl rfl (wpo_nil (awp_ret ?_)))
        obtain rfl := oi H64
        exact ⟨_, (eB false), rfl, wr, .of_eq ((enc_b td4 sz4).cut _ _ _), ((((hH.noT.drop n53).drop n47).drop n42).drop n5)⟩
      ·rw [hb]
       refine k_ rfl (k_ rfl (pf tk (eB false) rfl rfl rfl (mm tk (eB false) rfl rfl (k_ rfl (pf tk (eB false) rfl rfl rfl (mm tk (eB false) rfl rfl (k_ rfl (pf tk (eB false) rfl rfl rfl ?_))))))))
       refine mm tk (eB false) rfl rfl (k_ rfl (k_ rfl (k_ rfl (pf tk (eB false) rfl rfl rfl (mm tk (eB false) rfl rfl (k_ rfl (pf tk (eB false) rfl rfl rfl (mm tk (eB false) rfl rfl ?_))))))))
       refine k_ rfl (k_ rfl (k_ rfl (pf tk (eB false) rfl rfl rfl (mm tk (eB false) rfl rfl (k_ rfl (pf tk (eB false) rfl rfl rfl (mm tk (eB false) rfl rfl (k_ rfl ?_))))))))
       refine k_ rfl (k_ rfl (pf tk (eB false) rfl rfl rfl (mm tk (eB false) rfl rfl (k_ rfl (k_ rfl (pf tk (eB false) rfl rfl rfl (mm tk (eB false) rfl rfl (k_ rfl ?_))))))))
       refine k_ rfl (pf tk (eB false) rfl rfl rfl (mm tk (eB false) rfl rfl (k_ rfl (k_ rfl (k_ rfl (k_ rfl (pf tk (eB false) rfl rfl rfl (mm tk (eB false) rfl rfl ?_))))))))
       refine k_ rfl (k_ rfl (k_ rfl (k_ rfl (pf tk (eB false) rfl rfl rfl (ma tk (eB false) rfl rfl (wpo_nil (awp_ret ?_)))))))
       obtain rfl := oi H61
       exact ⟨_, (eB false), rfl, wr, .of_eq ((enc_b td4 sz4).cut _ _ _), ((((hH.noT.drop n53).drop n47).drop n42).drop n5)⟩
     ·rw [hb]
      refine k_ rfl (pf tk (eB false) rfl rfl rfl (mm tk (eB false) rfl rfl (k_ rfl (k_ rfl (pf tk (eB false) rfl rfl rfl (mm tk (eB false) rfl rfl (k_ rfl (pf tk (eB false) rfl rfl rfl ?_))))))))
      refine mm tk (eB false) rfl rfl (k_ rfl (pf tk (eB false) rfl rfl rfl (mm tk (eB false) rfl rfl (k_ rfl (k_ rfl (k_ rfl (pf tk (eB false) rfl rfl rfl (mm tk (eB false) rfl rfl ?_))))))))
      refine k_ rfl (pf tk (eB false) rfl rfl rfl (mm tk (eB false) rfl rfl (k_ rfl (k_ rfl (k_ rfl (pf tk (eB false) rfl rfl rfl (mm tk (eB false) rfl rfl (k_ rfl ?_))))))))
      refine pf tk (eB false) rfl rfl rfl (mm tk (eB false) rfl rfl (k_ rfl (k_ rfl (k_ rfl (pf tk (eB false) rfl rfl rfl (mm tk (eB false) rfl rfl (k_ rfl (k_ rfl ?_))))))))
      refine pf tk (eB false) rfl rfl rfl (mm tk (eB false) rfl rfl (k_ rfl (k_ rfl (pf tk (eB false) rfl rfl rfl (mm tk (eB false) rfl rfl (k_ rfl (k_ rfl (k_ rfl ?_))))))))
      refine k_ rfl (pf tk (eB false) rfl rfl rfl (mm tk (eB false) rfl rfl (k_ rfl (k_ rfl (k_ rfl (k_ rfl (pf tk (eB false) rfl rfl rfl (ma tk (eB false) rfl rfl ?_))))))))
      refine wpo_nil (awp_ret ?_)
      obtain rfl := oi H60
      exact ⟨_, (eB false), rfl, wr, .of_eq ((enc_b td4 sz4).cut _ _ _), ((((hH.noT.drop n53).drop n47).drop n42).drop n5)⟩
    ·subst hb
     refine k_ rfl (pf tk (eB false) rfl rfl rfl (mm tk (eB false) rfl rfl (k_ rfl (pf tk (eB false) rfl rfl rfl (mm tk (eB false) rfl rfl (k_ rfl (k_ rfl (pf tk (eB false) rfl rfl rfl ?_))))))))
     refine mm tk (eB false) rfl rfl (k_ rfl (pf tk (eB false) rfl rfl rfl (mm tk (eB false) rfl rfl (k_ rfl (pf tk (eB false) rfl rfl rfl (mm tk (eB false) rfl rfl (k_ rfl (k_ rfl ?_))))))))
     refine k_ rfl (pf tk (eB false) rfl rfl rfl (mm tk (eB false) rfl rfl (k_ rfl (pf tk (eB false) rfl rfl rfl (mm tk (eB false) rfl rfl (k_ rfl (k_ rfl (k_ rfl ?_))))))))
     refine pf tk (eB false) rfl rfl rfl (mm tk (eB false) rfl rfl (k_ rfl (pf tk (eB false) rfl rfl rfl (mm tk (eB false) rfl rfl (k_ rfl (k_ rfl (k_ rfl (pf tk (eB false) rfl rfl rfl ?_))))))))
     refine mm tk (eB false) rfl rfl (k_ rfl (k_ rfl (pf tk (eB false) rfl rfl rfl (mm tk (eB false) rfl rfl (k_ rfl (k_ rfl (pf tk (eB false) rfl rfl rfl (mm tk (eB false) rfl rfl ?_))))))))
     refine k_ rfl (k_ rfl (k_ rfl (k_ rfl (pf tk (eB false) rfl rfl rfl (mm tk (eB false) rfl rfl (k_ rfl (k_ rfl (k_ rfl ?_))))))))
     refine k_ rfl (pf tk (eB false) rfl rfl rfl (ma tk (eB false) rfl rfl (wpo_nil (awp_ret ?_))))
     obtain rfl := oi H59
     exact ⟨_, (eB false), rfl, wr, .of_eq ((enc_b td4 sz4).cut _ _ _), ((((hH.noT.drop n53).drop n47).drop n42).drop n5)⟩
  ·rw [hz22, Option.elim_some] at H17
   refine wpo_a (av := fun id => .tup [.ref id 0, (eErr v18.2)]) rfl rfl rfl (h_callno1 hH hz22 rfl rfl (.cons wr .nil) (jobs_New_ok hvv18 _)) fun id20 τ ⟨hH, n21⟩ => ?_
   have hH : Holds σ [(id20, [(eI ({ c19 with down_l := [], up_l := [] } : jobs_Jobs).down_limit), (.fn (.func 24) [] []), AV.nils, (eI ({ c19 with down_l := [], up_l := [] } : jobs_Jobs).up_limit), (.fn (.func 25) [] []), AV.nils]), (id4, [(eI ({ c3 with down_l := [], up_l := [] } : jobs_Jobs).down_limit), (.fn (.func 24) [] []), (eT tk15 5 e_api_Entry ({ c3 with down_l := [], up_l := [] } : jobs_Jobs).down_l), (eI ({ c3 with down_l := [], up_l := [] } : jobs_Jobs).up_limit), (.fn (.func 25) [] []), (eT tk16 1 eS ({ c3 with down_l := [], up_l := [] } : jobs_Jobs).up_l)])] [tk16, tk15] τ := hH
   refine mm tk (.tup [(.ref id20 0), (eErr v18.2)]) rfl rfl (m_ (.ref id20 0) rfl (o_ext tk rfl rfl) (m_ (eErr v18.2) rfl (o_ext tk rfl rfl) (ma tk (.ref id20 0) rfl rfl (ma tk (eErr v18.2) rfl rfl (wpo_nil (awp_seq (awp_seq ?_)))))))
   refine AWP.tokO hH 0 rfl (c1 := fun tk99 => [(eI ({ c19 with down_l := [], up_l := [] } : jobs_Jobs).down_limit), (.fn (.func 24) [] []), (eT tk99 5 e_api_Entry ({ c19 with down_l := [], up_l := [] } : jobs_Jobs).down_l), (eI ({ c19 with down_l := [], up_l := [] } : jobs_Jobs).up_limit), (.fn (.func 25) [] []), AV.nils]) (fun _ => (.same (.same (.tok (.same (.same (.same .nil))))))) fun tk99 τ (hH : Holds σ [(id20, [(eI ({ c19 with down_l := [], up_l := [] } : jobs_Jobs).down_limit), (.fn (.func 24) [] []), (eT tk99 5 e_api_Entry ({ c19 with down_l := [], up_l := [] } : jobs_Jobs).down_l), (eI ({ c19 with down_l := [], up_l := [] } : jobs_Jobs).up_limit), (.fn (.func 25) [] []), AV.nils]), (id4, [(eI ({ c3 with down_l := [], up_l := [] } : jobs_Jobs).down_limit), (.fn (.func 24) [] []), (eT tk15 5 e_api_Entry ({ c3 with down_l := [], up_l := [] } : jobs_Jobs).down_l), (eI ({ c3 with down_l := [], up_l := [] } : jobs_Jobs).up_limit), (.fn (.func 25) [] []), (eT tk16 1 eS ({ c3 with down_l := [], up_l := [] } : jobs_Jobs).up_l)])] [tk99, tk16, tk15] τ) => ?_
   refine AWP.tokO hH 0 rfl (c1 := fun tk100 => [(eI ({ c19 with down_l := [], up_l := [] } : jobs_Jobs).down_limit), (.fn (.func 24) [] []), (eT tk99 5 e_api_Entry ({ c19 with down_l := [], up_l := [] } : jobs_Jobs).down_l), (eI ({ c19 with down_l := [], up_l := [] } : jobs_Jobs).up_limit), (.fn (.func 25) [] []), (eT tk100 1 eS ({ c19 with down_l := [], up_l := [] } : jobs_Jobs).up_l)]) (fun _ => (.same (.same (.same (.same (.same (.tok .nil))))))) fun tk100 τ (hH : Holds σ [(id20, [(eI ({ c19 with down_l := [], up_l := [] } : jobs_Jobs).down_limit), (.fn (.func 24) [] []), (eT tk99 5 e_api_Entry ({ c19 with down_l := [], up_l := [] } : jobs_Jobs).down_l), (eI ({ c19 with down_l := [], up_l := [] } : jobs_Jobs).up_limit), (.fn (.func 25) [] []), (eT tk100 1 eS ({ c19 with down_l := [], up_l := [] } : jobs_Jobs).up_l)]), (id4, [(eI ({ c3 with down_l := [], up_l := [] } : jobs_Jobs).down_limit), (.fn (.func 24) [] []), (eT tk15 5 e_api_Entry ({ c3 with down_l := [], up_l := [] } : jobs_Jobs).down_l), (eI ({ c3 with down_l := [], up_l := [] } : jobs_Jobs).up_limit), (.fn (.func 25) [] []), (eT tk16 1 eS ({ c3 with down_l := [], up_l := [] } : jobs_Jobs).up_l)])] [tk100, tk99, tk16, tk15] τ) => ?_
   refine awp_region rfl (mm tk (.ref id4 0) rfl rfl (mc tk (eB false) rfl rfl (fun _ => rfl) (mm tk (eB false) rfl rfl (mm tk (eErr v2.2) rfl rfl ?_))))
   refine l_ H17 eB rfl (o_err_neq tk rfl rfl rfl) fun v102 H101 => ?_
   refine pf tk (eB v102) rfl rfl rfl (wpo_nil ?_)
   refine awp_if H101 rfl (fun H103 => ?_) (fun H103 => ?_)
   ·refine sr rfl (ma tk (eB false) rfl rfl (wpo_nil (awp_ret ?_)))
    obtain rfl := oi H103
    exact ⟨_, (eB false), rfl, wr, .of_eq ((enc_b td4 sz4).cut _ _ _), ((hH.noT.drop n21).drop n5)⟩
   ·refine awp_skip (sr rfl (mm tk (.ref id4 0) rfl rfl (mc tk (.agg [(eS (⟨([97#8] : List (BitVec 8)), (1 : Int), (1 : Int), (0 : Int), ([] : List (BitVec 8))⟩ : api_Entry).Key), (eI (⟨([97#8] : List (BitVec 8)), (1 : Int), (1 : Int), (0 : Int), ([] : List (BitVec 8))⟩ : api_Entry).Version), (eI (⟨([97#8] : List (BitVec 8)), (1 : Int), (1 : Int), (0 : Int), ([] : List (BitVec 8))⟩ : api_Entry).AsOf), (eI (⟨([97#8] : List (BitVec 8)), (1 : Int), (1 : Int), (0 : Int), ([] : List (BitVec 8))⟩ : api_Entry).Ends), AV.nils]) rfl rfl (fun _ => rfl) ?_)))
    refine wpo_cb H103 (fun x _ => eB x.1) rfl rfl rfl (fun v105 hv => h_callT hH [tk100, tk99] 2 ((perm_at 3 rfl).trans (.cons _ ((perm_at 2 rfl).trans (.cons _ (.refl _))))) (fun g => [(1, (id4, [(eI v105.2.down_limit), (.fn (.func 24) [] []), (eT (g 0) 5 e_api_Entry v105.2.down_l), (eI v105.2.up_limit), (.fn (.func 25) [] []), (eT (g 1) 1 eS v105.2.up_l)]))]) (fun _ => ⟨⟨_, rfl⟩, trivial⟩) rfl rfl (.cons wr (.cons (wk_agg (.cons wr (.cons wr (.cons wr (.cons wr (.cons (wk_nils _) .nil)))))) .nil)) (jobs_Jobs_Push_ok hv _ (hH.at_ 1 rfl) (hH.pw [1] rfl (by decide)) (hH.open_ 3 rfl) (hH.open_ 2 rfl) (hH.tnin 3 2 rfl rfl (by decide)))) fun v105 tk106 τ hv105 H104 (hH : Holds σ [(id20, [(eI ({ c19 with down_l := [], up_l := [] } : jobs_Jobs).down_limit), (.fn (.func 24) [] []), (eT tk99 5 e_api_Entry ({ c19 with down_l := [], up_l := [] } : jobs_Jobs).down_l), (eI ({ c19 with down_l := [], up_l := [] } : jobs_Jobs).up_limit), (.fn (.func 25) [] []), (eT tk100 1 eS ({ c19 with down_l := [], up_l := [] } : jobs_Jobs).up_l)]), (id4, [(eI v105.2.down_limit), (.fn (.func 24) [] []), (eT (tk106 + 0) 5 e_api_Entry v105.2.down_l), (eI v105.2.up_limit), (.fn (.func 25) [] []), (eT (tk106 + 1) 1 eS v105.2.up_l)])] [(tk106 + 0), (tk106 + 1), tk100, tk99] τ) => ?_
    refine ma tk (eB v105.1) rfl rfl (wpo_nil (sr rfl (mm tk (.ref id4 0) rfl rfl (mc tk (.agg [(eS (⟨([98#8] : List (BitVec 8)), (1 : Int), (1 : Int), (0 : Int), ([] : List (BitVec 8))⟩ : api_Entry).Key), (eI (⟨([98#8] : List (BitVec 8)), (1 : Int), (1 : Int), (0 : Int), ([] : List (BitVec 8))⟩ : api_Entry).Version), (eI (⟨([98#8] : List (BitVec 8)), (1 : Int), (1 : Int), (0 : Int), ([] : List (BitVec 8))⟩ : api_Entry).AsOf), (eI (⟨([98#8] : List (BitVec 8)), (1 : Int), (1 : Int), (0 : Int), ([] : List (BitVec 8))⟩ : api_Entry).Ends), AV.nils]) rfl rfl (fun _ => rfl) ?_))))
    refine wpo_cb H104 (fun x _ => eB x.1) rfl rfl rfl (fun v108 hv => h_callT hH [tk100, tk99] 2 ((perm_at 0 rfl).trans (.cons _ ((perm_at 0 rfl).trans (.cons _ (.refl _))))) (fun g => [(1, (id4, [(eI v108.2.down_limit), (.fn (.func 24) [] []), (eT (g 0) 5 e_api_Entry v108.2.down_l), (eI v108.2.up_limit), (.fn (.func 25) [] []), (eT (g 1) 1 eS v108.2.up_l)]))]) (fun _ => ⟨⟨_, rfl⟩, trivial⟩) rfl rfl (.cons wr (.cons (wk_agg (.cons wr (.cons wr (.cons wr (.cons wr (.cons (wk_nils _) .nil)))))) .nil)) (jobs_Jobs_Push_ok hv _ (hH.at_ 1 rfl) (hH.pw [1] rfl (by decide)) (hH.open_ 0 rfl) (hH.open_ 1 rfl) (hH.tnin 0 1 rfl rfl (by decide)))) fun v108 tk109 τ hv108 H107 (hH : Holds σ [(id20, [(eI ({ c19 with down_l := [], up_l := [] } : jobs_Jobs).down_limit), (.fn (.func 24) [] []), (eT tk99 5 e_api_Entry ({ c19 with down_l := [], up_l := [] } : jobs_Jobs).down_l), (eI ({ c19 with down_l := [], up_l := [] } : jobs_Jobs).up_limit), (.fn (.func 25) [] []), (eT tk100 1 eS ({ c19 with down_l := [], up_l := [] } : jobs_Jobs).up_l)]), (id4, [(eI v108.2.down_limit), (.fn (.func 24) [] []), (eT (tk109 + 0) 5 e_api_Entry v108.2.down_l), (eI v108.2.up_limit), (.fn (.func 25) [] []), (eT (tk109 + 1) 1 eS v108.2.up_l)])] [(tk109 + 0), (tk109 + 1), tk100, tk99] τ) => ?_
    refine ma tk (eB v108.1) rfl rfl (wpo_nil (sr rfl (mm tk (.ref id4 0) rfl rfl (mc tk (.agg [(eS (⟨([99#8] : List (BitVec 8)), (1 : Int), (1 : Int), (0 : Int), ([] : List (BitVec 8))⟩ : api_Entry).Key), (eI (⟨([99#8] : List (BitVec 8)), (1 : Int), (1 : Int), (0 : Int), ([] : List (BitVec 8))⟩ : api_Entry).Version), (eI (⟨([99#8] : List (BitVec 8)), (1 : Int), (1 : Int), (0 : Int), ([] : List (BitVec 8))⟩ : api_Entry).AsOf), (eI (⟨([99#8] : List (BitVec 8)), (1 : Int), (1 : Int), (0 : Int), ([] : List (BitVec 8))⟩ : api_Entry).Ends), AV.nils]) rfl rfl (fun _ => rfl) ?_))))
    refine wpo_cb H107 (fun x _ => eB x.1) rfl rfl rfl (fun v111 hv => h_callT hH [tk100, tk99] 2 ((perm_at 0 rfl).trans (.cons _ ((perm_at 0 rfl).trans (.cons _ (.refl _))))) (fun g => [(1, (id4, [(eI v111.2.down_limit), (.fn (.func 24) [] []), (eT (g 0) 5 e_api_Entry v111.2.down_l), (eI v111.2.up_limit), (.fn (.func 25) [] []), (eT (g 1) 1 eS v111.2.up_l)]))]) (fun _ => ⟨⟨_, rfl⟩, trivial⟩) rfl rfl (.cons wr (.cons (wk_agg (.cons wr (.cons wr (.cons wr (.cons wr (.cons (wk_nils _) .nil)))))) .nil)) (jobs_Jobs_Push_ok hv _ (hH.at_ 1 rfl) (hH.pw [1] rfl (by decide)) (hH.open_ 0 rfl) (hH.open_ 1 rfl) (hH.tnin 0 1 rfl rfl (by decide)))) fun v111 tk112 τ hv111 H110 (hH : Holds σ [(id20, [(eI ({ c19 with down_l := [], up_l := [] } : jobs_Jobs).down_limit), (.fn (.func 24) [] []), (eT tk99 5 e_api_Entry ({ c19 with down_l := [], up_l := [] } : jobs_Jobs).down_l), (eI ({ c19 with down_l := [], up_l := [] } : jobs_Jobs).up_limit), (.fn (.func 25) [] []), (eT tk100 1 eS ({ c19 with down_l := [], up_l := [] } : jobs_Jobs).up_l)]), (id4, [(eI v111.2.down_limit), (.fn (.func 24) [] []), (eT (tk112 + 0) 5 e_api_Entry v111.2.down_l), (eI v111.2.up_limit), (.fn (.func 25) [] []), (eT (tk112 + 1) 1 eS v111.2.up_l)])] [(tk112 + 0), (tk112 + 1), tk100, tk99] τ) => ?_
    refine ma tk (eB v111.1) rfl rfl (wpo_nil (sr rfl (mm tk (.ref id4 0) rfl rfl (mc tk (.agg [(eS (⟨([97#8] : List (BitVec 8)), (2 : Int), (2 : Int), (0 : Int), ([] : List (BitVec 8))⟩ : api_Entry).Key), (eI (⟨([97#8] : List (BitVec 8)), (2 : Int), (2 : Int), (0 : Int), ([] : List (BitVec 8))⟩ : api_Entry).Version), (eI (⟨([97#8] : List (BitVec 8)), (2 : Int), (2 : Int), (0 : Int), ([] : List (BitVec 8))⟩ : api_Entry).AsOf), (eI (⟨([97#8] : List (BitVec 8)), (2 : Int), (2 : Int), (0 : Int), ([] : List (BitVec 8))⟩ : api_Entry).Ends), AV.nils]) rfl rfl (fun _ => rfl) ?_))))
    refine wpo_cb H110 (fun x _ => eB x.1) rfl rfl rfl (fun v114 hv => h_callT hH [tk100, tk99] 2 ((perm_at 0 rfl).trans (.cons _ ((perm_at 0 rfl).trans (.cons _ (.refl _))))) (fun g => [(1, (id4, [(eI v114.2.down_limit), (.fn (.func 24) [] []), (eT (g 0) 5 e_api_Entry v114.2.down_l), (eI v114.2.up_limit), (.fn (.func 25) [] []), (eT (g 1) 1 eS v114.2.up_l)]))]) (fun _ => ⟨⟨_, rfl⟩, trivial⟩) rfl rfl (.cons wr (.cons (wk_agg (.cons wr (.cons wr (.cons wr (.cons wr (.cons (wk_nils _) .nil)))))) .nil)) (jobs_Jobs_Push_ok hv _ (hH.at_ 1 rfl) (hH.pw [1] rfl (by decide)) (hH.open_ 0 rfl) (hH.open_ 1 rfl) (hH.tnin 0 1 rfl rfl (by decide)))) fun v114 tk115 τ hv114 H113 (hH : Holds σ [(id20, [(eI ({ c19 with down_l := [], up_l := [] } : jobs_Jobs).down_limit), (.fn (.func 24) [] []), (eT tk99 5 e_api_Entry ({ c19 with down_l := [], up_l := [] } : jobs_Jobs).down_l), (eI ({ c19 with down_l := [], up_l := [] } : jobs_Jobs).up_limit), (.fn (.func 25) [] []), (eT tk100 1 eS ({ c19 with down_l := [], up_l := [] } : jobs_Jobs).up_l)]), (id4, [(eI v114.2.down_limit), (.fn (.func 24) [] []), (eT (tk115 + 0) 5 e_api_Entry v114.2.down_l), (eI v114.2.up_limit), (.fn (.func 25) [] []), (eT (tk115 + 1) 1 eS v114.2.up_l)])] [(tk115 + 0), (tk115 + 1), tk100, tk99] τ) => ?_
    refine ma tk (eB v114.1) rfl rfl (wpo_nil (sr rfl (mm tk (.ref id4 0) rfl rfl ?_)))
    refine wpo_cb H113 (fun x _ => .tup [e_api_Entry x.1, eB x.2.1]) rfl rfl rfl (fun v117 hv => h_callT hH [tk100, tk99] 2 ((perm_at 0 rfl).trans (.cons _ ((perm_at 0 rfl).trans (.cons _ (.refl _))))) (fun g => [(1, (id4, [(eI v117.2.2.down_limit), (.fn (.func 24) [] []), (eT (g 0) 5 e_api_Entry v117.2.2.down_l), (eI v117.2.2.up_limit), (.fn (.func 25) [] []), (eT (g 1) 1 eS v117.2.2.up_l)]))]) (fun _ => ⟨⟨_, rfl⟩, trivial⟩) rfl rfl (.cons wr .nil) (jobs_Jobs_Pop_ok hv _ (hH.at_ 1 rfl) (hH.pw [1] rfl (by decide)) (hH.open_ 0 rfl) (hH.open_ 1 rfl) (hH.tnin 0 1 rfl rfl (by decide)))) fun v117 tk118 τ hv117 H116 (hH : Holds σ [(id20, [(eI ({ c19 with down_l := [], up_l := [] } : jobs_Jobs).down_limit), (.fn (.func 24) [] []), (eT tk99 5 e_api_Entry ({ c19 with down_l := [], up_l := [] } : jobs_Jobs).down_l), (eI ({ c19 with down_l := [], up_l := [] } : jobs_Jobs).up_limit), (.fn (.func 25) [] []), (eT tk100 1 eS ({ c19 with down_l := [], up_l := [] } : jobs_Jobs).up_l)]), (id4, [(eI v117.2.2.down_limit), (.fn (.func 24) [] []), (eT (tk118 + 0) 5 e_api_Entry v117.2.2.down_l), (eI v117.2.2.up_limit), (.fn (.func 25) [] []), (eT (tk118 + 1) 1 eS v117.2.2.up_l)])] [(tk118 + 0), (tk118 + 1), tk100, tk99] τ) => ?_
    refine mm tk (.tup [(e_api_Entry v117.1), (eB v117.2.1)]) rfl rfl (m_ (e_api_Entry v117.1) rfl (o_ext tk rfl rfl) (m_ (eB v117.2.1) rfl (o_ext tk rfl rfl) ?_))
    refine wpo_a (av := fun id => .ref id 0) rfl rfl rfl (h_alloc tk hH ty42 [(eS z_api_Entry.Key), (eI z_api_Entry.Version), (eI z_api_Entry.AsOf), (eI z_api_Entry.Ends), AV.nils] rfl) fun id119 τ ⟨hH, n120⟩ => ?_
    refine wpo_z rfl rfl (h_st tk hH 0 rfl ty42 (by simp) rfl rfl wr (b := (e_api_Entry v117.1)) (enc42.flat _) rfl (nb rfl) (c_api_Entry (v117.1 : api_Entry)) rfl) fun τ hH => ?_
    refine ma tk (eB v117.2.1) rfl rfl (wpo_nil (sr rfl (mm tk (.ref id4 0) rfl rfl ?_)))
    refine wpo_bdr H116 (fun r => .tup [e_api_Entry r.1, eB r.2]) rfl rfl rfl (fun v123 hv => h_callr rfl rfl (.cons wr (.cons wr .nil)) (jobs_Jobs_Find_ok hv _ (hH.at_ 2 rfl) (hH.pw [2] rfl (by decide)))) fun v123 hv123 H122 => ?_
    refine mm tk (.tup [(e_api_Entry v123.1), (eB v123.2)]) rfl rfl (m_ (e_api_Entry v123.1) rfl (o_ext tk rfl rfl) (m_ (eB v123.2) rfl (o_ext tk rfl rfl) ?_))
    refine wpo_a (av := fun id => .ref id 0) rfl rfl rfl (h_alloc tk hH ty42 [(eS z_api_Entry.Key), (eI z_api_Entry.Version), (eI z_api_Entry.AsOf), (eI z_api_Entry.Ends), AV.nils] rfl) fun id124 τ ⟨hH, n125⟩ => ?_
    refine wpo_z rfl rfl (h_st tk hH 0 rfl ty42 (by simp) rfl rfl wr (b := (e_api_Entry v123.1)) (enc42.flat _) rfl (nb rfl) (c_api_Entry (v123.1 : api_Entry)) rfl) fun τ hH => ?_
    refine ma tk (eB v123.2) rfl rfl (wpo_nil (sr rfl (mm tk (.ref id4 0) rfl rfl ?_)))
    refine wpo_cb H122 (fun x _ => .tup [e_api_Entry x.1, eB x.2.1]) rfl rfl rfl (fun v128 hv => h_callT hH [tk100, tk99] 2 ((perm_at 0 rfl).trans (.cons _ ((perm_at 0 rfl).trans (.cons _ (.refl _))))) (fun g => [(3, (id4, [(eI v128.2.2.down_limit), (.fn (.func 24) [] []), (eT (g 0) 5 e_api_Entry v128.2.2.down_l), (eI v128.2.2.up_limit), (.fn (.func 25) [] []), (eT (g 1) 1 eS v128.2.2.up_l)]))]) (fun _ => ⟨⟨_, rfl⟩, trivial⟩) rfl rfl (.cons wr (.cons wr .nil)) (jobs_Jobs_Drop_ok hv _ (hH.at_ 3 rfl) (hH.pw [3] rfl (by decide)) (hH.open_ 0 rfl) (hH.open_ 1 rfl) (hH.tnin 0 1 rfl rfl (by decide)))) fun v128 tk129 τ hv128 H127 (hH : Holds σ [(id124, (c_api_Entry (v123.1 : api_Entry))), (id119, (c_api_Entry (v117.1 : api_Entry))), (id20, [(eI ({ c19 with down_l := [], up_l := [] } : jobs_Jobs).down_limit), (.fn (.func 24) [] []), (eT tk99 5 e_api_Entry ({ c19 with down_l := [], up_l := [] } : jobs_Jobs).down_l), (eI ({ c19 with down_l := [], up_l := [] } : jobs_Jobs).up_limit), (.fn (.func 25) [] []), (eT tk100 1 eS ({ c19 with down_l := [], up_l := [] } : jobs_Jobs).up_l)]), (id4, [(eI v128.2.2.down_limit), (.fn (.func 24) [] []), (eT (tk129 + 0) 5 e_api_Entry v128.2.2.down_l), (eI v128.2.2.up_limit), (.fn (.func 25) [] []), (eT (tk129 + 1) 1 eS v128.2.2.up_l)])] [(tk129 + 0), (tk129 + 1), tk100, tk99] τ) => ?_
    refine mm tk (.tup [(e_api_Entry v128.1), (eB v128.2.1)]) rfl rfl (m_ (e_api_Entry v128.1) rfl (o_ext tk rfl rfl) (m_ (eB v128.2.1) rfl (o_ext tk rfl rfl) ?_))
    refine wpo_a (av := fun id => .ref id 0) rfl rfl rfl (h_alloc tk hH ty42 [(eS z_api_Entry.Key), (eI z_api_Entry.Version), (eI z_api_Entry.AsOf), (eI z_api_Entry.Ends), AV.nils] rfl) fun id130 τ ⟨hH, n131⟩ => ?_
    refine wpo_z rfl rfl (h_st tk hH 0 rfl ty42 (by simp) rfl rfl wr (b := (e_api_Entry v128.1)) (enc42.flat _) rfl (nb rfl) (c_api_Entry (v128.1 : api_Entry)) rfl) fun τ hH => ?_
    refine ma tk (eB v128.2.1) rfl rfl (wpo_nil (sr rfl (mm tk (eErr v18.2) rfl rfl ?_)))
    refine wpo_bdr H127 eI rfl rfl rfl (fun v134 hv => h_callr rfl rfl (.cons wr .nil) (trouble_Of_ok hv _ (hH.gl.trans hg))) fun v134 hv134 H133 => ?_
    refine l_ H133 eB rfl (o_ar tk rfl rfl rfl) fun v136 H135 => ?_
    refine mm tk (eB v136) rfl rfl ?_
    refine if_split H135 (fun hb H137 => ?_) (fun hb H137 => ?_)
    ·subst hb
     refine mm tk (eB v105.1) rfl rfl (pt tk (eB v105.1) rfl rfl rfl (mm tk (eB v105.1) rfl rfl ?_))
     refine if_split H137 (fun hb H138 => ?_) (fun hb H138 => ?_)
     ·rw [hb]
      refine mm tk (eB v108.1) rfl rfl (pt tk (eB v108.1) rfl rfl rfl (mm tk (eB v108.1) rfl rfl ?_))
      refine if_split H138 (fun hb H139 => ?_) (fun hb H139 => ?_)
      ·rw [hb]
       refine mm tk (eB v111.1) rfl rfl ?_
       refine l_ H139 eB rfl (o_un tk rfl rfl) fun v141 H140 => ?_
       refine pt tk (eB v141) rfl rfl rfl (mm tk (eB v141) rfl rfl ?_)
       refine if_split H140 (fun hb H142 => ?_) (fun hb H142 => ?_)
       ·subst hb
        refine mm tk (eB v114.1) rfl rfl (pt tk (eB v114.1) rfl rfl rfl (mm tk (eB v114.1) rfl rfl ?_))
        refine if_split H142 (fun hb H143 => ?_) (fun hb H143 => ?_)
        ·rw [hb]
         refine mm tk (eB v117.2.1) rfl rfl (pt tk (eB v117.2.1) rfl rfl rfl (mm tk (eB v117.2.1) rfl rfl ?_))
         refine if_split H143 (fun hb H144 => ?_) (fun hb H144 => ?_)
         ·rw [hb]
          refine mc tk (.ref id119 0) rfl rfl (fun _ => rfl) (wpo_rd (a := (eS (v117.1 : api_Entry).Key)) rfl rfl rfl (h_ld tk hH 2 rfl rfl rfl) ?_)
          refine l_ H144 eB rfl (o_eql_s tk rfl rfl) fun v146 H145 => ?_
          refine pt tk (eB v146) rfl rfl rfl (mm tk (eB v146) rfl rfl ?_)
          refine if_split H145 (fun hb H147 => ?_) (fun hb H147 => ?_)
          ·subst hb
           refine mm tk (eB v123.2) rfl rfl (pt tk (eB v123.2) rfl rfl rfl (mm tk (eB v123.2) rfl rfl ?_))
           refine if_split H147 (fun hb H148 => ?_) (fun hb H148 => ?_)
           ·rw [hb]
            refine mc tk (.ref id124 1) rfl rfl (fun _ => rfl) (wpo_rd (a := (eI (v123.1 : api_Entry).Version)) rfl rfl rfl (h_ld tk hH 1 rfl rfl rfl) ?_)
            refine l_ H148 eB rfl (o_ar tk rfl rfl rfl) fun v150 H149 => ?_
            refine pt tk (eB v150) rfl rfl rfl (mm tk (eB v150) rfl rfl ?_)
            refine if_split H149 (fun hb H151 => ?_) (fun hb H151 => ?_)
            ·subst hb
             refine mm tk (eB v128.2.1) rfl rfl (pt tk (eB v128.2.1) rfl rfl rfl (mm tk (eB v128.2.1) rfl rfl ?_))
             refine if_split H151 (fun hb H152 => ?_) (fun hb H152 => ?_)
             ·rw [hb]
              refine mc tk (.ref id130 1) rfl rfl (fun _ => rfl) (wpo_rd (a := (eI (v128.1 : api_Entry).Version)) rfl rfl rfl (h_ld tk hH 0 rfl rfl rfl) ?_)
              refine l_ H152 eB rfl (o_ar tk rfl rfl rfl) fun v154 H153 => ?_
              refine pt tk (eB v154) rfl rfl rfl (mm tk (eB v154) rfl rfl ?_)
              refine if_split H153 (fun hb H155 => ?_) (fun hb H155 => ?_)
              ·subst hb
               refine mm tk (.ref id4 0) rfl rfl ?_
               refine wpo_cb H155 (fun x _ => eB x.1) rfl rfl rfl (fun v157 hv => h_callT hH [tk100, tk99] 2 ((perm_at 0 rfl).trans (.cons _ ((perm_at 0 rfl).trans (.cons _ (.refl _))))) (fun g => [(4, (id4, [(eI v157.2.down_limit), (.fn (.func 24) [] []), (eT (g 0) 5 e_api_Entry v157.2.down_l), (eI v157.2.up_limit), (.fn (.func 25) [] []), (eT (g 1) 1 eS v157.2.up_l)]))]) (fun _ => ⟨⟨_, rfl⟩, trivial⟩) rfl rfl (.cons wr (.cons wr .nil)) (jobs_Jobs_Want_ok hv _ (hH.at_ 4 rfl) (hH.pw [4] rfl (by decide)) (hH.open_ 0 rfl) (hH.open_ 1 rfl) (hH.tnin 0 1 rfl rfl (by decide)))) fun v157 tk158 τ hv157 H156 (hH : Holds σ [(id130, (c_api_Entry (v128.1 : api_Entry))), (id124, (c_api_Entry (v123.1 : api_Entry))), (id119, (c_api_Entry (v117.1 : api_Entry))), (id20, [(eI ({ c19 with down_l := [], up_l := [] } : jobs_Jobs).down_limit), (.fn (.func 24) [] []), (eT tk99 5 e_api_Entry ({ c19 with down_l := [], up_l := [] } : jobs_Jobs).down_l), (eI ({ c19 with down_l := [], up_l := [] } : jobs_Jobs).up_limit), (.fn (.func 25) [] []), (eT tk100 1 eS ({ c19 with down_l := [], up_l := [] } : jobs_Jobs).up_l)]), (id4, [(eI v157.2.down_limit), (.fn (.func 24) [] []), (eT (tk158 + 0) 5 e_api_Entry v157.2.down_l), (eI v157.2.up_limit), (.fn (.func 25) [] []), (eT (tk158 + 1) 1 eS v157.2.up_l)])] [(tk158 + 0), (tk158 + 1), tk100, tk99] τ) => ?_
               refine pt tk (eB v157.1) rfl rfl rfl (mm tk (eB v157.1) rfl rfl ?_)
               refine if_split H156 (fun hb H159 => ?_) (fun hb H159 => ?_)
               ·rw [hb]
                refine mm tk (.ref id4 0) rfl rfl ?_
                refine wpo_cb H159 (fun x _ => eB x.1) rfl rfl rfl (fun v161 hv => h_callT hH [tk100, tk99] 2 ((perm_at 0 rfl).trans (.cons _ ((perm_at 0 rfl).trans (.cons _ (.refl _))))) (fun g => [(4, (id4, [(eI v161.2.down_limit), (.fn (.func 24) [] []), (eT (g 0) 5 e_api_Entry v161.2.down_l), (eI v161.2.up_limit), (.fn (.func 25) [] []), (eT (g 1) 1 eS v161.2.up_l)]))]) (fun _ => ⟨⟨_, rfl⟩, trivial⟩) rfl rfl (.cons wr (.cons wr .nil)) (jobs_Jobs_Want_ok hv _ (hH.at_ 4 rfl) (hH.pw [4] rfl (by decide)) (hH.open_ 0 rfl) (hH.open_ 1 rfl) (hH.tnin 0 1 rfl rfl (by decide)))) fun v161 tk162 τ hv161 H160 (hH : Holds σ [(id130, (c_api_Entry (v128.1 : api_Entry))), (id124, (c_api_Entry (v123.1 : api_Entry))), (id119, (c_api_Entry (v117.1 : api_Entry))), (id20, [(eI ({ c19 with down_l := [], up_l := [] } : jobs_Jobs).down_limit), (.fn (.func 24) [] []), (eT tk99 5 e_api_Entry ({ c19 with down_l := [], up_l := [] } : jobs_Jobs).down_l), (eI ({ c19 with down_l := [], up_l := [] } : jobs_Jobs).up_limit), (.fn (.func 25) [] []), (eT tk100 1 eS ({ c19 with down_l := [], up_l := [] } : jobs_Jobs).up_l)]), (id4, [(eI v161.2.down_limit), (.fn (.func 24) [] []), (eT (tk162 + 0) 5 e_api_Entry v161.2.down_l), (eI v161.2.up_limit), (.fn (.func 25) [] []), (eT (tk162 + 1) 1 eS v161.2.up_l)])] [(tk162 + 0), (tk162 + 1), tk100, tk99] τ) => ?_
                refine pt tk (eB v161.1) rfl rfl rfl (mm tk (eB v161.1) rfl rfl ?_)
                refine if_split H160 (fun hb H163 => ?_) (fun hb H163 => ?_)
                ·rw [hb]
                 refine mm tk (.ref id4 0) rfl rfl ?_
                 refine wpo_bdr H163 (eL 1 eS) rfl rfl rfl (fun v165 hv => h_callr rfl rfl (.cons wr .nil) (jobs_Jobs_Up_ok hv _ (hH.at_ 4 rfl) (hH.pw [4] rfl (by decide)))) fun v165 hv165 H164 => ?_
                 refine l_ H164 eI rfl (o_len tk td31 rfl) fun v167 H166 => ?_
                 refine l_ H166 eB rfl (o_ar tk rfl rfl rfl) fun v169 H168 => ?_
                 refine pt tk (eB v169) rfl rfl rfl (mm tk (eB v169) rfl rfl ?_)
                 refine if_split H168 (fun hb H170 => ?_) (fun hb H170 => ?_)
                 ·subst hb
                  refine mm tk (.ref id4 0) rfl rfl ?_
                  refine wpo_bdr H170 (eL 5 e_api_Entry) rfl rfl rfl (fun v172 hv => h_callr rfl rfl (.cons wr .nil) (jobs_Jobs_Down_ok hv _ (hH.at_ 4 rfl) (hH.pw [4] rfl (by decide)))) fun v172 hv172 H171 => ?_
                  refine l_ H171 eI rfl (o_len tk td30 rfl) fun v174 H173 => ?_
                  refine l_ H173 eB rfl (o_ar tk rfl rfl rfl) fun v176 H175 => ?_
                  refine pt tk (eB v176) rfl rfl rfl (ma tk (eB v176) rfl rfl (wpo_nil (awp_ret ?_)))
                  obtain rfl := oi H175
                  exact ⟨_, (eB v176), rfl, wr, .of_eq ((enc_b td4 sz4).cut _ _ _), (((((hH.noT.drop n131).drop n125).drop n120).drop n21).drop n5)⟩
                 ·subst hb
                  refine k_ rfl (k_ rfl (k_ rfl (k_ rfl (pf tk (eB false) rfl rfl rfl (ma tk (eB false) rfl rfl (wpo_nil (awp_ret ?_)))))))
                  obtain rfl := oi H170
                  exact ⟨_, (eB false), rfl, wr, .of_eq ((enc_b td4 sz4).cut _ _ _), (((((hH.noT.drop n131).drop n125).drop n120).drop n21).drop n5)⟩
                ·rw [hb]
                 refine k_ rfl (k_ rfl (k_ rfl (k_ rfl (pf tk (eB false) rfl rfl rfl (mm tk (eB false) rfl rfl (k_ rfl (k_ rfl (k_ rfl ?_))))))))
                 refine k_ rfl (pf tk (eB false) rfl rfl rfl (ma tk (eB false) rfl rfl (wpo_nil (awp_ret ?_))))
                 obtain rfl := oi H163
                 exact ⟨_, (eB false), rfl, wr, .of_eq ((enc_b td4 sz4).cut _ _ _), (((((hH.noT.drop n131).drop n125).drop n120).drop n21).drop n5)⟩
               ·rw [hb]
                refine k_ rfl (k_ rfl (pf tk (eB false) rfl rfl rfl (mm tk (eB false) rfl rfl (k_ rfl (k_ rfl (k_ rfl (k_ rfl (pf tk (eB false) rfl rfl rfl ?_))))))))
                refine mm tk (eB false) rfl rfl (k_ rfl (k_ rfl (k_ rfl (k_ rfl (pf tk (eB false) rfl rfl rfl (ma tk (eB false) rfl rfl (wpo_nil (awp_ret ?_))))))))
                obtain rfl := oi H159
                exact ⟨_, (eB false), rfl, wr, .of_eq ((enc_b td4 sz4).cut _ _ _), (((((hH.noT.drop n131).drop n125).drop n120).drop n21).drop n5)⟩
              ·subst hb
               refine k_ rfl (k_ rfl (pf tk (eB false) rfl rfl rfl (mm tk (eB false) rfl rfl (k_ rfl (k_ rfl (pf tk (eB false) rfl rfl rfl (mm tk (eB false) rfl rfl (k_ rfl ?_))))))))
               refine k_ rfl (k_ rfl (k_ rfl (pf tk (eB false) rfl rfl rfl (mm tk (eB false) rfl rfl (k_ rfl (k_ rfl (k_ rfl (k_ rfl ?_))))))))
               refine pf tk (eB false) rfl rfl rfl (ma tk (eB false) rfl rfl (wpo_nil (awp_ret ?_)))
               obtain rfl := oi H155
               exact ⟨_, (eB false), rfl, wr, .of_eq ((enc_b td4 sz4).cut _ _ _), (((((hH.noT.drop n131).drop n125).drop n120).drop n21).drop n5)⟩
             ·rw [hb]
              refine k_ rfl (k_ rfl (k_ rfl (pf tk (eB false) rfl rfl rfl (mm tk (eB false) rfl rfl (k_ rfl (k_ rfl (pf tk (eB false) rfl rfl rfl (mm tk (eB false) rfl rfl ?_))))))))
              refine k_ rfl (k_ rfl (pf tk (eB false) rfl rfl rfl (mm tk (eB false) rfl rfl (k_ rfl (k_ rfl (k_ rfl (k_ rfl (pf tk (eB false) rfl rfl rfl ?_))))))))
              refine mm tk (eB false) rfl rfl (k_ rfl (k_ rfl (k_ rfl (k_ rfl (pf tk (eB false) rfl rfl rfl (ma tk (eB false) rfl rfl (wpo_nil (awp_ret ?_))))))))
              obtain rfl := oi H152
              exact ⟨_, (eB false), rfl, wr, .of_eq ((enc_b td4 sz4).cut _ _ _), (((((hH.noT.drop n131).drop n125).drop n120).drop n21).drop n5)⟩
            ·subst hb
             refine k_ rfl (pf tk (eB false) rfl rfl rfl (mm tk (eB false) rfl rfl (k_ rfl (k_ rfl (k_ rfl (pf tk (eB false) rfl rfl rfl (mm tk (eB false) rfl rfl (k_ rfl ?_))))))))
             refine k_ rfl (pf tk (eB false) rfl rfl rfl (mm tk (eB false) rfl rfl (k_ rfl (k_ rfl (pf tk (eB false) rfl rfl rfl (mm tk (eB false) rfl rfl (k_ rfl (k_ rfl ?_))))))))
             refine k_ rfl (k_ rfl (pf tk (eB false) rfl rfl rfl (mm tk (eB false) rfl rfl (k_ rfl (k_ rfl (k_ rfl (k_ rfl (pf tk (eB false) rfl rfl rfl ?_))))))))
             refine ma tk (eB false) rfl rfl (wpo_nil (awp_ret ?_))
             obtain rfl := oi H151
             exact ⟨_, (eB false), rfl, wr, .of_eq ((enc_b td4 sz4).cut _ _ _), (((((hH.noT.drop n131).drop n125).drop n120).drop n21).drop n5)⟩
           ·rw [hb]
            refine k_ rfl (k_ rfl (k_ rfl (pf tk (eB false) rfl rfl rfl (mm tk (eB false) rfl rfl (k_ rfl (pf tk (eB false) rfl rfl rfl (mm tk (eB false) rfl rfl (k_ rfl ?_))))))))
            refine k_ rfl (k_ rfl (pf tk (eB false) rfl rfl rfl (mm tk (eB false) rfl rfl (k_ rfl (k_ rfl (pf tk (eB false) rfl rfl rfl (mm tk (eB false) rfl rfl (k_ rfl ?_))))))))
            refine k_ rfl (pf tk (eB false) rfl rfl rfl (mm tk (eB false) rfl rfl (k_ rfl (k_ rfl (k_ rfl (k_ rfl (pf tk (eB false) rfl rfl rfl (mm tk (eB false) rfl rfl ?_))))))))
            refine k_ rfl (k_ rfl (k_ rfl (k_ rfl (pf tk (eB false) rfl rfl rfl (ma tk (eB false) rfl rfl (wpo_nil (awp_ret ?_)))))))
            obtain rfl := oi H148
            exact ⟨_, (eB false), rfl, wr, .of_eq ((enc_b td4 sz4).cut _ _ _), (((((hH.noT.drop n131).drop n125).drop n120).drop n21).drop n5)⟩
          ·subst hb
           refine k_ rfl (pf tk (eB false) rfl rfl rfl (mm tk (eB false) rfl rfl (k_ rfl (k_ rfl (k_ rfl (pf tk (eB false) rfl rfl rfl (mm tk (eB false) rfl rfl (k_ rfl ?_))))))))
           refine pf tk (eB false) rfl rfl rfl (mm tk (eB false) rfl rfl (k_ rfl (k_ rfl (k_ rfl (pf tk (eB false) rfl rfl rfl (mm tk (eB false) rfl rfl (k_ rfl (k_ rfl ?_))))))))
           refine pf tk (eB false) rfl rfl rfl (mm tk (eB false) rfl rfl (k_ rfl (k_ rfl (pf tk (eB false) rfl rfl rfl (mm tk (eB false) rfl rfl (k_ rfl (k_ rfl (k_ rfl ?_))))))))
           refine k_ rfl (pf tk (eB false) rfl rfl rfl (mm tk (eB false) rfl rfl (k_ rfl (k_ rfl (k_ rfl (k_ rfl (pf tk (eB false) rfl rfl rfl (ma tk (eB false) rfl rfl ?_))))))))
           refine wpo_nil (awp_ret ?_)
           obtain rfl := oi H147
           exact ⟨_, (eB false), rfl, wr, .of_eq ((enc_b td4 sz4).cut _ _ _), (((((hH.noT.drop n131).drop n125).drop n120).drop n21).drop n5)⟩
         ·rw [hb]
          refine k_ rfl (k_ rfl (k_ rfl (pf tk (eB false) rfl rfl rfl (mm tk (eB false) rfl rfl (k_ rfl (pf tk (eB false) rfl rfl rfl (mm tk (eB false) rfl rfl (k_ rfl ?_))))))))
          refine k_ rfl (k_ rfl (pf tk (eB false) rfl rfl rfl (mm tk (eB false) rfl rfl (k_ rfl (pf tk (eB false) rfl rfl rfl (mm tk (eB false) rfl rfl (k_ rfl (k_ rfl ?_))))))))
          refine k_ rfl (pf tk (eB false) rfl rfl rfl (mm tk (eB false) rfl rfl (k_ rfl (k_ rfl (pf tk (eB false) rfl rfl rfl (mm tk (eB false) rfl rfl (k_ rfl (k_ rfl ?_))))))))
          refine pf tk (eB false) rfl rfl rfl (mm tk (eB false) rfl rfl (k_ rfl (k_ rfl (k_ rfl (k_ rfl (pf tk (eB false) rfl rfl rfl (mm tk (eB false) rfl rfl (k_ rfl ?_))))))))
          refine k_ rfl (k_ rfl (k_ rfl (pf tk (eB false) rfl rfl rfl (ma tk (eB false) rfl rfl (wpo_nil (awp_ret ?_))))))
          obtain rfl := oi H144
          exact ⟨_, (eB false), rfl, wr, .of_eq ((enc_b td4 sz4).cut _ _ _), (((((hH.noT.drop n131).drop n125).drop n120).drop n21).drop n5)⟩
        ·rw [hb]
         refine k_ rfl (pf tk (eB false) rfl rfl rfl (mm tk (eB false) rfl rfl (k_ rfl (k_ rfl (k_ rfl (pf tk (eB false) rfl rfl rfl (mm tk (eB false) rfl rfl (k_ rfl ?_))))))))
         refine pf tk (eB false) rfl rfl rfl (mm tk (eB false) rfl rfl (k_ rfl (k_ rfl (k_ rfl (pf tk (eB false) rfl rfl rfl (mm tk (eB false) rfl rfl (k_ rfl (pf tk (eB false) rfl rfl rfl ?_))))))))
         refine mm tk (eB false) rfl rfl (k_ rfl (k_ rfl (k_ rfl (pf tk (eB false) rfl rfl rfl (mm tk (eB false) rfl rfl (k_ rfl (k_ rfl (pf tk (eB false) rfl rfl rfl ?_))))))))
         refine mm tk (eB false) rfl rfl (k_ rfl (k_ rfl (pf tk (eB false) rfl rfl rfl (mm tk (eB false) rfl rfl (k_ rfl (k_ rfl (k_ rfl (k_ rfl ?_))))))))
         refine pf tk (eB false) rfl rfl rfl (mm tk (eB false) rfl rfl (k_ rfl (k_ rfl (k_ rfl (k_ rfl (pf tk (eB false) rfl rfl rfl (ma tk (eB false) rfl rfl (wpo_nil ?_))))))))
         refine awp_ret ?_
         obtain rfl := oi H143
         exact ⟨_, (eB false), rfl, wr, .of_eq ((enc_b td4 sz4).cut _ _ _), (((((hH.noT.drop n131).drop n125).drop n120).drop n21).drop n5)⟩
       ·subst hb
        refine k_ rfl (pf tk (eB false) rfl rfl rfl (mm tk (eB false) rfl rfl (k_ rfl (pf tk (eB false) rfl rfl rfl (mm tk (eB false) rfl rfl (k_ rfl (k_ rfl (k_ rfl ?_))))))))
        refine pf tk (eB false) rfl rfl rfl (mm tk (eB false) rfl rfl (k_ rfl (pf tk (eB false) rfl rfl rfl (mm tk (eB false) rfl rfl (k_ rfl (k_ rfl (k_ rfl (pf tk (eB false) rfl rfl rfl ?_))))))))
        refine mm tk (eB false) rfl rfl (k_ rfl (pf tk (eB false) rfl rfl rfl (mm tk (eB false) rfl rfl (k_ rfl (k_ rfl (k_ rfl (pf tk (eB false) rfl rfl rfl (mm tk (eB false) rfl rfl ?_))))))))
        refine k_ rfl (k_ rfl (pf tk (eB false) rfl rfl rfl (mm tk (eB false) rfl rfl (k_ rfl (k_ rfl (pf tk (eB false) rfl rfl rfl (mm tk (eB false) rfl rfl (k_ rfl ?_))))))))
        refine k_ rfl (k_ rfl (k_ rfl (pf tk (eB false) rfl rfl rfl (mm tk (eB false) rfl rfl (k_ rfl (k_ rfl (k_ rfl (k_ rfl ?_))))))))
        refine pf tk (eB false) rfl rfl rfl (ma tk (eB false) rfl rfl (wpo_nil (awp_ret ?_)))
        obtain rfl := oi H142
        exact ⟨_, (eB false), rfl, wr, .of_eq ((enc_b td4 sz4).cut _ _ _), (((((hH.noT.drop n131).drop n125).drop n120).drop n21).drop n5)⟩
      ·rw [hb]
       refine k_ rfl (k_ rfl (pf tk (eB false) rfl rfl rfl (mm tk (eB false) rfl rfl (k_ rfl (pf tk (eB false) rfl rfl rfl (mm tk (eB false) rfl rfl (k_ rfl (pf tk (eB false) rfl rfl rfl ?_))))))))
       refine mm tk (eB false) rfl rfl (k_ rfl (k_ rfl (k_ rfl (pf tk (eB false) rfl rfl rfl (mm tk (eB false) rfl rfl (k_ rfl (pf tk (eB false) rfl rfl rfl (mm tk (eB false) rfl rfl ?_))))))))
       refine k_ rfl (k_ rfl (k_ rfl (pf tk (eB false) rfl rfl rfl (mm tk (eB false) rfl rfl (k_ rfl (pf tk (eB false) rfl rfl rfl (mm tk (eB false) rfl rfl (k_ rfl ?_))))))))
       refine k_ rfl (k_ rfl (pf tk (eB false) rfl rfl rfl (mm tk (eB false) rfl rfl (k_ rfl (k_ rfl (pf tk (eB false) rfl rfl rfl (mm tk (eB false) rfl rfl (k_ rfl ?_))))))))
       refine k_ rfl (pf tk (eB false) rfl rfl rfl (mm tk (eB false) rfl rfl (k_ rfl (k_ rfl (k_ rfl (k_ rfl (pf tk (eB false) rfl rfl rfl (mm tk (eB false) rfl rfl ?_))))))))
       refine k_ rfl (k_ rfl (k_ rfl (k_ rfl (pf tk (eB false) rfl rfl rfl (ma tk (eB false) rfl rfl (wpo_nil (awp_ret ?_)))))))
       obtain rfl := oi H139
       exact ⟨_, (eB false), rfl, wr, .of_eq ((enc_b td4 sz4).cut _ _ _), (((((hH.noT.drop n131).drop n125).drop n120).drop n21).drop n5)⟩
     ·rw [hb]
      refine k_ rfl (pf tk (eB false) rfl rfl rfl (mm tk (eB false) rfl rfl (k_ rfl (k_ rfl (pf tk (eB false) rfl rfl rfl (mm tk (eB false) rfl rfl (k_ rfl (pf tk (eB false) rfl rfl rfl ?_))))))))
      refine mm tk (eB false) rfl rfl (k_ rfl (pf tk (eB false) rfl rfl rfl (mm tk (eB false) rfl rfl (k_ rfl (k_ rfl (k_ rfl (pf tk (eB false) rfl rfl rfl (mm tk (eB false) rfl rfl ?_))))))))
      refine k_ rfl (pf tk (eB false) rfl rfl rfl (mm tk (eB false) rfl rfl (k_ rfl (k_ rfl (k_ rfl (pf tk (eB false) rfl rfl rfl (mm tk (eB false) rfl rfl (k_ rfl ?_))))))))
      refine pf tk (eB false) rfl rfl rfl (mm tk (eB false) rfl rfl (k_ rfl (k_ rfl (k_ rfl (pf tk (eB false) rfl rfl rfl (mm tk (eB false) rfl rfl (k_ rfl (k_ rfl ?_))))))))
      refine pf tk (eB false) rfl rfl rfl (mm tk (eB false) rfl rfl (k_ rfl (k_ rfl (pf tk (eB false) rfl rfl rfl (mm tk (eB false) rfl rfl (k_ rfl (k_ rfl (k_ rfl ?_))))))))
      refine k_ rfl (pf tk (eB false) rfl rfl rfl (mm tk (eB false) rfl rfl (k_ rfl (k_ rfl (k_ rfl (k_ rfl (pf tk (eB false) rfl rfl rfl (ma tk (eB false) rfl rfl ?_))))))))
      refine wpo_nil (awp_ret ?_)
      obtain rfl := oi H138
      exact ⟨_, (eB false), rfl, wr, .of_eq ((enc_b td4 sz4).cut _ _ _), (((((hH.noT.drop n131).drop n125).drop n120).drop n21).drop n5)⟩
    ·subst hb
     refine k_ rfl (pf tk (eB false) rfl rfl rfl (mm tk (eB false) rfl rfl (k_ rfl (pf tk (eB false) rfl rfl rfl (mm tk (eB false) rfl rfl (k_ rfl (k_ rfl (pf tk (eB false) rfl rfl rfl ?_))))))))
     refine mm tk (eB false) rfl rfl (k_ rfl (pf tk (eB false) rfl rfl rfl (mm tk (eB false) rfl rfl (k_ rfl (pf tk (eB false) rfl rfl rfl (mm tk (eB false) rfl rfl (k_ rfl (k_ rfl ?_))))))))
     refine k_ rfl (pf tk (eB false) rfl rfl rfl (mm tk (eB false) rfl rfl (k_ rfl (pf tk (eB false) rfl rfl rfl (mm tk (eB false) rfl rfl (k_ rfl (k_ rfl (k_ rfl ?_))))))))
     refine pf tk (eB false) rfl rfl rfl (mm tk (eB false) rfl rfl (k_ rfl (pf tk (eB false) rfl rfl rfl (mm tk (eB false) rfl rfl (k_ rfl (k_ rfl (k_ rfl (pf tk (eB false) rfl rfl rfl ?_))))))))
     refine mm tk (eB false) rfl rfl (k_ rfl (k_ rfl (pf tk (eB false) rfl rfl rfl (mm tk (eB false) rfl rfl (k_ rfl (k_ rfl (pf tk (eB false) rfl rfl rfl (mm tk (eB false) rfl rfl ?_))))))))
     refine k_ rfl (k_ rfl (k_ rfl (k_ rfl (pf tk (eB false) rfl rfl rfl (mm tk (eB false) rfl rfl (k_ rfl (k_ rfl (k_ rfl ?_))))))))
     refine k_ rfl (pf tk (eB false) rfl rfl rfl (ma tk (eB false) rfl rfl (wpo_nil (awp_ret ?_))))
     obtain rfl := oi H137
     exact ⟨_, (eB false), rfl, wr, .of_eq ((enc_b td4 sz4).cut _ _ _), (((((hH.noT.drop n131).drop n125).drop n120).drop n21).drop n5)⟩
end Go.Proofs.YtmgjdbbggajljaaDoor
namespace Go.Proofs.YtmgjdbbggajljaaDoor
open Go Go.Va
set_option linter.unusedVariables false
set_option linter.unusedSimpArgs false
set_option maxRecDepth 20000
theorem R19_New_ok {x0 : Int} {r : R19_Jobs × Int} (H : R19_New x0 = some r) (σ : St)  : ACall Tryd.prog 8 [(eI x0)] σ (fun a τ => a = .tup [e_R19_Jobs r.1, eI r.2] ∧ τ = σ) := by
 unfold R19_New at H
 refine ACall.pure (acall_start tk Tryd.func8 (by decide) rfl (nb rfl) ?_)
 have hH := Holds.init σ
 refine sr rfl ?_
 refine wpo_a (av := fun id => .ref id 0) rfl rfl rfl (h_alloc tk hH ty33 [(eI z_R19_Jobs.Limit), AV.nils, AV.nils] rfl) fun id1 τ ⟨hH, n2⟩ => ?_
 refine ma tk (eI (0 : Int)) rfl rfl (wpo_nil (awp_seq (awp_seq ?_)))
 obtain ⟨s3, hs5, hj6⟩ := ob H
 refine awp_cutn (fun fr τ => WkF fr (fm [(0, (eI x0)), (2, (.ref id1 0)), (9, (eB s3))]) ∧ Holds σ [(id1, [(eI z_R19_Jobs.Limit), AV.nils, AV.nils])] [] τ) ?_ ?_
 ·rintro fr τ ⟨hfr, hH⟩
  have H12 := hj6
  refine AWP.fm [(0, (eI x0)), (2, (.ref id1 0)), (9, (eB s3))] hfr ?_
  refine awp_if H12 rfl (fun H13 => ?_) (fun H13 => ?_)
  ·refine sr rfl (mc tk (.agg [(eI (⟨(0 : Int), ([] : List api_Entry), ([] : List (List (BitVec 8)))⟩ : R19_Jobs).Limit), AV.nils, AV.nils]) rfl rfl (fun _ => rfl) ?_)
   refine wpo_z rfl rfl (h_st (y := (.agg [(eI (⟨(0 : Int), ([] : List api_Entry), ([] : List (List (BitVec 8)))⟩ : R19_Jobs).Limit), AV.nils, AV.nils])) tk hH 0 rfl ty33 (by simp) rfl rfl wr (b := (.agg [(eI (⟨(0 : Int), ([] : List api_Entry), ([] : List (List (BitVec 8)))⟩ : R19_Jobs).Limit), AV.nils, AV.nils])) rfl rfl (nb rfl) [(eI ((⟨(0 : Int), ([] : List api_Entry), ([] : List (List (BitVec 8)))⟩ : R19_Jobs) : R19_Jobs).Limit), AV.nils, AV.nils] rfl) fun τ hH => ?_
   refine ma tk (eI (2 : Int)) rfl rfl (wpo_nil (awp_ret ?_))
   obtain rfl := oi H13
   exact ⟨_, (.tup [(e_R19_Jobs ((⟨(0 : Int), ([] : List api_Entry), ([] : List (List (BitVec 8)))⟩ : R19_Jobs) : R19_Jobs)), (eI (2 : Int))]), (ares_2 (ares_cell hH 0 rfl rfl rfl) rfl), (wk_tup (.cons (wk_agg (.cons wr (.cons (wk_nils _) (.cons (wk_nils _) .nil)))) (.cons wr .nil))), .of_eq (by simp only [cutAV, cutL, enc33.cut _ _ _, (enc_i64 td34 sz34).cut _ _ _]), (hH.noT.drop n2)⟩
  ·refine awp_skip (sr rfl (mm tk (eI x0) rfl rfl (mc tk (.agg [(eI (⟨x0, ([] : List api_Entry), ([] : List (List (BitVec 8)))⟩ : R19_Jobs).Limit), AV.nils, AV.nils]) rfl rfl (fun _ => rfl) ?_)))
   refine wpo_z rfl rfl (h_st (y := (.agg [(eI (⟨x0, ([] : List api_Entry), ([] : List (List (BitVec 8)))⟩ : R19_Jobs).Limit), AV.nils, AV.nils])) tk hH 0 rfl ty33 (by simp) rfl rfl wr (b := (.agg [(eI (⟨x0, ([] : List api_Entry), ([] : List (List (BitVec 8)))⟩ : R19_Jobs).Limit), AV.nils, AV.nils])) rfl rfl (nb rfl) [(eI ((⟨x0, ([] : List api_Entry), ([] : List (List (BitVec 8)))⟩ : R19_Jobs) : R19_Jobs).Limit), AV.nils, AV.nils] rfl) fun τ hH => ?_
   refine ma tk (eI (0 : Int)) rfl rfl (wpo_nil (awp_ret ?_))
   obtain rfl := oi H13
   exact ⟨_, (.tup [(e_R19_Jobs ((⟨x0, ([] : List api_Entry), ([] : List (List (BitVec 8)))⟩ : R19_Jobs) : R19_Jobs)), (eI (0 : Int))]), (ares_2 (ares_cell hH 0 rfl rfl rfl) rfl), (wk_tup (.cons (wk_agg (.cons wr (.cons (wk_nils _) (.cons (wk_nils _) .nil)))) (.cons wr .nil))), .of_eq (by simp only [cutAV, cutL, enc33.cut _ _ _, (enc_i64 td34 sz34).cut _ _ _]), (hH.noT.drop n2)⟩
 ·refine awp_region rfl (mm tk (eI x0) rfl rfl ?_)
  refine l_ hs5 eB rfl (o_ar tk rfl rfl rfl) fun v8 H7 => ?_
  refine mm tk (eB v8) rfl rfl ?_
  refine if_split H7 (fun hb H9 => ?_) (fun hb H9 => ?_)
  ·subst hb
   refine k_ rfl (k_ rfl (pt tk (eB true) rfl rfl rfl (wpo_nil ?_)))
   have e := oi H9
   subst e
   exact ⟨(wc (wc (wc (wkf_nil _)))), hH⟩
  ·subst hb
   refine mm tk (eI x0) rfl rfl ?_
   refine l_ H9 eB rfl (o_ar tk rfl rfl rfl) fun v11 H10 => ?_
   refine pf tk (eB v11) rfl rfl rfl (wpo_nil ?_)
   have e := oi H10
   subst e
   exact ⟨(wc (wc (wc (wkf_nil _)))), hH⟩
theorem L19_JobsOnce_ok {x0 : BitVec 8} {x1 : List L19_Op} {x2 : api_Entry} {r : Bool} (H : L19_JobsOnce x0 x1 x2 = some r) (σ : St)  (hg : σ.gl = gls) : ACall Tryd.prog 4 [((@eU .u8 8) x0), ((eL 6 e_L19_Op) x1), (e_api_Entry x2)] σ (fun a τ => a = eB r ∧ τ = σ) := by
 unfold L19_JobsOnce at H
 refine ACall.pure (acall_start tk Tryd.func4 (by decide) rfl (nb rfl) ?_)
 have hH := Holds.init σ
 refine sr rfl (m_ (.fptr (c_api_Entry x2) 0) rfl (o_boxf tk rfl wr (b := (e_api_Entry x2)) (enc42.flat _)) (ma tk (eB false) rfl rfl (wpo_nil (awp_seq (awp_seq ?_)))))
 obtain ⟨s1, hs3, hj4⟩ := ob H
 refine awp_cutn (fun fr τ => WkF fr (fm [(0, ((@eU .u8 8) x0)), (1, ((eL 6 e_L19_Op) x1)), (5, (.fptr (c_api_Entry x2) 0)), (30, (eB s1))]) ∧ Holds σ [] [] τ) ?_ ?_
 ·rintro fr τ ⟨hfr, hH⟩
  have H16 := hj4
  refine AWP.fm [(0, ((@eU .u8 8) x0)), (1, ((eL 6 e_L19_Op) x1)), (5, (.fptr (c_api_Entry x2) 0)), (30, (eB s1))] hfr ?_
  refine awp_if H16 rfl (fun H17 => ?_) (fun H17 => ?_)
  ·refine sr rfl ?_
   refine wpo_bdr H17 eB rfl rfl rfl (fun v19 hv => h_callr rfl rfl .nil (L19_works_ok hv _ (hH.gl.trans hg))) fun v19 hv19 H18 => ?_
   refine ma tk (eB v19) rfl rfl (wpo_nil (awp_ret ?_))
   obtain rfl := oi H18
   exact ⟨_, (eB v19), rfl, wr, .of_eq ((enc_b td4 sz4).cut _ _ _), hH.noT⟩
  ·refine awp_skip (sr rfl (mm tk ((@eU .u8 8) x0) rfl rfl ?_))
   refine l_ H17 eI rfl (o_cv_ui tk td5 td3 (by decide) rfl) fun v21 H20 => ?_
   refine l_ H20 eI rfl (o_rem tk (z := (20 : Int)) rfl rfl rfl) fun v23 H22 => ?_
   refine l_ H22 eI rfl (o_ar tk rfl rfl rfl) fun v25 H24 => ?_
   refine ma tk (eI v25) rfl rfl (wpo_nil (sr rfl (mm tk (eI v25) rfl rfl ?_)))
   obtain ⟨v27, hvv27, H26⟩ := ob H24
   rcases hz31 : v27.1 with _ | c28
   ·rw [hz31, Option.elim_none] at H26
    refine wpo_a (av := fun _ => .tup [.nilp, (eErr v27.2)]) rfl rfl rfl (h_callno0 hH hz31 rfl rfl (.cons wr .nil) (jobs_New_ok hvv27 _)) fun _ τ hH => ?_
    refine mm tk (.tup [.nilp, (eErr v27.2)]) rfl rfl (m_ .nilp rfl (o_ext tk rfl rfl) (m_ (eErr v27.2) rfl (o_ext tk rfl rfl) (ma tk .nilp rfl rfl (ma tk (eErr v27.2) rfl rfl (wpo_nil (awp_seq (awp_seq ?_)))))))
    obtain ⟨s32, hs34, hj35⟩ := ob H26
    refine awp_cutn (fun fr τ => WkF fr (fm [(1, ((eL 6 e_L19_Op) x1)), (5, (.fptr (c_api_Entry x2) 0)), (7, (eI v25)), (8, .nilp), (46, (eB true))]) ∧ Holds σ [] [] τ) ?_ ?_
    ·rintro fr τ ⟨hfr, hH⟩
     have H39 := hj35
     refine AWP.fm [(1, ((eL 6 e_L19_Op) x1)), (5, (.fptr (c_api_Entry x2) 0)), (7, (eI v25)), (8, .nilp), (46, (eB true))] hfr ?_
     refine awp_true rfl ?_
     refine sr rfl (ma tk (eB false) rfl rfl (wpo_nil (awp_ret ?_)))
     obtain rfl := oi H39
     exact ⟨_, (eB false), rfl, wr, .of_eq ((enc_b td4 sz4).cut _ _ _), hH.noT⟩
    ·refine awp_region rfl (mm tk (eErr v27.2) rfl rfl ?_)
     refine l_ hs34 eB rfl (o_err_neq tk rfl rfl rfl) fun v37 H36 => ?_
     refine mm tk (eB v37) rfl rfl ?_
     refine if_split H36 (fun hb H38 => ?_) (fun hb H38 => ?_)
     ·subst hb
      refine k_ rfl (k_ rfl (pt tk (eB true) rfl rfl rfl (wpo_nil ?_)))
      have e := oi H38
      subst e
      exact ⟨(wc (wc (wc (wc (wc (wkf_nil _)))))), hH⟩
     ·subst hb
      refine mm tk .nilp rfl rfl (mc tk (eB true) rfl rfl (fun _ => rfl) (pf tk (eB true) rfl rfl rfl (wpo_nil ?_)))
      have e := oi H38
      subst e
      exact ⟨(wc (wc (wc (wc (wc (wkf_nil _)))))), hH⟩
   ·rw [hz31, Option.elim_some] at H26
    refine wpo_a (av := fun id => .tup [.ref id 0, (eErr v27.2)]) rfl rfl rfl (h_callno1 hH hz31 rfl rfl (.cons wr .nil) (jobs_New_ok hvv27 _)) fun id29 τ ⟨hH, n30⟩ => ?_
    have hH : Holds σ [(id29, [(eI ({ c28 with down_l := [], up_l := [] } : jobs_Jobs).down_limit), (.fn (.func 24) [] []), AV.nils, (eI ({ c28 with down_l := [], up_l := [] } : jobs_Jobs).up_limit), (.fn (.func 25) [] []), AV.nils])] [] τ := hH
    refine mm tk (.tup [(.ref id29 0), (eErr v27.2)]) rfl rfl (m_ (.ref id29 0) rfl (o_ext tk rfl rfl) (m_ (eErr v27.2) rfl (o_ext tk rfl rfl) (ma tk (.ref id29 0) rfl rfl (ma tk (eErr v27.2) rfl rfl (wpo_nil (awp_seq (awp_seq ?_)))))))
    refine AWP.tokO hH 0 rfl (c1 := fun tk40 => [(eI ({ c28 with down_l := [], up_l := [] } : jobs_Jobs).down_limit), (.fn (.func 24) [] []), (eT tk40 5 e_api_Entry ({ c28 with down_l := [], up_l := [] } : jobs_Jobs).down_l), (eI ({ c28 with down_l := [], up_l := [] } : jobs_Jobs).up_limit), (.fn (.func 25) [] []), AV.nils]) (fun _ => (.same (.same (.tok (.same (.same (.same .nil))))))) fun tk40 τ (hH : Holds σ [(id29, [(eI ({ c28 with down_l := [], up_l := [] } : jobs_Jobs).down_limit), (.fn (.func 24) [] []), (eT tk40 5 e_api_Entry ({ c28 with down_l := [], up_l := [] } : jobs_Jobs).down_l), (eI ({ c28 with down_l := [], up_l := [] } : jobs_Jobs).up_limit), (.fn (.func 25) [] []), AV.nils])] [tk40] τ) => ?_
    refine AWP.tokO hH 0 rfl (c1 := fun tk41 => [(eI ({ c28 with down_l := [], up_l := [] } : jobs_Jobs).down_limit), (.fn (.func 24) [] []), (eT tk40 5 e_api_Entry ({ c28 with down_l := [], up_l := [] } : jobs_Jobs).down_l), (eI ({ c28 with down_l := [], up_l := [] } : jobs_Jobs).up_limit), (.fn (.func 25) [] []), (eT tk41 1 eS ({ c28 with down_l := [], up_l := [] } : jobs_Jobs).up_l)]) (fun _ => (.same (.same (.same (.same (.same (.tok .nil))))))) fun tk41 τ (hH : Holds σ [(id29, [(eI ({ c28 with down_l := [], up_l := [] } : jobs_Jobs).down_limit), (.fn (.func 24) [] []), (eT tk40 5 e_api_Entry ({ c28 with down_l := [], up_l := [] } : jobs_Jobs).down_l), (eI ({ c28 with down_l := [], up_l := [] } : jobs_Jobs).up_limit), (.fn (.func 25) [] []), (eT tk41 1 eS ({ c28 with down_l := [], up_l := [] } : jobs_Jobs).up_l)])] [tk41, tk40] τ) => ?_
    obtain ⟨s42, hs44, hj45⟩ := ob H26
    refine awp_cutn (fun fr τ => WkF fr (fm [(1, ((eL 6 e_L19_Op) x1)), (5, (.fptr (c_api_Entry x2) 0)), (7, (eI v25)), (8, (.ref id29 0)), (46, (eB s42))]) ∧ Holds σ [(id29, [(eI ({ c28 with down_l := [], up_l := [] } : jobs_Jobs).down_limit), (.fn (.func 24) [] []), (eT tk40 5 e_api_Entry ({ c28 with down_l := [], up_l := [] } : jobs_Jobs).down_l), (eI ({ c28 with down_l := [], up_l := [] } : jobs_Jobs).up_limit), (.fn (.func 25) [] []), (eT tk41 1 eS ({ c28 with down_l := [], up_l := [] } : jobs_Jobs).up_l)])] [tk40, tk41] τ) ?_ ?_
    ·rintro fr τ ⟨hfr, hH⟩
     have H49 := hj45
     refine AWP.fm [(1, ((eL 6 e_L19_Op) x1)), (5, (.fptr (c_api_Entry x2) 0)), (7, (eI v25)), (8, (.ref id29 0)), (46, (eB s42))] hfr ?_
     refine awp_if H49 rfl (fun H50 => ?_) (fun H50 => ?_)
     ·refine sr rfl (ma tk (eB false) rfl rfl (wpo_nil (awp_ret ?_)))
      obtain rfl := oi H50
      exact ⟨_, (eB false), rfl, wr, .of_eq ((enc_b td4 sz4).cut _ _ _), (hH.noT.drop n30)⟩
     ·refine awp_skip (sr rfl (mm tk (eI v25) rfl rfl ?_))
      refine b_ H50 (fun r => .tup [e_R19_Jobs r.1, eI r.2]) rfl (fun v52 hv => OpP.of_call rfl rfl (.cons wr .nil) (R19_New_ok hv)) fun v52 hv52 H51 => ?_
      refine mm tk (.tup [(e_R19_Jobs v52.1), (eI v52.2)]) rfl rfl (m_ (e_R19_Jobs v52.1) rfl (o_ext tk rfl rfl) (m_ (eI v52.2) rfl (o_ext tk rfl rfl) ?_))
      refine wpo_a (av := fun id => .ref id 0) rfl rfl rfl (h_alloc tk hH ty33 [(eI z_R19_Jobs.Limit), AV.nils, AV.nils] rfl) fun id53 τ ⟨hH, n54⟩ => ?_
      refine wpo_z rfl rfl (h_st tk hH 0 rfl ty33 (by simp) rfl rfl wr (b := (e_R19_Jobs v52.1)) (enc33.flat _) rfl (nb rfl) (c_R19_Jobs (v52.1 : R19_Jobs)) rfl) fun τ hH => ?_
      refine ma tk (eI v52.2) rfl rfl (wpo_nil (awp_seq (sr rfl (ma tk (eI (0 : Int)) rfl rfl (wpo_nil (awp_block ?_))))))
      obtain ⟨s66, hs60, hj61⟩ := ob H51
      refine awp_cutx 0 (fun fr τ => ∃ tk_id29_down_l tk_id29_up_l, WkF fr (fm [(5, (.fptr (c_api_Entry x2) 0)), (7, (eI v25)), (8, (.ref id29 0))]) ∧ Holds σ [(id53, (c_R19_Jobs s66.1)), (id29, [(eI s66.2.down_limit), (.fn (.func 24) [] []), (eT tk_id29_down_l 5 e_api_Entry s66.2.down_l), (eI s66.2.up_limit), (.fn (.func 25) [] []), (eT tk_id29_up_l 1 eS s66.2.up_l)])] [tk_id29_down_l, tk_id29_up_l] τ) ?_ ?_
      ·rintro fr τ ⟨tk_id29_down_l, tk_id29_up_l, hfr, hH⟩
       have H83 := hj61
       refine AWP.fm [(5, (.fptr (c_api_Entry x2) 0)), (7, (eI v25)), (8, (.ref id29 0))] hfr ?_
       refine sr rfl (mm tk (.ref id29 0) rfl rfl (m_ (e_api_Entry x2) rfl (o_ld tk rfl rfl) ?_))
       refine wpo_cb H83 (fun x _ => eB x.1) rfl rfl rfl (fun v85 hv => h_callT hH [] 2 ((perm_at 0 rfl).trans (.cons _ ((perm_at 0 rfl).trans (.cons _ (.refl _))))) (fun g => [(1, (id29, [(eI v85.2.down_limit), (.fn (.func 24) [] []), (eT (g 0) 5 e_api_Entry v85.2.down_l), (eI v85.2.up_limit), (.fn (.func 25) [] []), (eT (g 1) 1 eS v85.2.up_l)]))]) (fun _ => ⟨⟨_, rfl⟩, trivial⟩) rfl rfl (.cons wr (.cons wr .nil)) (jobs_Jobs_Push_ok hv _ (hH.at_ 1 rfl) (hH.pw [1] rfl (by decide)) (hH.open_ 0 rfl) (hH.open_ 1 rfl) (hH.tnin 0 1 rfl rfl (by decide)))) fun v85 tk86 τ hv85 H84 (hH : Holds σ [(id53, (c_R19_Jobs s66.1)), (id29, [(eI v85.2.down_limit), (.fn (.func 24) [] []), (eT (tk86 + 0) 5 e_api_Entry v85.2.down_l), (eI v85.2.up_limit), (.fn (.func 25) [] []), (eT (tk86 + 1) 1 eS v85.2.up_l)])] [(tk86 + 0), (tk86 + 1)] τ) => ?_
       refine ma tk (eB v85.1) rfl rfl (wpo_nil (sr rfl (mm tk (.ref id29 0) rfl rfl ?_)))
       refine wpo_bdr H84 (eL 5 e_api_Entry) rfl rfl rfl (fun v88 hv => h_callr rfl rfl (.cons wr .nil) (jobs_Jobs_Down_ok hv _ (hH.at_ 1 rfl) (hH.pw [1] rfl (by decide)))) fun v88 hv88 H87 => ?_
       refine mm tk (.ref id29 0) rfl rfl ?_
       refine wpo_bdr H87 (eL 1 eS) rfl rfl rfl (fun v90 hv => h_callr rfl rfl (.cons wr .nil) (jobs_Jobs_Up_ok hv _ (hH.at_ 1 rfl) (hH.pw [1] rfl (by decide)))) fun v90 hv90 H89 => ?_
       refine ma tk ((eL 5 e_api_Entry) v88) rfl rfl (ma tk ((eL 1 eS) v90) rfl rfl (wpo_nil (awp_seq (awp_seq ?_))))
       obtain ⟨s91, hs93, hj94⟩ := ob H89
       refine awp_cutn (fun fr τ => WkF fr (fm [(8, (.ref id29 0)), (14, ((eL 5 e_api_Entry) v88)), (114, (eB s91))]) ∧ Holds σ [(id53, (c_R19_Jobs s66.1)), (id29, [(eI v85.2.down_limit), (.fn (.func 24) [] []), (eT (tk86 + 0) 5 e_api_Entry v85.2.down_l), (eI v85.2.up_limit), (.fn (.func 25) [] []), (eT (tk86 + 1) 1 eS v85.2.up_l)])] [(tk86 + 0), (tk86 + 1)] τ) ?_ ?_
       ·rintro fr τ ⟨hfr, hH⟩
        have H126 := hj94
        refine AWP.fm [(8, (.ref id29 0)), (14, ((eL 5 e_api_Entry) v88)), (114, (eB s91))] hfr ?_
        refine awp_if H126 rfl (fun H127 => ?_) (fun H127 => ?_)
        ·refine sr rfl (ma tk (eB false) rfl rfl (wpo_nil (awp_ret ?_)))
         obtain rfl := oi H127
         exact ⟨_, (eB false), rfl, wr, .of_eq ((enc_b td4 sz4).cut _ _ _), ((hH.noT.drop n54).drop n30)⟩
        ·refine awp_skip (awp_seq (sr rfl (ma tk (eI (0 : Int)) rfl rfl (wpo_nil (awp_block ?_)))))
         obtain ⟨o129, hs130, hj131⟩ := ob H127
         refine awp_cutx 2 (fun fr τ => ∃ s136 : Unit, o129 = .inl s136 ∧ WkF fr (fm [(8, (.ref id29 0)), (14, ((eL 5 e_api_Entry) v88))]) ∧ Holds σ [(id53, (c_R19_Jobs s66.1)), (id29, [(eI v85.2.down_limit), (.fn (.func 24) [] []), (eT (tk86 + 0) 5 e_api_Entry v85.2.down_l), (eI v85.2.up_limit), (.fn (.func 25) [] []), (eT (tk86 + 1) 1 eS v85.2.up_l)])] [(tk86 + 0), (tk86 + 1)] τ) ?_ ?_
         ·rintro fr τ ⟨s136, rfl, hfr, hH⟩
          have H153 := hj131
          simp only [Sum.elim_inl] at H153
          refine AWP.fm [(8, (.ref id29 0)), (14, ((eL 5 e_api_Entry) v88))] hfr ?_
          refine awp_seq (sr rfl (ma tk (eI (0 : Int)) rfl rfl (wpo_nil (awp_block ?_))))
          obtain ⟨o156, hs157, hj158⟩ := ob H153
          refine awp_cutx 4 (fun fr τ => ∃ s163 : jobs_Jobs, o156 = .inl s163 ∧ ∃ tk_id29_down_l tk_id29_up_l, WkF fr (fm [(8, (.ref id29 0))]) ∧ Holds σ [(id53, (c_R19_Jobs s66.1)), (id29, [(eI s163.down_limit), (.fn (.func 24) [] []), (eT tk_id29_down_l 5 e_api_Entry s163.down_l), (eI s163.up_limit), (.fn (.func 25) [] []), (eT tk_id29_up_l 1 eS s163.up_l)])] [tk_id29_down_l, tk_id29_up_l] τ) ?_ ?_
          ·rintro fr τ ⟨s163, rfl, tk_id29_down_l, tk_id29_up_l, hfr, hH⟩
           have H194 := hj158
           simp only [Sum.elim_inl] at H194
           refine AWP.fm [(8, (.ref id29 0))] hfr ?_
           refine sr rfl (mm tk (.ref id29 0) rfl rfl ?_)
           refine wpo_cb H194 (fun x _ => .tup [e_api_Entry x.1, eB x.2.1]) rfl rfl rfl (fun v196 hv => h_callT hH [] 2 ((perm_at 0 rfl).trans (.cons _ ((perm_at 0 rfl).trans (.cons _ (.refl _))))) (fun g => [(1, (id29, [(eI v196.2.2.down_limit), (.fn (.func 24) [] []), (eT (g 0) 5 e_api_Entry v196.2.2.down_l), (eI v196.2.2.up_limit), (.fn (.func 25) [] []), (eT (g 1) 1 eS v196.2.2.up_l)]))]) (fun _ => ⟨⟨_, rfl⟩, trivial⟩) rfl rfl (.cons wr .nil) (jobs_Jobs_Pop_ok hv _ (hH.at_ 1 rfl) (hH.pw [1] rfl (by decide)) (hH.open_ 0 rfl) (hH.open_ 1 rfl) (hH.tnin 0 1 rfl rfl (by decide)))) fun v196 tk197 τ hv196 H195 (hH : Holds σ [(id53, (c_R19_Jobs s66.1)), (id29, [(eI v196.2.2.down_limit), (.fn (.func 24) [] []), (eT (tk197 + 0) 5 e_api_Entry v196.2.2.down_l), (eI v196.2.2.up_limit), (.fn (.func 25) [] []), (eT (tk197 + 1) 1 eS v196.2.2.up_l)])] [(tk197 + 0), (tk197 + 1)] τ) => ?_
           refine mm tk (.tup [(e_api_Entry v196.1), (eB v196.2.1)]) rfl rfl (m_ (e_api_Entry v196.1) rfl (o_ext tk rfl rfl) (m_ (eB v196.2.1) rfl (o_ext tk rfl rfl) ?_))
           refine wpo_a (av := fun id => .ref id 0) rfl rfl rfl (h_alloc tk hH ty42 [(eS z_api_Entry.Key), (eI z_api_Entry.Version), (eI z_api_Entry.AsOf), (eI z_api_Entry.Ends), AV.nils] rfl) fun id198 τ ⟨hH, n199⟩ => ?_
           refine wpo_z rfl rfl (h_st tk hH 0 rfl ty42 (by simp) rfl rfl wr (b := (e_api_Entry v196.1)) (enc42.flat _) rfl (nb rfl) (c_api_Entry (v196.1 : api_Entry)) rfl) fun τ hH => ?_
           refine ma tk (eB v196.2.1) rfl rfl (wpo_nil (sr rfl (mm tk (eB v196.2.1) rfl rfl ?_)))
           refine l_ H195 eB rfl (o_un tk rfl rfl) fun v202 H201 => ?_
           refine mm tk (eB v202) rfl rfl ?_
           refine if_split H201 (fun hb H203 => ?_) (fun hb H203 => ?_)
           ·subst hb
            refine wpo_bdr H203 eB rfl rfl rfl (fun v205 hv => h_callr rfl rfl .nil (L19_works_ok hv _ (hH.gl.trans hg))) fun v205 hv205 H204 => ?_
            refine pt tk (eB v205) rfl rfl rfl (ma tk (eB v205) rfl rfl (wpo_nil (awp_ret ?_)))
            obtain rfl := oi H204
            exact ⟨_, (eB v205), rfl, wr, .of_eq ((enc_b td4 sz4).cut _ _ _), (((hH.noT.drop n199).drop n54).drop n30)⟩
           ·subst hb
            refine k_ rfl (pf tk (eB false) rfl rfl rfl (ma tk (eB false) rfl rfl (wpo_nil (awp_ret ?_))))
            obtain rfl := oi H203
            exact ⟨_, (eB false), rfl, wr, .of_eq ((enc_b td4 sz4).cut _ _ _), (((hH.noT.drop n199).drop n54).drop n30)⟩
          ·refine awp_loopO (body := fun s => L19_JobsOnce_b2 s66 v88 s.1 s.2) hs157 (fun (s : Int × jobs_Jobs) fr τ => ∃ tk_id29_down_l tk_id29_up_l, WkF fr (fm [(8, (.ref id29 0)), (14, ((eL 5 e_api_Entry) v88)), (17, (eI s.1))]) ∧ Holds σ [(id53, (c_R19_Jobs s66.1)), (id29, [(eI s.2.down_limit), (.fn (.func 24) [] []), (eT tk_id29_down_l 5 e_api_Entry s.2.down_l), (eI s.2.up_limit), (.fn (.func 25) [] []), (eT tk_id29_up_l 1 eS s.2.up_l)])] [tk_id29_down_l, tk_id29_up_l] τ) ⟨(tk86 + 0), (tk86 + 1), (wc (wc (wc (wkf_nil _)))), hH⟩ ?_
           rintro ⟨c154, c155⟩ fr τ y159 ⟨tk_id29_down_l, tk_id29_up_l, hfr, hH⟩ hb161 hy162
           have H164 : L19_JobsOnce_b2 s66 v88 c154 c155 = some y159 := hb161
           unfold L19_JobsOnce_b2 at H164
           refine AWP.fm [(8, (.ref id29 0)), (14, ((eL 5 e_api_Entry) v88)), (17, (eI c154))] hfr ?_
           have hH : Holds σ [(id53, (c_R19_Jobs s66.1)), (id29, [(eI c155.down_limit), (.fn (.func 24) [] []), (eT tk_id29_down_l 5 e_api_Entry c155.down_l), (eI c155.up_limit), (.fn (.func 25) [] []), (eT tk_id29_up_l 1 eS c155.up_l)])] [tk_id29_down_l, tk_id29_up_l] τ := hH
           refine awp_seq (sr rfl (mm tk (eI c154) rfl rfl (mm tk ((eL 5 e_api_Entry) v88) rfl rfl ?_)))
           refine l_ H164 eI rfl (o_len tk td30 rfl) fun v166 H165 => ?_
           refine l_ H165 eB rfl (o_ar tk rfl rfl rfl) fun v168 H167 => ?_
           refine wpo_nil ?_
           refine awp_if H167 rfl (fun H169 => ?_) (fun H169 => ?_)
           ·refine awp_skip (awp_seq (awp_block (sr rfl (mm tk (.ref id29 0) rfl rfl ?_))))
            refine wpo_cb H169 (fun x _ => .tup [e_api_Entry x.1, eB x.2.1]) rfl rfl rfl (fun v171 hv => h_callT hH [] 2 ((perm_at 0 rfl).trans (.cons _ ((perm_at 0 rfl).trans (.cons _ (.refl _))))) (fun g => [(1, (id29, [(eI v171.2.2.down_limit), (.fn (.func 24) [] []), (eT (g 0) 5 e_api_Entry v171.2.2.down_l), (eI v171.2.2.up_limit), (.fn (.func 25) [] []), (eT (g 1) 1 eS v171.2.2.up_l)]))]) (fun _ => ⟨⟨_, rfl⟩, trivial⟩) rfl rfl (.cons wr .nil) (jobs_Jobs_Pop_ok hv _ (hH.at_ 1 rfl) (hH.pw [1] rfl (by decide)) (hH.open_ 0 rfl) (hH.open_ 1 rfl) (hH.tnin 0 1 rfl rfl (by decide)))) fun v171 tk172 τ hv171 H170 (hH : Holds σ [(id53, (c_R19_Jobs s66.1)), (id29, [(eI v171.2.2.down_limit), (.fn (.func 24) [] []), (eT (tk172 + 0) 5 e_api_Entry v171.2.2.down_l), (eI v171.2.2.up_limit), (.fn (.func 25) [] []), (eT (tk172 + 1) 1 eS v171.2.2.up_l)])] [(tk172 + 0), (tk172 + 1)] τ) => ?_
            refine mm tk (.tup [(e_api_Entry v171.1), (eB v171.2.1)]) rfl rfl (m_ (e_api_Entry v171.1) rfl (o_ext tk rfl rfl) (m_ (eB v171.2.1) rfl (o_ext tk rfl rfl) ?_))
            refine wpo_a (av := fun id => .ref id 0) rfl rfl rfl (h_alloc tk hH ty42 [(eS z_api_Entry.Key), (eI z_api_Entry.Version), (eI z_api_Entry.AsOf), (eI z_api_Entry.Ends), AV.nils] rfl) fun id173 τ ⟨hH, n174⟩ => ?_
            refine wpo_z rfl rfl (h_st tk hH 0 rfl ty42 (by simp) rfl rfl wr (b := (e_api_Entry v171.1)) (enc42.flat _) rfl (nb rfl) (c_api_Entry (v171.1 : api_Entry)) rfl) fun τ hH => ?_
            refine ma tk (eB v171.2.1) rfl rfl (wpo_nil (awp_seq ?_))
            obtain ⟨s176, hs178, hj179⟩ := ob H170
            refine awp_cutn (fun fr τ => WkF fr (fm [(8, (.ref id29 0)), (14, ((eL 5 e_api_Entry) v88)), (17, (eI c154)), (151, (eB s176))]) ∧ Holds σ [(id173, (c_api_Entry (v171.1 : api_Entry))), (id53, (c_R19_Jobs s66.1)), (id29, [(eI v171.2.2.down_limit), (.fn (.func 24) [] []), (eT (tk172 + 0) 5 e_api_Entry v171.2.2.down_l), (eI v171.2.2.up_limit), (.fn (.func 25) [] []), (eT (tk172 + 1) 1 eS v171.2.2.up_l)])] [(tk172 + 0), (tk172 + 1)] τ) ?_ ?_
            ·rintro fr τ ⟨hfr, hH⟩
             have H189 := hj179
             refine AWP.fm [(8, (.ref id29 0)), (14, ((eL 5 e_api_Entry) v88)), (17, (eI c154)), (151, (eB s176))] hfr ?_
             refine awp_if H189 rfl (fun H190 => ?_) (fun H190 => ?_)
             ·refine sr rfl (ma tk (eB false) rfl rfl (wpo_nil (awp_ret ?_)))
              have hz := hy162 _ (inj_inr H190)
              refine ⟨⟨_, inj_inr H190⟩, ?_⟩
              rw [← hz] at hj158
              have H191 := (show some _ = some _ from hj158)
              obtain rfl := oi H191
              exact ⟨_, (eB false), rfl, wr, .of_eq ((enc_b td4 sz4).cut _ _ _), (((hH.noT.drop n174).drop n54).drop n30)⟩
             ·refine awp_skip (awp_region rfl (mm tk (eI c154) rfl rfl ?_))
              refine l_ H190 eI rfl (o_ar tk rfl rfl rfl) fun v193 H192 => ?_
              refine ma tk (eI v193) rfl rfl (wpo_nil ?_)
              exact ⟨(v193, v171.2.2), inj_inl H192, (tk172 + 0), (tk172 + 1), (wc (wc (wc (wkf_nil _)))), (hH.drop n174)⟩
            ·refine awp_drawS mixed [] rfl (by decide +kernel) rfl rfl ?_
             refine wpdS_mv (a := (eB v171.2.1)) rfl rfl rfl (o_mv tk rfl (Wk.refl _)) ?_
             refine wpdS_lt hs178 eB rfl rfl rfl (o_un tk rfl rfl) fun v181 H180 => ?_
             refine wpdS_mv (a := (eB v181)) rfl rfl rfl (o_mv tk rfl (Wk.refl _)) ?_
             refine if_split H180 (fun hb H182 => ?_) (fun hb H182 => ?_)
             ·subst hb
              refine wpdS_skip rfl rfl rfl (wpdS_skip rfl rfl rfl (wpdS_skip rfl rfl rfl (wpdS_skip rfl rfl rfl (wpdS_skip rfl rfl rfl (wpdS_skip rfl rfl rfl (wpdS_skip rfl rfl rfl (wpdS_mv (a := (eB true)) rfl rfl rfl (o_pick_t tk rfl rfl (Wk.refl _)) (wpdS_nil ?_))))))))
              have e := oi H182
              subst e
              exact ⟨(wc (wc (wc (wc (wkf_nil _))))), hH⟩
             ·subst hb
              refine wpdS_rd (a := (e_api_Entry (v171.1 : api_Entry))) rfl (by decide +kernel) rfl rfl (h_ld tk hH 0 rfl rfl rfl) (wpdS_mv (a := ((eL 5 e_api_Entry) v88)) rfl rfl rfl (o_mv tk rfl (Wk.refl _)) (wpdS_mv (a := (eI c154)) rfl rfl rfl (o_mv tk rfl (Wk.refl _)) ?_))
              refine wpdS_bd H182 (fun y => .fptr (e_api_Entry y).cells 0) rfl rfl rfl (fun v184 hv => o_ixa tk hv td30 enc42 rfl rfl) fun v184 hv184 H183 => ?_
              refine wpdS_mv (a := (e_api_Entry v184)) rfl rfl rfl (o_ld_e tk enc42 rfl rfl) ?_
              refine wpdS_bd H183 eB rfl rfl rfl (fun v186 hv => OpP.of_call rfl rfl (.cons wr (.cons wr .nil)) (R06_Same_ok hv)) fun v186 hv186 H185 => ?_
              refine wpdS_lt H185 eB rfl rfl rfl (o_un tk rfl rfl) fun v188 H187 => ?_
              refine wpdS_mv (a := (eB v188)) rfl rfl rfl (o_pick_f tk rfl rfl (Wk.refl _)) (wpdS_nil ?_)
              have e := oi H187
              subst e
              exact ⟨(wc (wc (wc (wc (wkf_nil _))))), hH⟩
           ·refine awp_exit ?_
            have hz := hy162 _ (inj_inr H169)
            exact ⟨⟨_, inj_inr H169⟩, c155, hz.symm, tk_id29_down_l, tk_id29_up_l, (wc (wkf_nil _)), hH⟩
         ·refine awp_loopO (body := fun s => L19_JobsOnce_b1 s66 v85 v88 s) hs130 (fun (s : Int) fr τ => WkF fr (fm [(8, (.ref id29 0)), (14, ((eL 5 e_api_Entry) v88)), (16, (eI s))]) ∧ Holds σ [(id53, (c_R19_Jobs s66.1)), (id29, [(eI v85.2.down_limit), (.fn (.func 24) [] []), (eT (tk86 + 0) 5 e_api_Entry v85.2.down_l), (eI v85.2.up_limit), (.fn (.func 25) [] []), (eT (tk86 + 1) 1 eS v85.2.up_l)])] [(tk86 + 0), (tk86 + 1)] τ) ⟨(wc (wc (wc (wkf_nil _)))), hH⟩ ?_
          rintro c128 fr τ y132 ⟨hfr, hH⟩ hb134 hy135
          have H137 : L19_JobsOnce_b1 s66 v85 v88 c128 = some y132 := hb134
          unfold L19_JobsOnce_b1 at H137
          refine AWP.fm [(8, (.ref id29 0)), (14, ((eL 5 e_api_Entry) v88)), (16, (eI c128))] hfr ?_
          have hH : Holds σ [(id53, (c_R19_Jobs s66.1)), (id29, [(eI v85.2.down_limit), (.fn (.func 24) [] []), (eT (tk86 + 0) 5 e_api_Entry v85.2.down_l), (eI v85.2.up_limit), (.fn (.func 25) [] []), (eT (tk86 + 1) 1 eS v85.2.up_l)])] [(tk86 + 0), (tk86 + 1)] τ := hH
          refine awp_seq (sr rfl (mm tk (eI c128) rfl rfl (mm tk ((eL 5 e_api_Entry) v88) rfl rfl ?_)))
          refine l_ H137 eI rfl (o_len tk td30 rfl) fun v139 H138 => ?_
          refine l_ H138 eB rfl (o_ar tk rfl rfl rfl) fun v141 H140 => ?_
          refine wpo_nil ?_
          refine awp_if H140 rfl (fun H142 => ?_) (fun H142 => ?_)
          ·refine awp_skip (awp_seq (awp_block (sr rfl (mm tk ((eL 5 e_api_Entry) v88) rfl rfl (mm tk ((eL 5 e_api_Entry) v88) rfl rfl (mm tk (eI c128) rfl rfl ?_))))))
           refine b_ H142 (fun y => .fptr (e_api_Entry y).cells 0) rfl (fun v144 hv => o_ixa tk hv td30 enc42 rfl rfl) fun v144 hv144 H143 => ?_
           refine mc tk (.fptr (c_api_Entry v144) 0) rfl rfl (fun _ => rfl) (m_ (eS v144.Key) rfl (o_ld tk rfl rfl) ?_)
           refine b_ H143 eI rfl (fun v146 hv => OpP.of_call rfl rfl (.cons wr (.cons wr .nil)) (R06_Find_ok hv)) fun v146 hv146 H145 => ?_
           refine mm tk (eI c128) rfl rfl ?_
           refine l_ H145 eB rfl (o_ar tk rfl rfl rfl) fun v148 H147 => ?_
           refine wpo_nil ?_
           refine awp_if H147 rfl (fun H149 => ?_) (fun H149 => ?_)
           ·refine sr rfl (ma tk (eB false) rfl rfl (wpo_nil (awp_ret ?_)))
            have hz := hy135 _ (inj_inr H149)
            refine ⟨⟨_, inj_inr H149⟩, ?_⟩
            rw [← hz] at hj131
            have H150 := (show some _ = some _ from hj131)
            obtain rfl := oi H150
            exact ⟨_, (eB false), rfl, wr, .of_eq ((enc_b td4 sz4).cut _ _ _), ((hH.noT.drop n54).drop n30)⟩
           ·refine awp_skip (awp_region rfl (mm tk (eI c128) rfl rfl ?_))
            refine l_ H149 eI rfl (o_ar tk rfl rfl rfl) fun v152 H151 => ?_
            refine ma tk (eI v152) rfl rfl (wpo_nil ?_)
            exact ⟨v152, inj_inl H151, (wc (wc (wc (wkf_nil _)))), hH⟩
          ·refine awp_exit ?_
           have hz := hy135 _ (inj_inr H142)
           exact ⟨⟨_, inj_inr H142⟩, (), hz.symm, (wc (wc (wkf_nil _))), hH⟩
       ·refine awp_drawS mixed [] rfl (by decide +kernel) rfl rfl ?_
        refine wpdS_mv (a := ((eL 5 e_api_Entry) v88)) rfl rfl rfl (o_mv tk rfl (Wk.refl _)) ?_
        refine wpdS_lt hs93 eI rfl rfl rfl (o_len tk td30 rfl) fun v96 H95 => ?_
        refine wpdS_mv (a := (eI v25)) rfl rfl rfl (o_mv tk rfl (Wk.refl _)) ?_
        refine wpdS_lt H95 eB rfl rfl rfl (o_ar tk rfl rfl rfl) fun v98 H97 => ?_
        refine wpdS_mv (a := (eB v98)) rfl rfl rfl (o_mv tk rfl (Wk.refl _)) ?_
        refine if_split H97 (fun hb H99 => ?_) (fun hb H99 => ?_)
        ·subst hb
         refine wpdS_skip rfl rfl rfl (wpdS_skip rfl rfl rfl (wpdS_skip rfl rfl rfl (wpdS_skip rfl rfl rfl (wpdS_mv (a := (eB true)) rfl rfl rfl (o_pick_t tk rfl rfl (Wk.refl _)) (wpdS_mv (a := (eB true)) rfl rfl rfl (o_mv tk rfl (Wk.refl _)) (wpdS_skip rfl rfl rfl (wpdS_skip rfl rfl rfl (wpdS_skip rfl rfl rfl ?_))))))))
         refine wpdS_skip rfl rfl rfl (wpdS_skip rfl rfl rfl (wpdS_skip rfl rfl rfl (wpdS_skip rfl rfl rfl (wpdS_skip rfl rfl rfl (wpdS_skip rfl rfl rfl (wpdS_skip rfl rfl rfl (wpdS_skip rfl rfl rfl (wpdS_skip rfl rfl rfl ?_))))))))
         refine wpdS_skip rfl rfl rfl (wpdS_skip rfl rfl rfl (wpdS_skip rfl rfl rfl (wpdS_skip rfl rfl rfl (wpdS_skip rfl rfl rfl (wpdS_mv (a := (eB true)) rfl rfl rfl (o_pick_t tk rfl rfl (Wk.refl _)) (wpdS_mv (a := (eB true)) rfl rfl rfl (o_mv tk rfl (Wk.refl _)) (wpdS_skip rfl rfl rfl (wpdS_skip rfl rfl rfl ?_))))))))
         refine wpdS_skip rfl rfl rfl (wpdS_skip rfl rfl rfl (wpdS_skip rfl rfl rfl (wpdS_skip rfl rfl rfl (wpdS_skip rfl rfl rfl (wpdS_skip rfl rfl rfl (wpdS_skip rfl rfl rfl (wpdS_mv (a := (eB true)) rfl rfl rfl (o_pick_t tk rfl rfl (Wk.refl _)) (wpdS_nil ?_))))))))
         have e := oi H99
         subst e
         exact ⟨(wc (wc (wc (wkf_nil _)))), hH⟩
        ·subst hb
         refine wpdS_mv (a := ((eL 1 eS) v90)) rfl rfl rfl (o_mv tk rfl (Wk.refl _)) ?_
         refine wpdS_lt H99 eI rfl rfl rfl (o_len tk td31 rfl) fun v101 H100 => ?_
         refine wpdS_mv (a := (eI v25)) rfl rfl rfl (o_mv tk rfl (Wk.refl _)) ?_
         refine wpdS_lt H100 eB rfl rfl rfl (o_ar tk rfl rfl rfl) fun v103 H102 => ?_
         refine wpdS_mv (a := (eB v103)) rfl rfl rfl (o_pick_f tk rfl rfl (Wk.refl _)) (wpdS_mv (a := (eB v103)) rfl rfl rfl (o_mv tk rfl (Wk.refl _)) ?_)
         refine if_split H102 (fun hb H104 => ?_) (fun hb H104 => ?_)
         ·subst hb
          refine wpdS_skip rfl rfl rfl (wpdS_skip rfl rfl rfl (wpdS_skip rfl rfl rfl (wpdS_skip rfl rfl rfl (wpdS_skip rfl rfl rfl (wpdS_skip rfl rfl rfl (wpdS_skip rfl rfl rfl (wpdS_skip rfl rfl rfl (wpdS_skip rfl rfl rfl ?_))))))))
          refine wpdS_skip rfl rfl rfl (wpdS_skip rfl rfl rfl (wpdS_skip rfl rfl rfl (wpdS_skip rfl rfl rfl (wpdS_skip rfl rfl rfl (wpdS_skip rfl rfl rfl (wpdS_skip rfl rfl rfl (wpdS_skip rfl rfl rfl (wpdS_mv (a := (eB true)) rfl rfl rfl (o_pick_t tk rfl rfl (Wk.refl _)) ?_))))))))
          refine wpdS_mv (a := (eB true)) rfl rfl rfl (o_mv tk rfl (Wk.refl _)) (wpdS_skip rfl rfl rfl (wpdS_skip rfl rfl rfl (wpdS_skip rfl rfl rfl (wpdS_skip rfl rfl rfl (wpdS_skip rfl rfl rfl (wpdS_skip rfl rfl rfl (wpdS_skip rfl rfl rfl (wpdS_skip rfl rfl rfl ?_))))))))
          refine wpdS_skip rfl rfl rfl (wpdS_mv (a := (eB true)) rfl rfl rfl (o_pick_t tk rfl rfl (Wk.refl _)) (wpdS_nil ?_))
          have e := oi H104
          subst e
          exact ⟨(wc (wc (wc (wkf_nil _)))), hH⟩
         ·subst hb
          refine wpdS_mv (a := (eB v85.1)) rfl rfl rfl (o_mv tk rfl (Wk.refl _)) (wpdS_mv (a := (eB v85.1)) rfl rfl rfl (o_mv tk rfl (Wk.refl _)) ?_)
          refine if_split H104 (fun hb H105 => ?_) (fun hb H105 => ?_)
          ·rw [hb]
           refine wpdS_mv (a := ((eL 5 e_api_Entry) v88)) rfl rfl rfl (o_mv tk rfl (Wk.refl _)) ?_
           refine wpdS_lt H105 eI rfl rfl rfl (o_len tk td30 rfl) fun v107 H106 => ?_
           refine wpdS_lt H106 eB rfl rfl rfl (o_ar tk rfl rfl rfl) fun v109 H108 => ?_
           refine wpdS_mv (a := (eB v109)) rfl rfl rfl (o_mv tk rfl (Wk.refl _)) ?_
           refine if_split H108 (fun hb H110 => ?_) (fun hb H110 => ?_)
           ·subst hb
            refine wpdS_skip rfl rfl rfl (wpdS_skip rfl rfl rfl (wpdS_skip rfl rfl rfl (wpdS_skip rfl rfl rfl (wpdS_skip rfl rfl rfl (wpdS_skip rfl rfl rfl (wpdS_skip rfl rfl rfl (wpdS_skip rfl rfl rfl (wpdS_skip rfl rfl rfl ?_))))))))
            refine wpdS_mv (a := (eB true)) rfl rfl rfl (o_pick_t tk rfl rfl (Wk.refl _)) (wpdS_mv (a := (eB true)) rfl rfl rfl (o_pick_t tk rfl rfl (Wk.refl _)) (wpdS_mv (a := (eB true)) rfl rfl rfl (o_pick_f tk rfl rfl (Wk.refl _)) (wpdS_mv (a := (eB true)) rfl rfl rfl (o_mv tk rfl (Wk.refl _)) (wpdS_skip rfl rfl rfl (wpdS_skip rfl rfl rfl (wpdS_skip rfl rfl rfl (wpdS_skip rfl rfl rfl (wpdS_skip rfl rfl rfl ?_))))))))
            refine wpdS_skip rfl rfl rfl (wpdS_skip rfl rfl rfl (wpdS_skip rfl rfl rfl (wpdS_skip rfl rfl rfl (wpdS_mv (a := (eB true)) rfl rfl rfl (o_pick_t tk rfl rfl (Wk.refl _)) (wpdS_nil ?_)))))
            have e := oi H110
            subst e
            exact ⟨(wc (wc (wc (wkf_nil _)))), hH⟩
           ·subst hb
            refine wpdS_mv (a := ((eL 5 e_api_Entry) v88)) rfl rfl rfl (o_mv tk rfl (Wk.refl _)) (wpdS_mv (a := ((eL 5 e_api_Entry) v88)) rfl rfl rfl (o_mv tk rfl (Wk.refl _)) ?_)
            refine wpdS_lt H110 eI rfl rfl rfl (o_len tk td30 rfl) fun v112 H111 => ?_
            refine wpdS_lt H111 eI rfl rfl rfl (o_ar tk rfl rfl rfl) fun v114 H113 => ?_
            refine wpdS_bd H113 (fun y => .fptr (e_api_Entry y).cells 0) rfl rfl rfl (fun v116 hv => o_ixa tk hv td30 enc42 rfl rfl) fun v116 hv116 H115 => ?_
            refine wpdS_mv (a := (e_api_Entry v116)) rfl rfl rfl (o_ld_e tk enc42 rfl rfl) (wpdS_mv (a := (e_api_Entry x2)) rfl rfl rfl (o_ld tk rfl rfl) ?_)
            refine wpdS_bd H115 eB rfl rfl rfl (fun v118 hv => OpP.of_call rfl rfl (.cons wr (.cons wr .nil)) (R06_Same_ok hv)) fun v118 hv118 H117 => ?_
            refine wpdS_lt H117 eB rfl rfl rfl (o_un tk rfl rfl) fun v120 H119 => ?_
            refine wpdS_mv (a := (eB v120)) rfl rfl rfl (o_pick_f tk rfl rfl (Wk.refl _)) (wpdS_mv (a := (eB v120)) rfl rfl rfl (o_pick_t tk rfl rfl (Wk.refl _)) (wpdS_mv (a := (eB v120)) rfl rfl rfl (o_pick_f tk rfl rfl (Wk.refl _)) (wpdS_mv (a := (eB v120)) rfl rfl rfl (o_mv tk rfl (Wk.refl _)) ?_)))
            refine if_split H119 (fun hb H121 => ?_) (fun hb H121 => ?_)
            ·subst hb
             refine wpdS_skip rfl rfl rfl (wpdS_skip rfl rfl rfl (wpdS_skip rfl rfl rfl (wpdS_skip rfl rfl rfl (wpdS_skip rfl rfl rfl (wpdS_skip rfl rfl rfl (wpdS_skip rfl rfl rfl (wpdS_skip rfl rfl rfl (wpdS_skip rfl rfl rfl ?_))))))))
             refine wpdS_mv (a := (eB true)) rfl rfl rfl (o_pick_t tk rfl rfl (Wk.refl _)) (wpdS_nil ?_)
             have e := oi H121
             subst e
             exact ⟨(wc (wc (wc (wkf_nil _)))), hH⟩
            ·subst hb
             refine wpdS_mv (a := (eB true)) rfl rfl rfl (o_mv tk rfl (Wk.refl _)) (wpdS_mv (a := (eB false)) rfl rfl rfl (o_un tk rfl rfl) (wpdS_mv (a := (eB false)) rfl rfl rfl (o_mv tk rfl (Wk.refl _)) (wpdS_skip rfl rfl rfl (wpdS_skip rfl rfl rfl (wpdS_skip rfl rfl rfl (wpdS_skip rfl rfl rfl (wpdS_skip rfl rfl rfl (wpdS_mv (a := (eB false)) rfl rfl rfl (o_pick_f tk rfl rfl (Wk.refl _)) ?_))))))))
             refine wpdS_mv (a := (eB false)) rfl rfl rfl (o_pick_f tk rfl rfl (Wk.refl _)) (wpdS_nil ?_)
             have e := oi H121
             subst e
             exact ⟨(wc (wc (wc (wkf_nil _)))), hH⟩
          ·rw [hb]
           refine wpdS_skip rfl rfl rfl (wpdS_skip rfl rfl rfl (wpdS_skip rfl rfl rfl (wpdS_skip rfl rfl rfl (wpdS_skip rfl rfl rfl (wpdS_skip rfl rfl rfl (wpdS_skip rfl rfl rfl (wpdS_skip rfl rfl rfl (wpdS_skip rfl rfl rfl ?_))))))))
           refine wpdS_skip rfl rfl rfl (wpdS_skip rfl rfl rfl (wpdS_skip rfl rfl rfl (wpdS_skip rfl rfl rfl (wpdS_skip rfl rfl rfl (wpdS_mv (a := (eB false)) rfl rfl rfl (o_pick_f tk rfl rfl (Wk.refl _)) (wpdS_mv (a := (eB false)) rfl rfl rfl (o_pick_f tk rfl rfl (Wk.refl _)) (wpdS_mv (a := (eB false)) rfl rfl rfl (o_mv tk rfl (Wk.refl _)) (wpdS_mv (a := (eB false)) rfl rfl rfl (o_mv tk rfl (Wk.refl _)) ?_))))))))
           refine wpdS_mv (a := (eB true)) rfl rfl rfl (o_un tk rfl rfl) (wpdS_mv (a := (eB true)) rfl rfl rfl (o_mv tk rfl (Wk.refl _)) (wpdS_mv (a := ((eL 5 e_api_Entry) v88)) rfl rfl rfl (o_mv tk rfl (Wk.refl _)) (wpdS_mv (a := (.fptr (c_api_Entry x2) 0)) rfl rfl rfl (o_c tk false rfl (fun _ => rfl)) (wpdS_mv (a := (eS x2.Key)) rfl rfl rfl (o_ld tk rfl rfl) ?_))))
           refine wpdS_bd H105 eI rfl rfl rfl (fun v123 hv => OpP.of_call rfl rfl (.cons wr (.cons wr .nil)) (R06_Find_ok hv)) fun v123 hv123 H122 => ?_
           refine wpdS_lt H122 eB rfl rfl rfl (o_ar tk rfl rfl rfl) fun v125 H124 => ?_
           refine wpdS_mv (a := (eB v125)) rfl rfl rfl (o_pick_t tk rfl rfl (Wk.refl _)) (wpdS_mv (a := (eB v125)) rfl rfl rfl (o_pick_f tk rfl rfl (Wk.refl _)) (wpdS_nil ?_))
           have e := oi H124
           subst e
           exact ⟨(wc (wc (wc (wkf_nil _)))), hH⟩
      ·refine awp_loopO (body := fun s => L19_JobsOnce_b0 x1 x2 v25 s.1 s.2.1 s.2.2) hs60 (fun (s : Int × R19_Jobs × jobs_Jobs) fr τ => ∃ tk_id29_down_l tk_id29_up_l, WkF fr (fm [(1, ((eL 6 e_L19_Op) x1)), (5, (.fptr (c_api_Entry x2) 0)), (7, (eI v25)), (8, (.ref id29 0)), (10, (.ref id53 0)), (12, (eI s.1))]) ∧ Holds σ [(id53, (c_R19_Jobs s.2.1)), (id29, [(eI s.2.2.down_limit), (.fn (.func 24) [] []), (eT tk_id29_down_l 5 e_api_Entry s.2.2.down_l), (eI s.2.2.up_limit), (.fn (.func 25) [] []), (eT tk_id29_up_l 1 eS s.2.2.up_l)])] [tk_id29_down_l, tk_id29_up_l] τ) ⟨tk40, tk41, (wc (wc (wc (wc (wc (wc (wkf_nil _))))))), hH⟩ ?_
       rintro ⟨c56, c57, c58⟩ fr τ y62 ⟨tk_id29_down_l, tk_id29_up_l, hfr, hH⟩ hb64 hy65
       have H67 : L19_JobsOnce_b0 x1 x2 v25 c56 c57 c58 = some y62 := hb64
       unfold L19_JobsOnce_b0 at H67
       refine AWP.fm [(1, ((eL 6 e_L19_Op) x1)), (5, (.fptr (c_api_Entry x2) 0)), (7, (eI v25)), (8, (.ref id29 0)), (10, (.ref id53 0)), (12, (eI c56))] hfr ?_
       have hH : Holds σ [(id53, (c_R19_Jobs c57)), (id29, [(eI c58.down_limit), (.fn (.func 24) [] []), (eT tk_id29_down_l 5 e_api_Entry c58.down_l), (eI c58.up_limit), (.fn (.func 25) [] []), (eT tk_id29_up_l 1 eS c58.up_l)])] [tk_id29_down_l, tk_id29_up_l] τ := hH
       refine awp_seq (sr rfl (mm tk (eI c56) rfl rfl (mm tk ((eL 6 e_L19_Op) x1) rfl rfl ?_)))
       refine l_ H67 eI rfl (o_len tk td22 rfl) fun v69 H68 => ?_
       refine l_ H68 eB rfl (o_ar tk rfl rfl rfl) fun v71 H70 => ?_
       refine wpo_nil ?_
       refine awp_if H70 rfl (fun H72 => ?_) (fun H72 => ?_)
       ·refine awp_skip (awp_seq (awp_block ?_))
        refine awp_drawS mixed [6, 10] rfl (by decide +kernel) rfl rfl ?_
        refine wpdS_mv (a := (.ref id29 0)) rfl rfl rfl (o_mv tk rfl (Wk.refl _)) (wpdS_rd (a := (e_R19_Jobs c57)) rfl (by decide +kernel) rfl rfl (h_ld tk hH 0 rfl rfl rfl) (wpdS_mv (a := ((eL 6 e_L19_Op) x1)) rfl rfl rfl (o_mv tk rfl (Wk.refl _)) (wpdS_mv (a := (eI c56)) rfl rfl rfl (o_mv tk rfl (Wk.refl _)) ?_)))
        refine wpdS_bd H72 (fun y => .fptr (e_L19_Op y).cells 0) rfl rfl rfl (fun v74 hv => o_ixa tk hv td22 enc44 rfl rfl) fun v74 hv74 H73 => ?_
        refine wpdS_mv (a := (e_L19_Op v74)) rfl rfl rfl (o_ld_e tk enc44 rfl rfl) ?_
        refine wpdS_cb H73 (fun x _ => .tup [e_R19_Jobs x.1, eB x.2.1]) rfl rfl rfl (fun v76 hv => h_callT hH [] 2 ((perm_at 0 rfl).trans (.cons _ ((perm_at 0 rfl).trans (.cons _ (.refl _))))) (fun g => [(1, (id29, [(eI v76.2.2.down_limit), (.fn (.func 24) [] []), (eT (g 0) 5 e_api_Entry v76.2.2.down_l), (eI v76.2.2.up_limit), (.fn (.func 25) [] []), (eT (g 1) 1 eS v76.2.2.up_l)]))]) (fun _ => ⟨⟨_, rfl⟩, trivial⟩) rfl rfl (.cons wr (.cons wr (.cons wr .nil))) (L19_do_ok hv _ (hH.at_ 1 rfl) (hH.pw [1] rfl (by decide)) (hH.open_ 0 rfl) (hH.open_ 1 rfl) (hH.tnin 0 1 rfl rfl (by decide)))) fun v76 tk77 τ hv76 H75 (hH : Holds σ [(id53, (c_R19_Jobs c57)), (id29, [(eI v76.2.2.down_limit), (.fn (.func 24) [] []), (eT (tk77 + 0) 5 e_api_Entry v76.2.2.down_l), (eI v76.2.2.up_limit), (.fn (.func 25) [] []), (eT (tk77 + 1) 1 eS v76.2.2.up_l)])] [(tk77 + 0), (tk77 + 1)] τ) => ?_
        refine wpdS_mv (a := (.tup [(e_R19_Jobs v76.1), (eB v76.2.1)])) rfl rfl rfl (o_mv tk rfl (Wk.refl _)) (wpdS_mv (a := (e_R19_Jobs v76.1)) rfl rfl rfl (o_ext tk rfl rfl) (wpdS_mv (a := (eB v76.2.1)) rfl rfl rfl (o_ext tk rfl rfl) ?_))
        obtain ⟨c79, hc80, H78⟩ := lt_ex H75
        refine wpdS_z rfl rfl rfl (h_st tk hH 0 rfl ty33 (by simp) rfl rfl wr (b := (e_R19_Jobs v76.1)) (enc33.flat _) rfl (nb rfl) (c_R19_Jobs c79) (by rw [← hc80]; rfl)) fun τ hH => ?_
        refine wpdS_nil (awp_region rfl (mm tk (eI c56) rfl rfl ?_))
        refine l_ H78 eI rfl (o_ar tk rfl rfl rfl) fun v82 H81 => ?_
        refine ma tk (eI v82) rfl rfl (wpo_nil ?_)
        exact ⟨(v82, c79, v76.2.2), inj_inl H81, (tk77 + 0), (tk77 + 1), (wc (wc (wc (wc (wc (wc (wkf_nil _))))))), hH⟩
       ·refine awp_exit ?_
        have hz := hy65 _ (inj_inr H72)
        subst hz
        exact ⟨⟨_, inj_inr H72⟩, tk_id29_down_l, tk_id29_up_l, (wc (wc (wc (wkf_nil _)))), hH⟩
    ·refine awp_region rfl (mm tk (eErr v27.2) rfl rfl ?_)
     refine l_ hs44 eB rfl (o_err_neq tk rfl rfl rfl) fun v47 H46 => ?_
     refine mm tk (eB v47) rfl rfl ?_
     refine if_split H46 (fun hb H48 => ?_) (fun hb H48 => ?_)
     ·subst hb
      refine k_ rfl (k_ rfl (pt tk (eB true) rfl rfl rfl (wpo_nil ?_)))
      have e := oi H48
      subst e
      exact ⟨(wc (wc (wc (wc (wc (wkf_nil _)))))), (hH.swap (.swap _ _ _))⟩
     ·subst hb
      refine mm tk (.ref id29 0) rfl rfl (mc tk (eB false) rfl rfl (fun _ => rfl) (pf tk (eB false) rfl rfl rfl (wpo_nil ?_)))
      have e := oi H48
      subst e
      exact ⟨(wc (wc (wc (wc (wc (wkf_nil _)))))), (hH.swap (.swap _ _ _))⟩
 ·refine awp_region rfl (mm tk ((eL 6 e_L19_Op) x1) rfl rfl ?_)
  refine b_ hs3 eB rfl (fun v6 hv => OpP.of_call rfl rfl (.cons wr .nil) (L19_light_ok hv)) fun v6 hv6 H5 => ?_
  refine l_ H5 eB rfl (o_un tk rfl rfl) fun v8 H7 => ?_
  refine mm tk (eB v8) rfl rfl ?_
  refine if_split H7 (fun hb H9 => ?_) (fun hb H9 => ?_)
  ·subst hb
   refine k_ rfl (k_ rfl (k_ rfl (k_ rfl (pt tk (eB true) rfl rfl rfl (wpo_nil ?_)))))
   have e := oi H9
   subst e
   exact ⟨(wc (wc (wc (wc (wkf_nil _))))), hH⟩
  ·subst hb
   refine m_ (e_api_Entry x2) rfl (o_ld tk rfl rfl) ?_
   refine l_ H9 (eF 5 e_api_Entry) rfl (o_c tk false rfl (fun _ => rfl)) fun v11 H10 => ?_
   refine b_ H10 eI rfl (fun v13 hv => OpP.of_call rfl rfl (.cons wk_no .nil) (L06_Light_ok hv)) fun v13 hv13 H12 => ?_
   refine l_ H12 eB rfl (o_ar tk rfl rfl rfl) fun v15 H14 => ?_
   refine pf tk (eB v15) rfl rfl rfl (wpo_nil ?_)
   have e := oi H14
   subst e
   exact ⟨(wc (wc (wc (wc (wkf_nil _))))), hH⟩
noncomputable def R06_SameAll_b0 (x0 : List api_Entry) (x1 : List api_Entry) (c8 : Int) : Option ((Int) ⊕ (Unit ⊕ (Bool))) :=
 lt (((x0).length : Int)) fun v19 =>
 lt (decide (c8 < v19)) fun v21 =>
 if v21 = true then
  (ix x0 c8).bind fun v24 =>
  (ix x1 c8).bind fun v26 =>
  (R06_Same v24 v26).bind fun v28 =>
  lt (!v28) fun v30 =>
  if v30 = true then
   some (.inr (.inr false))
  else
   lt (w64 (c8 + (1 : Int))) fun v34 =>
   some (.inl v34)
 else
  some (.inr (.inl ()))
noncomputable def R06_SameAll_l0 (x0 : List api_Entry) (x1 : List api_Entry) (s : Int) : Option (Unit ⊕ (Bool)) := loopO (fun s => R06_SameAll_b0 x0 x1 s) s
noncomputable def R06_SameAll (x0 : List api_Entry) (x1 : List api_Entry) : Option (Bool) :=
 lt (((x0).length : Int)) fun v2 =>
 lt (((x1).length : Int)) fun v4 =>
 lt (v2 != v4) fun v6 =>
 if v6 = true then
  some false
 else
  (R06_SameAll_l0 x0 x1 (0 : Int)).bind fun o9 =>
   Sum.elim (fun s16 : Unit =>
    some true
    ) (fun y => some y) o9
end Go.Proofs.YtmgjdbbggajljaaDoor
namespace Go.Proofs.YtmgjdbbggajljaaDoor
open Go Go.Va
set_option linter.unusedVariables false
set_option linter.unusedSimpArgs false
theorem same_eq (x y : List (BitVec 8)) (hx : x.length < 9223372036854775807) : R02_Same x y = some (decide (x = y)) := by
  unfold R02_Same
  simp only [lt_eq]
  by_cases hl : x.length = y.length
  · rw [if_neg (by simp [hl])]
    have h := loopO_find (body := fun s => R02_Same_b0 x y s) (fun i : Nat => (i : Int)) x.length (fun i => if x[i]? ≠ y[i]? then some (Sum.inr false) else none) (x := .inl ()) (fun i hi => by
      simp only [R02_Same_b0, lt_eq, ix_nat hi, ix_nat (show i < y.length by omega), Option.bind_some]
      rw [if_pos (by simpa using hi)]
      by_cases he : x[i] = y[i]
      · rw [if_neg (by simp [he]), if_neg (by simp [hi, show i < y.length by omega, he]), w64_nat (by omega)]; rfl
      · rw [if_pos (by simpa using he), if_pos (by simp [hi, show i < y.length by omega, he])]; rfl) (by simp [R02_Same_b0, lt_eq])
    rw [show ((0 : Nat) : Int) = 0 from rfl] at h
    simp only [R02_Same_l0, h, Option.bind_some]
    by_cases he : x = y
    · rw [List.findSome?_eq_none_iff.2 (fun i _ => by rw [if_neg (by simp [he])])]
      simp [he]
    · cases hf : (List.range x.length).findSome? (fun i => if x[i]? ≠ y[i]? then some (Sum.inr (α := Unit) false) else none) with
      | none =>
        refine absurd (List.ext_getElem? fun i => ?_) he
        have h1 := List.findSome?_eq_none_iff.1 hf
        rcases Nat.lt_or_ge i x.length with hi | hi
        · have := h1 i (by simpa using hi)
          by_cases hne : x[i]? = y[i]?
          · exact hne
          · rw [if_pos hne] at this; cases this
        · rw [List.getElem?_eq_none hi, List.getElem?_eq_none (by omega)]
      | some w =>
        obtain ⟨i, _, h2⟩ := List.exists_of_findSome?_eq_some hf
        split at h2
        · cases h2; simp [he]
        · cases h2
  · rw [if_pos (by simpa using fun e => hl (by exact_mod_cast e))]
    rw [decide_eq_false (fun e => hl (by rw [e]))]
theorem new_eq (op : List (BitVec 8)) (n c : Int) (hc : c ≠ 0) : trouble_New op n c = some (.fault op n c .nil) := by
  simp [trouble_New, lt_eq, hc]
theorem same_eq6 (x y : api_Entry) (hx : x.Value.length < 9223372036854775807) : R06_Same x y = some (decide (x = y)) := by
  obtain ⟨k, v, a, n, w⟩ := x
  obtain ⟨k', v', a', n', w'⟩ := y
  simp only at hx
  simp only [R06_Same, lt_eq, same_eq _ _ hx, Option.bind_some, beq_iff_eq, api_Entry.mk.injEq]
  by_cases h1 : k = k'
  · by_cases h2 : v = v'
    · by_cases h3 : a = a'
      · by_cases h4 : n = n'
        · simp [h1, h2, h3, h4]
        · simp [h1, h2, h3, h4]
      · simp [h1, h2, h3]
    · simp [h1, h2]
  · simp [h1]
theorem copy_eq6 {x : api_Entry} (h : x.Value.length ≤ 100000) : item_Copy x = some x := by
  unfold item_Copy
  rw [app_eq (by simp; omega)]
  simp [lt_eq]
theorem light_l {l : List api_Entry} (hl : l.length ≤ 40) : ∀ (k i : Nat) (n : Nat), k + i = l.length → n ≤ 12000 → ∃ y, L06_Light_l0 l ((n : Int), (i : Int)) = some y ∧ (y = .inr 1 ∨ (y = .inl () ∧ ∀ j, i ≤ j → (h : j < l.length) → l[j].Key.length ≤ 200 ∧ l[j].Value.length ≤ 5000))
  | 0, i, n, hk, hn => by
    refine ⟨.inl (), loopO_out ?_, .inr ⟨rfl, fun j h1 h2 => by omega⟩⟩
    simp only [L06_Light_b0, lt_eq]
    rw [if_neg (by rw [decide_eq_false (by omega)]; simp)]
  | k + 1, i, n, hk, hn => by
    have hi : i < l.length := by omega
    by_cases h1 : l[i].Key.length > 200
    · refine ⟨.inr 1, loopO_out ?_, .inl rfl⟩
      simp only [L06_Light_b0, lt_eq, ix_nat hi, Option.bind_some]
      rw [if_pos (decide_eq_true (by omega)), if_pos (decide_eq_true (by omega))]
      rfl
    · by_cases h2 : l[i].Value.length > 5000
      · refine ⟨.inr 1, loopO_out ?_, .inl rfl⟩
        simp only [L06_Light_b0, lt_eq, ix_nat hi, Option.bind_some]
        rw [if_pos (decide_eq_true (by omega)), if_neg (by rw [decide_eq_false (by omega)]; simp), decide_eq_true (by omega)]
        rfl
      · have hw : w64 ((n : Int) + (l[i].Value.length : Int)) = ((n + l[i].Value.length : Nat) : Int) := by rw [w64_eq (by omega) (by omega)]; omega
        by_cases h3 : n + l[i].Value.length > 12000
        · refine ⟨.inr 1, loopO_out ?_, .inl rfl⟩
          simp only [L06_Light_b0, lt_eq, ix_nat hi, Option.bind_some]
          rw [if_pos (decide_eq_true (by omega)), if_neg (by rw [decide_eq_false (by omega)]; simp), decide_eq_false (by omega)]
          simp only [Option.bind_some, Bool.false_eq_true, if_false, hw]
          rw [if_pos (decide_eq_true (by omega))]
        · obtain ⟨y, i1, i2⟩ := light_l hl k (i + 1) (n + l[i].Value.length) (by omega) (by omega)
          have e : L06_Light_l0 l ((n : Int), (i : Int)) = L06_Light_l0 l (((n + l[i].Value.length : Nat) : Int), ((i + 1 : Nat) : Int)) := by
            refine loopO_in (body := fun s => L06_Light_b0 l s.1 s.2) ?_
            simp only [L06_Light_b0, lt_eq, ix_nat hi, Option.bind_some]
            rw [if_pos (decide_eq_true (by omega)), if_neg (by rw [decide_eq_false (by omega)]; simp), decide_eq_false (by omega)]
            simp only [Option.bind_some, Bool.false_eq_true, if_false, hw]
            rw [if_neg (by rw [decide_eq_false (by omega)]; simp), w64_nat (by omega)]
          refine ⟨y, by rw [e]; exact i1, ?_⟩
          rcases i2 with rfl | ⟨rfl, i3⟩
          · exact .inl rfl
          · refine .inr ⟨rfl, fun j h4 h5 => ?_⟩
            by_cases hj : j = i
            · subst hj; omega
            · exact i3 j (by omega) h5
theorem light_eq (l : List api_Entry) : L06_Light l = some 1 ∨ (L06_Light l = some 0 ∧ l.length ≤ 40 ∧ ∀ x ∈ l, x.Key.length ≤ 200 ∧ x.Value.length ≤ 5000) := by
  unfold L06_Light
  simp only [lt_eq]
  by_cases h : l.length > 40
  · left; rw [if_pos (decide_eq_true (by omega))]
  · rw [if_neg (by rw [decide_eq_false (by omega)]; simp)]
    obtain ⟨y, h1, h2⟩ := light_l (l := l) (by omega) l.length 0 0 (by omega) (by omega)
    have h1' : L06_Light_l0 l (0, 0) = some y := h1
    rw [h1']
    rcases h2 with rfl | ⟨rfl, h3⟩
    · exact .inl rfl
    · refine .inr ⟨rfl, by omega, fun x hx => ?_⟩
      obtain ⟨j, hj, rfl⟩ := List.mem_iff_getElem.1 hx
      exact h3 j (by omega) hj
end Go.Proofs.YtmgjdbbggajljaaDoor
namespace Go.Proofs.YtmgjdbbggajljaaDoor
open Go Go.Va
set_option linter.unusedVariables false
set_option linter.unusedSimpArgs false
set_option maxRecDepth 20000
noncomputable def R19_Texts_b0 (x0 : List (List (BitVec 8))) (x1 : List (List (BitVec 8))) (c8 : Int) : Option ((Int) ⊕ (Unit ⊕ (Bool))) :=
 lt (((x0).length : Int)) fun v19 =>
 lt (decide (c8 < v19)) fun v21 =>
 if v21 = true then
  (ix x0 c8).bind fun v24 =>
  (ix x1 c8).bind fun v26 =>
  lt (v24 != v26) fun v28 =>
  if v28 = true then
   some (.inr (.inr false))
  else
   lt (w64 (c8 + (1 : Int))) fun v32 =>
   some (.inl v32)
 else
  some (.inr (.inl ()))
noncomputable def R19_Texts_l0 (x0 : List (List (BitVec 8))) (x1 : List (List (BitVec 8))) (s : Int) : Option (Unit ⊕ (Bool)) := loopO (fun s => R19_Texts_b0 x0 x1 s) s
noncomputable def R19_Texts (x0 : List (List (BitVec 8))) (x1 : List (List (BitVec 8))) : Option (Bool) :=
 lt (((x0).length : Int)) fun v2 =>
 lt (((x1).length : Int)) fun v4 =>
 lt (v2 != v4) fun v6 =>
 if v6 = true then
  some false
 else
  (R19_Texts_l0 x0 x1 (0 : Int)).bind fun o9 =>
   Sum.elim (fun s16 : Unit =>
    some true
    ) (fun y => some y) o9
end Go.Proofs.YtmgjdbbggajljaaDoor
namespace Go.Proofs.YtmgjdbbggajljaaDoor
open Go Go.Va
set_option linter.unusedVariables false
set_option linter.unusedSimpArgs false
theorem lfind {α X : Type} (l : List α) (p : α → Bool) (f : Nat → X) (body : Int → Option (Int ⊕ (Unit ⊕ X))) (hb : ∀ i (h : i < l.length), body (i : Int) = if p l[i] = true then some (.inr (.inr (f i))) else some (.inl ((i + 1 : Nat) : Int))) (he : body (l.length : Int) = some (.inr (.inl ()))) : ∀ (d i : Nat), i + d = l.length → loopO body (i : Int) = some (match (l.drop i).findIdx? p with | some j => .inr (f (i + j)) | none => .inl ())
  | 0, i, hi => by
    rw [List.drop_of_length_le (by omega)]
    have : i = l.length := by omega
    subst this
    exact loopO_out he
  | d + 1, i, hi => by
    have hil : i < l.length := by omega
    rw [List.drop_eq_getElem_cons hil, List.findIdx?_cons]
    have h0 := hb i hil
    cases hp : p l[i] with
    | true => rw [hp, if_pos rfl] at h0; rw [loopO_out h0]; rfl
    | false =>
      rw [hp, if_neg (by decide)] at h0
      rw [loopO_in h0, lfind l p f body hb he d (i + 1) (by omega)]
      cases (l.drop (i + 1)).findIdx? p with
      | none => rfl
      | some j => simp [show i + 1 + j = i + (j + 1) by omega]
theorem lfind0 {α X : Type} (l : List α) (p : α → Bool) (f : Nat → X) (body : Int → Option (Int ⊕ (Unit ⊕ X))) (hb : ∀ i (h : i < l.length), body (i : Int) = if p l[i] = true then some (.inr (.inr (f i))) else some (.inl ((i + 1 : Nat) : Int))) (he : body (l.length : Int) = some (.inr (.inl ()))) : loopO body 0 = some (match l.findIdx? p with | some j => .inr (f j) | none => .inl ()) := by
  have := lfind l p f body hb he l.length 0 (by omega)
  simpa using this
def fx (d : List api_Entry) (k : List (BitVec 8)) : Option Nat := d.findIdx? fun x => x.Key == k
def fu (u : List (List (BitVec 8))) (k : List (BitVec 8)) : Option Nat := u.findIdx? fun x => x == k
def ixI : Option Nat → Int
  | some i => (i : Int)
  | none => -1
theorem ixs (i : Nat) : decide (ixI (some i) < 0) = false := decide_eq_false (by simp only [ixI]; omega)
theorem ixg (i : Nat) : decide (ixI (some i) ≥ 0) = true := decide_eq_true (by simp only [ixI]; omega)
def bt (d : List api_Entry) (k : List (BitVec 8)) : List api_Entry := d.filter fun x => x.Key != k
theorem nfind_eq (s : jobs_Jobs) (k : List (BitVec 8)) (h : s.down_l.length ≤ 1000000) : jobs_Queue_api_Entry_find s k = some (ixI (fx s.down_l k)) := by
  have key := lfind0 s.down_l (fun x => x.Key == k) (fun i => (i : Int)) (fun c => slices_IndexFunc_api_Entry_api_Entry_jobs_Queue_api_Entry_find_1_c_b0 s.down_l s k (s.down_l.length : Int) c) (fun i hi => by
    unfold slices_IndexFunc_api_Entry_api_Entry_jobs_Queue_api_Entry_find_1_c_b0 jobs_Queue_api_Entry_find_1_c jobs_New_1
    simp only [lt_eq]
    rw [if_pos (decide_eq_true (by omega)), ix_nat hi]
    simp only [Option.bind_some]
    rw [w64_nat (by omega)]) (by
    unfold slices_IndexFunc_api_Entry_api_Entry_jobs_Queue_api_Entry_find_1_c_b0
    simp only [lt_eq]
    rw [if_neg (by simp)])
  unfold jobs_Queue_api_Entry_find slices_IndexFunc_api_Entry_api_Entry_jobs_Queue_api_Entry_find_1_c slices_IndexFunc_api_Entry_api_Entry_jobs_Queue_api_Entry_find_1_c_l0
  simp only [lt_eq]
  rw [key]
  unfold fx ixI
  cases s.down_l.findIdx? fun x => x.Key == k <;> rfl
theorem ufind_eq (s : jobs_Jobs) (k : List (BitVec 8)) (h : s.up_l.length ≤ 1000000) : jobs_Queue_string_find s k = some (ixI (fu s.up_l k)) := by
  have key := lfind0 s.up_l (fun x => x == k) (fun i => (i : Int)) (fun c => slices_IndexFunc_string_string_jobs_Queue_string_find_1_c_b0 s.up_l s k (s.up_l.length : Int) c) (fun i hi => by
    unfold slices_IndexFunc_string_string_jobs_Queue_string_find_1_c_b0 jobs_Queue_string_find_1_c jobs_New_2
    simp only [lt_eq]
    rw [if_pos (decide_eq_true (by omega)), ix_nat hi]
    simp only [Option.bind_some]
    rw [w64_nat (by omega)]) (by
    unfold slices_IndexFunc_string_string_jobs_Queue_string_find_1_c_b0
    simp only [lt_eq]
    rw [if_neg (by simp)])
  unfold jobs_Queue_string_find slices_IndexFunc_string_string_jobs_Queue_string_find_1_c slices_IndexFunc_string_string_jobs_Queue_string_find_1_c_l0
  simp only [lt_eq]
  rw [key]
  unfold fu ixI
  cases s.up_l.findIdx? fun x => x == k <;> rfl
theorem rfind_eq (d : List api_Entry) (k : List (BitVec 8)) (h : d.length ≤ 1000000) : R06_Find d k = some (ixI (fx d k)) := by
  have key := lfind0 d (fun x => x.Key == k) (fun i => (i : Int)) (fun c => R06_Find_b0 d k c) (fun i hi => by
    unfold R06_Find_b0
    simp only [lt_eq]
    rw [if_pos (decide_eq_true (by omega)), ix_nat hi]
    simp only [Option.bind_some]
    rw [w64_nat (by omega)]) (by
    unfold R06_Find_b0
    simp only [lt_eq]
    rw [if_neg (by simp)])
  unfold R06_Find R06_Find_l0
  rw [key]
  unfold fx ixI
  cases d.findIdx? fun x => x.Key == k <;> rfl
theorem waits_eq (r : R19_Jobs) (k : List (BitVec 8)) (h : r.Up.length ≤ 1000000) : R19_Waits r k = some (fu r.Up k).isSome := by
  have key := lfind0 r.Up (fun x => x == k) (fun _ => true) (fun c => R19_Waits_b0 r k c) (fun i hi => by
    unfold R19_Waits_b0
    simp only [lt_eq]
    rw [if_pos (decide_eq_true (by omega)), ix_nat hi]
    simp only [Option.bind_some]
    rw [w64_nat (by omega)]) (by
    unfold R19_Waits_b0
    simp only [lt_eq]
    rw [if_neg (by simp)])
  unfold R19_Waits R19_Waits_l0
  rw [key]
  unfold fu
  cases r.Up.findIdx? fun x => x == k <;> rfl
theorem but_eq19 (d : List api_Entry) (k : List (BitVec 8)) (h : d.length ≤ 1000000) : R12_But d k = some (bt d k) := by
  have key := loopO_up (body := fun s => R12_But_b0 d k s.1 s.2) (fun j => (bt (d.take j) k, (j : Int))) d.length (x := bt (d.take d.length) k) (fun j hj => by
    unfold R12_But_b0
    simp only [lt_eq]
    have hle : (bt (d.take j) k).length ≤ j := Nat.le_trans (List.length_filter_le _ _) (by rw [List.length_take]; omega)
    rw [if_pos (decide_eq_true (by omega)), ix_nat hj, List.take_succ_eq_append_getElem hj]
    simp only [Option.bind_some]
    have e : bt (d.take j ++ [d[j]]) k = bt (d.take j) k ++ (if (d[j].Key != k) = true then [d[j]] else []) := by
      unfold bt
      rw [List.filter_append]
      congr 1
      by_cases hk : (d[j].Key != k) = true <;> simp [hk]
    rw [e]
    by_cases hk : (d[j].Key != k) = true
    · rw [if_pos hk, if_pos hk, app_eq (by simp; omega), w64_nat (by omega)]
      rfl
    · rw [if_neg hk, if_neg hk, w64_nat (by omega)]
      simp) (by
    unfold R12_But_b0
    simp only [lt_eq]
    rw [if_neg (by simp)])
  rw [List.take_length] at key
  unfold R12_But R12_But_l0
  have k2 : loopO (fun s => R12_But_b0 d k s.1 s.2) ([], 0) = _ := key
  rw [k2]
  rfl
def Uq (d : List api_Entry) : Prop := (d.map (·.Key)).Nodup
theorem fx_none {d : List api_Entry} {k : List (BitVec 8)} (h : fx d k = none) : bt d k = d := by
  unfold fx at h
  rw [List.findIdx?_eq_none_iff] at h
  unfold bt
  rw [List.filter_eq_self]
  intro x hx
  have := h x hx
  simp only [bne, this, Bool.not_false]
theorem fx_some {d : List api_Entry} {k : List (BitVec 8)} {i : Nat} (h : fx d k = some i) : ∃ hi : i < d.length, d[i].Key = k := by
  unfold fx at h
  rw [List.findIdx?_eq_some_iff_getElem] at h
  obtain ⟨h1, h2, _⟩ := h
  exact ⟨h1, by simpa using h2⟩
theorem uq_cons {x : api_Entry} {d : List api_Entry} : Uq (x :: d) ↔ (∀ y ∈ d, y.Key ≠ x.Key) ∧ Uq d := by
  unfold Uq
  rw [List.map_cons, List.nodup_cons]
  constructor
  · rintro ⟨h1, h2⟩
    exact ⟨fun y hy e => h1 (List.mem_map.2 ⟨y, hy, e⟩), h2⟩
  · rintro ⟨h1, h2⟩
    refine ⟨fun hm => ?_, h2⟩
    obtain ⟨y, hy, e⟩ := List.mem_map.1 hm
    exact h1 y hy e
theorem bt_erase {k : List (BitVec 8)} : ∀ {d : List api_Entry} {i : Nat}, Uq d → fx d k = some i → bt d k = d.eraseIdx i
  | [], i, _, h => by simp [fx] at h
  | x :: d, i, hu, h => by
    obtain ⟨h1, h2⟩ := uq_cons.1 hu
    unfold fx at h
    rw [List.findIdx?_cons] at h
    by_cases hk : x.Key = k
    · simp only [hk, beq_self_eq_true, if_true, Option.some.injEq] at h
      subst h
      have : bt d k = d := by
        unfold bt
        rw [List.filter_eq_self]
        intro y hy
        have := h1 y hy
        rw [hk] at this
        simpa using this
      simp only [List.eraseIdx_zero, List.tail_cons]
      rw [← this]
      unfold bt
      simp [hk]
    · have hb : (x.Key == k) = false := by simpa using hk
      rw [hb] at h
      simp only [Bool.false_eq_true, if_false, Option.map_eq_some_iff] at h
      obtain ⟨j, hj, rfl⟩ := h
      have ih := bt_erase (d := d) (i := j) h2 hj
      rw [List.eraseIdx_cons_succ, ← ih]
      unfold bt
      rw [List.filter_cons_of_pos (by simpa using hk)]
theorem uq_filter {d : List api_Entry} (h : Uq d) (p : api_Entry → Bool) : Uq (d.filter p) := List.Nodup.sublist (List.Sublist.map _ List.filter_sublist) h
theorem uq_snoc {d : List api_Entry} (h : Uq d) {x : api_Entry} (hx : ∀ y ∈ d, y.Key ≠ x.Key) : Uq (d ++ [x]) := by
  unfold Uq at h ⊢
  rw [List.map_append]
  refine List.nodup_append.2 ⟨h, by simp, ?_⟩
  intro a ha b hb
  simp only [List.map_cons, List.map_nil, List.mem_singleton] at hb
  obtain ⟨y, hy, rfl⟩ := List.mem_map.1 ha
  rw [hb]
  exact hx y hy
abbrev Jq := List api_Entry × List (List (BitVec 8))
def nJ (lim : Int) (s : Jq) : jobs_Jobs := ⟨lim, s.1, lim, s.2⟩
def rJ (lim : Int) (s : Jq) : R19_Jobs := ⟨lim, s.1, s.2⟩
structure Jv (lim : Int) (s : Jq) : Prop where
  l0 : 0 ≤ lim
  l1 : lim ≤ 64
  d : (s.1.length : Int) ≤ lim
  u : (s.2.length : Int) ≤ lim
  k : Uq s.1
  v : ∀ x ∈ s.1, x.Value.length ≤ 5000
def dropP (s : Jq) (k : List (BitVec 8)) : api_Entry × Bool := match fx s.1 k with
  | some i => (s.1.getD i z_api_Entry, true)
  | none => (z_api_Entry, false)
theorem drop_eq (lim : Int) {s : Jq} (J : Jv lim s) (k : List (BitVec 8)) : jobs_Queue_api_Entry_drop (nJ lim s) k = some ((dropP s k).1, (dropP s k).2, nJ lim (bt s.1 k, s.2)) := by
  have h1 := J.d; have h2 := J.l1
  unfold jobs_Queue_api_Entry_drop
  rw [nfind_eq _ _ (by show s.1.length ≤ _; omega)]
  simp only [lt_eq, Option.bind_some]
  rw [show (nJ lim s).down_l = s.1 from rfl]
  unfold dropP
  cases hf : fx s.1 k with
  | none =>
    rw [if_pos (by decide), fx_none hf]
  | some i =>
    obtain ⟨hi, hk⟩ := fx_some hf
    rw [if_neg (by rw [ixs]; decide)]
    show ((ix s.1 (i : Int)).bind _) = _
    rw [ix_nat hi]
    simp only [Option.bind_some]
    have hc : slices_Clone_api_Entry_api_EntryV s.1 = some s.1 := by
      unfold slices_Clone_api_Entry_api_EntryV
      rw [app_eq (by simp; omega)]
      rfl
    rw [hc]
    simp only [Option.bind_some]
    have hd : slices_Delete_api_Entry_api_Entry s.1 (i : Int) (w64 ((i : Int) + 1)) = some (bt s.1 k) := by
      unfold slices_Delete_api_Entry_api_Entry delO
      rw [w64_nat (by omega), if_pos (by omega), bt_erase J.k hf]
      simp [List.eraseIdx_eq_take_drop_succ]
    show ((slices_Delete_api_Entry_api_Entry s.1 (i : Int) (w64 ((i : Int) + 1))).bind _) = _
    rw [hd]
    simp [nJ, List.getD_eq_getElem?_getD, hi]
theorem bt_len (d : List api_Entry) (k : List (BitVec 8)) : (bt d k).length ≤ d.length := List.length_filter_le _ _
theorem bt_key {d : List api_Entry} {k : List (BitVec 8)} {x : api_Entry} (h : x ∈ bt d k) : x.Key ≠ k := by
  have := (List.mem_filter.1 h).2
  simpa using this
theorem Jv.bt {lim : Int} {s : Jq} (J : Jv lim s) (k : List (BitVec 8)) : Jv lim (bt s.1 k, s.2) :=
  ⟨J.l0, J.l1, Int.le_trans (by have := bt_len s.1 k; show ((Go.Proofs.YtmgjdbbggajljaaDoor.bt s.1 k).length : Int) ≤ s.1.length; omega) J.d, J.u, uq_filter J.k _, fun x hx => J.v x (List.mem_filter.1 hx).1⟩
def pushP (lim : Int) (s : Jq) (x : api_Entry) : Bool × Jq := if lim ≤ ((bt s.1 x.Key).length : Int) then (false, (bt s.1 x.Key, s.2)) else (true, (bt s.1 x.Key ++ [x], s.2))
theorem Jv.push {lim : Int} {s : Jq} (J : Jv lim s) {x : api_Entry} (hx : x.Value.length ≤ 5000) : Jv lim (pushP lim s x).2 := by
  unfold pushP
  have J2 := J.bt x.Key
  split
  · exact J2
  · rename_i h
    refine ⟨J.l0, J.l1, by show ((Go.Proofs.YtmgjdbbggajljaaDoor.bt s.1 x.Key ++ [x]).length : Int) ≤ lim; simp; omega, J.u, uq_snoc J2.k fun y hy => bt_key hy, fun y hy => ?_⟩
    rcases List.mem_append.1 hy with h | h
    · exact J2.v y h
    · rw [List.mem_singleton.1 h]; exact hx
theorem push_eq (lim : Int) {s : Jq} (J : Jv lim s) {x : api_Entry} (hx : x.Value.length ≤ 5000) : jobs_Jobs_Push (nJ lim s) x = some ((pushP lim s x).1, nJ lim (pushP lim s x).2) := by
  have J2 := J.bt x.Key
  have h1 := J2.d; have h2 := J2.l1
  unfold jobs_Jobs_Push
  rw [drop_eq lim J]
  simp only [Option.bind_some]
  rw [copy_eq6 (by omega)]
  simp only [Option.bind_some]
  unfold jobs_Queue_api_Entry_push pushP
  simp only [lt_eq]
  show ((if decide (((bt s.1 x.Key).length : Int) ≥ lim) = true then _ else _ : Option (Bool × jobs_Jobs)).bind _) = _
  by_cases h : lim ≤ ((bt s.1 x.Key).length : Int)
  · rw [if_pos (decide_eq_true h), if_pos h]
    rfl
  · rw [if_neg (by simpa using h), if_neg h]
    show (((app 64 (bt s.1 x.Key) [x]).bind _).bind _) = _
    rw [app_eq (by simp; simp at h1; omega)]
    rfl
theorem rpush_eq (lim : Int) {s : Jq} (J : Jv lim s) (x : api_Entry) : R19_Push (rJ lim s) x = some (rJ lim (pushP lim s x).2, (pushP lim s x).1) := by
  have J2 := J.bt x.Key
  have h0 := J.d
  have h1 := J2.d; have h2 := J2.l1
  unfold R19_Push pushP
  simp only [lt_eq]
  show ((R12_But s.1 x.Key).bind _) = _
  rw [but_eq19 _ _ (by omega)]
  simp only [Option.bind_some]
  show (if decide (((bt s.1 x.Key).length : Int) ≥ lim) = true then _ else _) = _
  by_cases h : lim ≤ ((bt s.1 x.Key).length : Int)
  · rw [if_pos (decide_eq_true h), if_pos h]
    rfl
  · rw [if_neg (by simpa using h), if_neg h, app_eq (by simp; simp at h1; omega)]
    rfl
def popP (s : Jq) : api_Entry × Bool × Jq := match s.1 with
  | [] => (z_api_Entry, false, s)
  | x :: d => (x, true, (d, s.2))
theorem pop_eq (lim : Int) (s : Jq) : jobs_Jobs_Pop (nJ lim s) = some ((popP s).1, (popP s).2.1, nJ lim (popP s).2.2) := by
  obtain ⟨d, u⟩ := s
  unfold jobs_Jobs_Pop jobs_Queue_api_Entry_pop popP
  simp only [lt_eq]
  cases d with
  | nil => rfl
  | cons x d =>
    rw [show (nJ lim (x :: d, u)).down_l = x :: d from rfl, if_neg (by simp; omega), show ix (x :: d) 0 = some x from ix_nat (i := 0) (by simp), show cutFrom (x :: d) 1 = some d from cutFrom_eq (n := 1) (by simp)]
    rfl
theorem rpop_eq (lim : Int) (s : Jq) : R19_Pop (rJ lim s) = some (rJ lim (popP s).2.2, (popP s).1, (popP s).2.1) := by
  obtain ⟨d, u⟩ := s
  unfold R19_Pop popP
  simp only [lt_eq]
  cases d with
  | nil => rfl
  | cons x d =>
    rw [show (rJ lim (x :: d, u)).Down = x :: d from rfl, if_neg (by simp; omega), show ix (x :: d) 0 = some x from ix_nat (i := 0) (by simp), show cutFrom (x :: d) 1 = some d from cutFrom_eq (n := 1) (by simp)]
    rfl
theorem Jv.pop {lim : Int} {s : Jq} (J : Jv lim s) : Jv lim (popP s).2.2 := by
  obtain ⟨d, u⟩ := s
  unfold popP
  cases d with
  | nil => exact J
  | cons x d =>
    have := J.d
    exact ⟨J.l0, J.l1, by simp at this ⊢; omega, J.u, (uq_cons.1 J.k).2, fun y hy => J.v y (List.mem_cons_of_mem _ hy)⟩
theorem rfnd_eq (lim : Int) {s : Jq} (J : Jv lim s) (k : List (BitVec 8)) : R19_Find (rJ lim s) k = some (dropP s k) := by
  have h1 := J.d; have h2 := J.l1
  unfold R19_Find
  rw [show (rJ lim s).Down = s.1 from rfl]
  rw [rfind_eq _ _ (by omega)]
  simp only [lt_eq, Option.bind_some]
  unfold dropP
  cases hf : fx s.1 k with
  | none => rw [if_pos (by decide)]; rfl
  | some i =>
    obtain ⟨hi, hk⟩ := fx_some hf
    rw [if_neg (by rw [ixs]; decide)]
    show ((ix s.1 (i : Int)).bind _) = _
    rw [ix_nat hi]
    simp [List.getD_eq_getElem?_getD, hi]
theorem nfnd_eq (lim : Int) {s : Jq} (J : Jv lim s) (k : List (BitVec 8)) : jobs_Jobs_Find (nJ lim s) k = some (dropP s k) := by
  have h1 := J.d; have h2 := J.l1
  unfold jobs_Jobs_Find
  rw [nfind_eq _ _ (by show s.1.length ≤ _; omega)]
  simp only [lt_eq, Option.bind_some]
  rw [show (nJ lim s).down_l = s.1 from rfl]
  unfold dropP
  cases hf : fx s.1 k with
  | none => rw [if_pos (by decide)]; rfl
  | some i =>
    obtain ⟨hi, hk⟩ := fx_some hf
    have hv := J.v _ (List.getElem_mem hi)
    rw [if_neg (by rw [ixs]; decide)]
    show ((ix s.1 (i : Int)).bind _) = _
    rw [ix_nat hi]
    simp only [Option.bind_some]
    rw [copy_eq6 (by omega)]
    simp [List.getD_eq_getElem?_getD, hi]
theorem rdrop_eq (lim : Int) {s : Jq} (J : Jv lim s) (k : List (BitVec 8)) : R19_Drop (rJ lim s) k = some (rJ lim (bt s.1 k, s.2)) := by
  have h1 := J.d; have h2 := J.l1
  unfold R19_Drop
  show ((R12_But s.1 k).bind _) = _
  rw [but_eq19 _ _ (by omega)]
  rfl
theorem dropP_val {lim : Int} {s : Jq} (J : Jv lim s) (k : List (BitVec 8)) : (dropP s k).1.Value.length ≤ 5000 := by
  unfold dropP
  cases hf : fx s.1 k with
  | none => simp [z_api_Entry]
  | some i =>
    obtain ⟨hi, hk⟩ := fx_some hf
    have hv := J.v _ (List.getElem_mem hi)
    simpa [List.getD_eq_getElem?_getD, hi] using hv
def wantP (lim : Int) (s : Jq) (k : List (BitVec 8)) : Bool × Jq := if (fu s.2 k).isSome = true then (true, s) else if lim ≤ (s.2.length : Int) then (false, s) else (true, (s.1, s.2 ++ [k]))
theorem want_eq (lim : Int) {s : Jq} (J : Jv lim s) (k : List (BitVec 8)) : jobs_Jobs_Want (nJ lim s) k = some ((wantP lim s k).1, nJ lim (wantP lim s k).2) := by
  have h1 := J.u; have h2 := J.l1
  unfold jobs_Jobs_Want
  rw [ufind_eq _ _ (by show s.2.length ≤ _; omega)]
  simp only [lt_eq, Option.bind_some]
  rw [show (nJ lim s).up_l = s.2 from rfl]
  unfold wantP
  cases hf : fu s.2 k with
  | some i => rw [if_pos (ixg i)]; rfl
  | none =>
    rw [if_neg (by decide), if_neg (by decide)]
    unfold jobs_Queue_string_push
    simp only [lt_eq]
    show ((if decide ((s.2.length : Int) ≥ lim) = true then _ else _ : Option (Bool × jobs_Jobs)).bind _) = _
    by_cases h : lim ≤ (s.2.length : Int)
    · rw [if_pos (decide_eq_true h), if_pos h]; rfl
    · rw [if_neg (by simpa using h), if_neg h]
      show (((app 16 s.2 [k]).bind _).bind _) = _
      rw [app_eq (by simp; omega)]
      rfl
theorem rwant_eq (lim : Int) {s : Jq} (J : Jv lim s) (k : List (BitVec 8)) : R19_Want (rJ lim s) k = some (rJ lim (wantP lim s k).2, (wantP lim s k).1) := by
  have h1 := J.u; have h2 := J.l1
  unfold R19_Want
  rw [waits_eq _ _ (by show s.2.length ≤ _; omega)]
  simp only [lt_eq, Option.bind_some]
  unfold wantP
  rw [show (rJ lim s).Up = s.2 from rfl, show (rJ lim s).Limit = lim from rfl]
  cases hf : (fu s.2 k).isSome with
  | true => rw [if_pos rfl, if_pos rfl]
  | false =>
    simp only [Bool.false_eq_true, if_false]
    by_cases h : lim ≤ (s.2.length : Int)
    · rw [if_pos (decide_eq_true h), if_pos h]
    · rw [if_neg (by simpa using h), if_neg h]
      rw [app_eq (by simp; omega)]
      simp only [Option.bind_some, List.nil_append]
      rw [app_eq (by simp; omega)]
      rfl
theorem Jv.want {lim : Int} {s : Jq} (J : Jv lim s) (k : List (BitVec 8)) : Jv lim (wantP lim s k).2 := by
  unfold wantP
  split
  · exact J
  · split
    · exact J
    · rename_i h
      exact ⟨J.l0, J.l1, J.d, by show ((s.2 ++ [k]).length : Int) ≤ lim; simp; omega, J.k, J.v⟩
def wntP (s : Jq) : List (BitVec 8) × Bool × Jq := match s.2 with
  | [] => ([], false, s)
  | k :: u => (k, true, (s.1, u))
theorem wanted_eq (lim : Int) (s : Jq) : jobs_Jobs_Wanted (nJ lim s) = some ((wntP s).1, (wntP s).2.1, nJ lim (wntP s).2.2) := by
  obtain ⟨d, u⟩ := s
  unfold jobs_Jobs_Wanted jobs_Queue_string_pop wntP
  simp only [lt_eq]
  cases u with
  | nil => rfl
  | cons x u =>
    rw [show (nJ lim (d, x :: u)).up_l = x :: u from rfl, if_neg (by simp; omega), show ix (x :: u) 0 = some x from ix_nat (i := 0) (by simp), show cutFrom (x :: u) 1 = some u from cutFrom_eq (n := 1) (by simp)]
    rfl
theorem rwanted_eq (lim : Int) (s : Jq) : R19_Wanted (rJ lim s) = some (rJ lim (wntP s).2.2, (wntP s).1, (wntP s).2.1) := by
  obtain ⟨d, u⟩ := s
  unfold R19_Wanted wntP
  simp only [lt_eq]
  cases u with
  | nil => rfl
  | cons x u =>
    rw [show (rJ lim (d, x :: u)).Up = x :: u from rfl, if_neg (by simp; omega), show ix (x :: u) 0 = some x from ix_nat (i := 0) (by simp), show cutFrom (x :: u) 1 = some u from cutFrom_eq (n := 1) (by simp)]
    rfl
theorem Jv.wnt {lim : Int} {s : Jq} (J : Jv lim s) : Jv lim (wntP s).2.2 := by
  obtain ⟨d, u⟩ := s
  unfold wntP
  cases u with
  | nil => exact J
  | cons x u =>
    have := J.u
    exact ⟨J.l0, J.l1, J.d, by simp at this ⊢; omega, J.k, J.v⟩
def actP (lim : Int) (s : Jq) (o : L19_Op) : Jq :=
  if o.Kind = 0 then (pushP lim s o.X).2 else if o.Kind = 1 then (popP s).2.2 else if o.Kind = 2 then (bt s.1 o.X.Key, s.2) else if o.Kind = 3 then (wantP lim s o.X.Key).2 else if o.Kind = 4 then (wntP s).2.2 else s
theorem popP_val {lim : Int} {s : Jq} (J : Jv lim s) : (popP s).1.Value.length ≤ 5000 := by
  obtain ⟨d, u⟩ := s
  unfold popP
  cases d with
  | nil => simp [z_api_Entry]
  | cons x d => exact J.v x List.mem_cons_self
theorem Jv.act {lim : Int} {s : Jq} (J : Jv lim s) {o : L19_Op} (ho : o.X.Value.length ≤ 5000) : Jv lim (actP lim s o) := by
  unfold actP
  repeat' split
  · exact J.push ho
  · exact J.pop
  · exact J.bt _
  · exact J.want _
  · exact J.wnt
  · exact J
theorem do_eq19 {lim : Int} {s : Jq} (J : Jv lim s) {o : L19_Op} (ho : o.X.Value.length ≤ 5000) : L19_do (nJ lim s) (rJ lim s) o = some (rJ lim (actP lim s o), true, nJ lim (actP lim s o)) := by
  unfold L19_do actP
  simp only [lt_eq]
  by_cases k0 : o.Kind = 0
  · rw [if_pos (beq_iff_eq.2 k0), if_pos k0, rpush_eq lim J, push_eq lim J ho]
    simp
  rw [if_neg (by simpa using k0), if_neg k0]
  by_cases k1 : o.Kind = 1
  · rw [if_pos (beq_iff_eq.2 k1), if_pos k1, rpop_eq, pop_eq]
    simp only [Option.bind_some, beq_self_eq_true, if_true]
    have := popP_val J
    rw [same_eq6 _ _ (by omega)]
    simp
  rw [if_neg (by simpa using k1), if_neg k1]
  by_cases k2 : o.Kind = 2
  · rw [if_pos (beq_iff_eq.2 k2), if_pos k2, rfnd_eq lim J]
    have hd : jobs_Jobs_Drop (nJ lim s) o.X.Key = some ((dropP s o.X.Key).1, (dropP s o.X.Key).2, nJ lim (bt s.1 o.X.Key, s.2)) := by
      unfold jobs_Jobs_Drop
      rw [drop_eq lim J]
      rfl
    rw [hd, rdrop_eq lim J]
    simp only [Option.bind_some, beq_self_eq_true, if_true]
    have := dropP_val J o.X.Key
    rw [same_eq6 _ _ (by omega)]
    simp
  rw [if_neg (by simpa using k2), if_neg k2]
  by_cases k3 : o.Kind = 3
  · rw [if_pos (beq_iff_eq.2 k3), if_pos k3, rwant_eq lim J, want_eq lim J]
    simp
  rw [if_neg (by simpa using k3), if_neg k3]
  by_cases k4 : o.Kind = 4
  · rw [if_pos (beq_iff_eq.2 k4), if_pos k4, rwanted_eq, wanted_eq]
    simp
  rw [if_neg (by simpa using k4), if_neg k4, rfnd_eq lim J, nfnd_eq lim J]
  simp only [Option.bind_some, beq_self_eq_true, if_true]
  have := dropP_val J o.X.Key
  rw [same_eq6 _ _ (by omega)]
  simp
theorem down_eq {lim : Int} {s : Jq} (J : Jv lim s) : jobs_Jobs_Down (nJ lim s) = some s.1 := by
  have h1 := J.d; have h2 := J.l1
  unfold jobs_Jobs_Down jobs_Jobs_Down_l0
  simp only [lt_eq]
  have key := loopO_up (body := fun z => jobs_Jobs_Down_b0 (nJ lim s) (s.1.length : Int) z.1 z.2) (fun j => (s.1.take j, (j : Int))) s.1.length (x := s.1.take s.1.length) (fun j hj => by
    have hv := J.v _ (List.getElem_mem hj)
    unfold jobs_Jobs_Down_b0
    simp only [lt_eq]
    rw [if_pos (decide_eq_true (by omega))]
    show ((ix s.1 (j : Int)).bind _) = _
    rw [ix_nat hj]
    simp only [Option.bind_some]
    rw [copy_eq6 (by omega)]
    simp only [Option.bind_some]
    rw [app_eq (by simp; omega), w64_nat (by omega), List.take_succ_eq_append_getElem hj]
    rfl) (by
    unfold jobs_Jobs_Down_b0
    simp only [lt_eq]
    rw [if_neg (by simp)])
  rw [List.take_length] at key
  have k2 : loopO (fun z => jobs_Jobs_Down_b0 (nJ lim s) (s.1.length : Int) z.1 z.2) ([], 0) = _ := key
  show ((loopO (fun z => jobs_Jobs_Down_b0 (nJ lim s) (s.1.length : Int) z.1 z.2) ([], 0)).bind _) = _
  rw [k2]
  rfl
theorem up_eq {lim : Int} {s : Jq} (J : Jv lim s) : jobs_Jobs_Up (nJ lim s) = some s.2 := by
  have h1 := J.u; have h2 := J.l1
  unfold jobs_Jobs_Up slices_Clone_string_string
  show (((app 16 [] s.2).bind _).bind _) = _
  rw [app_eq (by simp; omega)]
  rfl
theorem light_eq19 (l : List L19_Op) : L19_light l = some false ∨ (L19_light l = some true ∧ l.length ≤ 40 ∧ ∀ o ∈ l, o.X.Value.length ≤ 5000) := by
  unfold L19_light
  simp only [lt_eq]
  by_cases h : l.length > 40
  · left; rw [if_pos (decide_eq_true (by omega))]
  · rw [if_neg (by rw [decide_eq_false (by omega)]; decide)]
    unfold L19_light_l0
    have key := loopO_up (body := fun s => L19_light_b0 l s.1 s.2) (fun j => ((l.take j).map (·.X), (j : Int))) l.length (x := (l.take l.length).map (·.X)) (fun j hj => by
      unfold L19_light_b0
      simp only [lt_eq]
      rw [if_pos (decide_eq_true (by omega)), ix_nat hj]
      simp only [Option.bind_some]
      rw [app_eq (by simp; omega), w64_nat (by omega), List.take_succ_eq_append_getElem hj, List.map_append]
      rfl) (by
      unfold L19_light_b0
      simp only [lt_eq]
      rw [if_neg (by simp)])
    rw [List.take_length] at key
    have k2 : loopO (fun s => L19_light_b0 l s.1 s.2) ([], 0) = _ := key
    rw [k2]
    simp only [Option.bind_some]
    rcases light_eq (l.map (·.X)) with h | ⟨h, _, h3⟩
    · left; rw [h]; rfl
    · right
      rw [h]
      exact ⟨rfl, by omega, fun o ho => (h3 o.X (List.mem_map_of_mem ho)).2⟩
theorem nnew_eq {lim : Int} (h : 0 ≤ lim ∧ lim ≤ 64) : jobs_New lim = some (some (nJ lim ([], [])), .nil) := by
  unfold jobs_New
  simp only [lt_eq]
  rw [if_neg (by simp; omega)]
  simp only [Option.bind_some]
  rw [if_neg (by simp; omega)]
  rfl
theorem nnew_bad {lim : Int} (h : lim < 0 ∨ 64 < lim) : ∃ o a, jobs_New lim = some (none, .fault o a 2 .nil) := by
  unfold jobs_New
  simp only [lt_eq]
  by_cases h0 : lim < 0
  · rw [if_pos (decide_eq_true h0)]
    simp only [Option.bind_some, if_true]
    rw [new_eq _ _ 2 (by decide)]
    exact ⟨_, _, rfl⟩
  · rw [if_neg (by simpa using h0), decide_eq_true (show lim > 64 by omega)]
    simp only [Option.bind_some, if_true]
    rw [new_eq _ _ 2 (by decide)]
    exact ⟨_, _, rfl⟩
theorem rnew_eq {lim : Int} (h : 0 ≤ lim ∧ lim ≤ 64) : R19_New lim = some (rJ lim ([], []), 0) := by
  unfold R19_New
  simp only [lt_eq]
  rw [if_neg (by simp; omega)]
  simp only [Option.bind_some]
  rw [if_neg (by simp; omega)]
  rfl
theorem jv0 {lim : Int} (h : 0 ≤ lim ∧ lim ≤ 64) : Jv lim ([], []) := ⟨h.1, h.2, h.1, h.1, List.nodup_nil, fun x hx => by cases hx⟩
def eJ (c : BitVec 8) (n : Int) : api_Entry := ⟨[c], n, n, 0, []⟩
theorem works19 : L19_works = some true := by
  have J0 : Jv 2 ([], []) := jv0 ⟨by decide, by decide⟩
  have hv : ∀ c n, (eJ c n).Value.length ≤ 5000 := fun c n => by simp [eJ]
  have q1 : pushP 2 ([], []) (eJ 97#8 1) = (true, ([eJ 97#8 1], [])) := by decide +kernel
  have J1 := J0.push (hv 97#8 1); rw [q1] at J1
  have q2 : pushP 2 ([eJ 97#8 1], []) (eJ 98#8 1) = (true, ([eJ 97#8 1, eJ 98#8 1], [])) := by decide +kernel
  have J2 := J1.push (hv 98#8 1); rw [q2] at J2
  have q3 : pushP 2 ([eJ 97#8 1, eJ 98#8 1], []) (eJ 99#8 1) = (false, ([eJ 97#8 1, eJ 98#8 1], [])) := by decide +kernel
  have J3 := J2.push (hv 99#8 1); rw [q3] at J3
  have q4 : pushP 2 ([eJ 97#8 1, eJ 98#8 1], []) (eJ 97#8 2) = (true, ([eJ 98#8 1, eJ 97#8 2], [])) := by decide +kernel
  have J4 := J3.push (hv 97#8 2); rw [q4] at J4
  have J5 : Jv 2 ([eJ 97#8 2], []) := J4.pop
  have J6 : Jv 2 (bt [eJ 97#8 2] [97#8], []) := J5.bt [97#8]
  have b6 : bt [eJ 97#8 2] [97#8] = [] := by decide +kernel
  rw [b6] at J6
  have q7 : wantP 2 ([], []) [107#8] = (true, ([], [[107#8]])) := by decide +kernel
  have J7 := J6.want [107#8]; rw [q7] at J7
  have q8 : wantP 2 ([], [[107#8]]) [107#8] = (true, ([], [[107#8]])) := by decide +kernel
  have d5 : dropP ([eJ 97#8 2], []) [97#8] = (eJ 97#8 2, true) := by decide +kernel
  obtain ⟨o, a, h65⟩ := nnew_bad (lim := 65) (.inr (by decide))
  have p1 := push_eq 2 J0 (hv 97#8 1); rw [q1] at p1
  have p2 := push_eq 2 J1 (hv 98#8 1); rw [q2] at p2
  have p3 := push_eq 2 J2 (hv 99#8 1); rw [q3] at p3
  have p4 := push_eq 2 J3 (hv 97#8 2); rw [q4] at p4
  have p5 : jobs_Jobs_Pop (nJ 2 ([eJ 98#8 1, eJ 97#8 2], [])) = some (eJ 98#8 1, true, nJ 2 ([eJ 97#8 2], [])) := pop_eq 2 _
  have p6 := nfnd_eq 2 J5 [97#8]; rw [d5] at p6
  have p7 : jobs_Jobs_Drop (nJ 2 ([eJ 97#8 2], [])) [97#8] = some (eJ 97#8 2, true, nJ 2 ([], [])) := by
    unfold jobs_Jobs_Drop
    rw [drop_eq 2 J5, d5, b6]
    rfl
  have p8 := want_eq 2 J6 [107#8]; rw [q7] at p8
  have p9 := want_eq 2 J7 [107#8]; rw [q8] at p9
  have p10 := up_eq J7
  have p11 := down_eq J7
  unfold L19_works
  simp only [lt_eq]
  rw [nnew_eq (lim := 2) ⟨by decide, by decide⟩]
  simp only [Option.bind_some, Option.elim_some]
  rw [h65]
  simp only [Option.bind_some, Option.elim_none]
  rw [show (({ nJ 2 ([], []) with down_l := [], up_l := [] } : jobs_Jobs)) = nJ 2 ([], []) from rfl, show (⟨[97#8], 1, 1, 0, []⟩ : api_Entry) = eJ 97#8 1 from rfl, show (⟨[98#8], 1, 1, 0, []⟩ : api_Entry) = eJ 98#8 1 from rfl, show (⟨[99#8], 1, 1, 0, []⟩ : api_Entry) = eJ 99#8 1 from rfl, show (⟨[97#8], 2, 2, 0, []⟩ : api_Entry) = eJ 97#8 2 from rfl]
  simp only [p1, p2, p3, p4, p5, p6, p7, p8, p9, p10, p11, Option.bind_some, trouble_Of, codeOf, Err.isNil]
  rfl
end Go.Proofs.YtmgjdbbggajljaaDoor
namespace Go.Proofs.YtmgjdbbggajljaaDoor
open Go Go.Va
set_option linter.unusedSimpArgs false
set_option linter.unusedVariables false
def wf_runtime_boundsError (x : runtime_boundsError) : Prop := (wfI .i64) x.x ∧ (wfI .i64) x.y ∧ wfT x.signed ∧ wfT x.code
def wf_runtime_errorAddressString (x : runtime_errorAddressString) : Prop := wfS x.msg ∧ wfT x.addr
def wf_api_Entry (x : api_Entry) : Prop := wfS x.Key ∧ (wfI .i64) x.Version ∧ (wfI .i64) x.AsOf ∧ (wfI .i64) x.Ends ∧ (wfL wfT) x.Value
theorem opens42 : Opens Tryd.prog 42 e_api_Entry wf_api_Entry := by
  intro H enc w fuel cs x hx
  obtain ⟨xs, m, _, _, hl, hn, hx⟩ := DataW.trod_struct Tryd.underlying42 hx
  rw [cellsOf_sz tk sz42 (by decide)] at hl
  obtain ⟨y0, w0, r0, o0⟩ := opens_f hx hn 0 (o := 0) (s := 1) rfl (opens_s Tryd.underlying9) rfl (cellsOf_sz tk sz9 (by decide))
  obtain ⟨y1, w1, r1, o1⟩ := opens_f hx hn 1 (o := 1) (s := 1) rfl (opens_i64 Tryd.underlying3) rfl (cellsOf_sz tk sz3 (by decide))
  obtain ⟨y2, w2, r2, o2⟩ := opens_f hx hn 2 (o := 2) (s := 1) rfl (opens_i64 Tryd.underlying3) rfl (cellsOf_sz tk sz3 (by decide))
  obtain ⟨y3, w3, r3, o3⟩ := opens_f hx hn 3 (o := 3) (s := 1) rfl (opens_i64 Tryd.underlying3) rfl (cellsOf_sz tk sz3 (by decide))
  obtain ⟨y4, w4, r4, o4⟩ := opens_f hx hn 4 (o := 4) (s := 1) rfl (opens_l tk Tryd.underlying40 (enc_u td5 sz5) (opens_u rfl rfl Tryd.underlying5)) rfl (cellsOf_sz tk sz40 (by decide))
  refine ⟨⟨y0, y1, y2, y3, y4⟩, ⟨w0, w1, w2, w3, w4⟩, ?_, ?_⟩
  · have h := (rel_piece r0 (rel_piece r1 (rel_piece r2 (rel_piece r3 (rel_piece r4 (rel_end hl))))))
    rw [List.drop_zero] at h
    first | exact h | (simp only [List.append_nil, List.append_assoc] at h ⊢; exact h) | (simpa [AV.cells, e_api_Entry, c_api_Entry] using h)
  · have h := (one_piece o0 (one_piece o1 (one_piece o2 (one_piece o3 (one_piece o4 (one_end hl))))))
    rw [List.drop_zero] at h
    exact h
def wf_R19_Jobs (x : R19_Jobs) : Prop := (wfI .i64) x.Limit ∧ (wfL wf_api_Entry) x.Down ∧ (wfL wfS) x.Up
def wf_L19_Op (x : L19_Op) : Prop := (wfI .i64) x.Kind ∧ wf_api_Entry x.X
theorem opens44 : Opens Tryd.prog 44 e_L19_Op wf_L19_Op := by
  intro H enc w fuel cs x hx
  obtain ⟨xs, m, _, _, hl, hn, hx⟩ := DataW.trod_struct Tryd.underlying44 hx
  rw [cellsOf_sz tk sz44 (by decide)] at hl
  obtain ⟨y0, w0, r0, o0⟩ := opens_f hx hn 0 (o := 0) (s := 1) rfl (opens_i64 Tryd.underlying3) rfl (cellsOf_sz tk sz3 (by decide))
  obtain ⟨y1, w1, r1, o1⟩ := opens_f hx hn 1 (o := 1) (s := 5) rfl opens42 rfl (cellsOf_sz tk sz42 (by decide))
  refine ⟨⟨y0, y1⟩, ⟨w0, w1⟩, ?_, ?_⟩
  · have h := (rel_piece r0 (rel_piece r1 (rel_end hl)))
    rw [List.drop_zero] at h
    first | exact h | (simp only [List.append_nil, List.append_assoc] at h ⊢; exact h) | (simpa [AV.cells, e_L19_Op, c_L19_Op] using h)
  · have h := (one_piece o0 (one_piece o1 (one_end hl)))
    rw [List.drop_zero] at h
    exact h
def wf_reflectlite_ValueError (x : reflectlite_ValueError) : Prop := wfS x.Method ∧ wfT x.Kind
def wf_abi_Method (x : abi_Method) : Prop := (wfI .i32) x.Name ∧ (wfI .i32) x.Mtyp ∧ (wfI .i32) x.Ifn ∧ (wfI .i32) x.Tfn
end Go.Proofs.YtmgjdbbggajljaaDoor
namespace Go.Proofs.YtmgjdbbggajljaaDoor
open Go Go.Va
set_option linter.unusedVariables false
set_option linter.unusedSimpArgs false
theorem fx_uq {d : List api_Entry} (h : Uq d) {i : Nat} (hi : i < d.length) : fx d d[i].Key = some i := by
  unfold fx
  rw [List.findIdx?_eq_some_iff_getElem]
  refine ⟨hi, by simp, fun j hj => ?_⟩
  have hjl : j < d.length := by omega
  have h1 := (List.nodup_iff_pairwise_ne.1 h)
  rw [List.pairwise_map, List.pairwise_iff_getElem] at h1
  have := h1 j i hjl hi hj
  simpa using this
theorem fx_bt (d : List api_Entry) (k : List (BitVec 8)) : fx (bt d k) k = none := by
  unfold fx
  rw [List.findIdx?_eq_none_iff]
  intro x hx
  have := bt_key hx
  simpa using this
theorem JobsOnce_pure (lim : BitVec 8) (l : List L19_Op) (x : api_Entry) (h0 : wfT lim) (hw : wfL wf_L19_Op l) (hx : wf_api_Entry x) : L19_JobsOnce lim l x = some true := by
  unfold L19_JobsOnce
  simp only [lt_eq]
  rcases light_eq19 l with h | ⟨h, hl, hv⟩
  · rw [h]
    simp only [Option.bind_some, Bool.not_false, if_true, works19]
  · rw [h]
    simp only [Option.bind_some, Bool.not_true, Bool.false_eq_true, if_false]
    rcases light_eq [x] with h6 | ⟨h6, -, h7⟩
    · rw [h6]
      simp only [Option.bind_some]
      rw [if_pos (by decide), works19]
      rfl
    · rw [h6]
      have hxv : x.Value.length ≤ 5000 := (h7 x List.mem_cons_self).2
      simp only [Option.bind_some]
      rw [if_neg (by decide)]
      obtain ⟨n, hn, hn1⟩ : ∃ n : Int, w64 (1 + Int.tmod (lim.toNat : Int) 20) = n ∧ 1 ≤ n ∧ n ≤ 20 := by
        have e : Int.tmod (lim.toNat : Int) 20 = ((lim.toNat % 20 : Nat) : Int) := by rw [Int.tmod_eq_emod_of_nonneg (by omega)]; omega
        have hlt := Nat.mod_lt lim.toNat (show 20 > 0 by decide)
        refine ⟨_, rfl, ?_⟩
        rw [e, w64_eq (by omega) (by omega)]
        omega
      rw [hn]
      have hr : 0 ≤ n ∧ n ≤ 64 := by omega
      rw [nnew_eq hr, rnew_eq hr]
      simp only [Option.bind_some, Option.elim_some, Err.isNil, Bool.not_true, Bool.false_eq_true, if_false]
      rw [show (({ nJ n ([], []) with down_l := [], up_l := [] } : jobs_Jobs)) = nJ n ([], []) from rfl]
      have key := loopO_inv (body := fun z => L19_JobsOnce_b0 l x n z.1 z.2.1 z.2.2) (fun z => ∃ (j : Nat) (s : Jq), z = ((j : Int), rJ n s, nJ n s) ∧ j ≤ l.length ∧ Jv n s) (fun z => (l.length : Int).toNat - z.1.toNat) (fun y => ∃ s, y = (rJ n s, nJ n s) ∧ Jv n s) (by
        rintro z ⟨j, s, rfl, hj, J⟩
        unfold L19_JobsOnce_b0
        simp only [lt_eq]
        by_cases hjl : j < l.length
        · left
          have ho := hv _ (List.getElem_mem hjl)
          rw [if_pos (decide_eq_true (by omega)), ix_nat hjl]
          simp only [Option.bind_some]
          rw [do_eq19 J ho]
          simp only [Option.bind_some]
          rw [w64_nat (by omega)]
          exact ⟨_, rfl, ⟨j + 1, actP n s l[j], rfl, hjl, J.act ho⟩, by simp only; omega⟩
        · right
          rw [if_neg (by simp; omega)]
          exact ⟨_, rfl, s, rfl, J⟩) (s := ((0 : Int), rJ n ([], []), nJ n ([], []))) ⟨0, ([], []), rfl, Nat.zero_le _, jv0 hr⟩
      obtain ⟨y, k1, s, rfl, J⟩ := key
      have k1' : L19_JobsOnce_l0 l x n ((0 : Int), rJ n ([], []), nJ n ([], [])) = some (rJ n s, nJ n s) := k1
      rw [k1']
      simp only [Option.bind_some]
      rw [push_eq n J hxv]
      simp only [Option.bind_some]
      have J2 := J.push hxv
      have hd := J2.d; have hu := J2.u
      rw [down_eq J2, up_eq J2]
      simp only [Option.bind_some]
      have hA : ∀ t : Jq, t = (pushP n s x).2 → (if decide ((t.1.length : Int) > n) = true then some true else if decide ((t.2.length : Int) > n) = true then some true else if (pushP n s x).1 = true then (if ((t.1.length : Int) == 0) = true then some true else (ix t.1 (w64 ((t.1.length : Int) - 1))).bind fun v116 => (R06_Same v116 x).bind fun v118 => if (!v118) = true then some true else some false) else (R06_Find t.1 x.Key).bind fun v123 => some (decide (v123 ≥ 0))) = some false := by
        intro t ht
        subst ht
        rw [if_neg (by simp; omega), if_neg (by simp; omega)]
        unfold pushP at hd ⊢
        by_cases hc : n ≤ ((bt s.1 x.Key).length : Int)
        · rw [if_pos hc] at hd ⊢
          simp only at hd
          simp only [Bool.false_eq_true, if_false]
          rw [rfind_eq _ _ (by omega), fx_bt]
          rfl
        · rw [if_neg hc] at hd ⊢
          simp only at hd
          simp only [if_true]
          have hlen : (bt s.1 x.Key ++ [x]).length = (bt s.1 x.Key).length + 1 := by simp
          rw [if_neg (by rw [hlen]; simp; omega), hlen, w64_eq (by omega) (by omega), show (((bt s.1 x.Key).length + 1 : Nat) : Int) - 1 = ((bt s.1 x.Key).length : Int) by omega, ix_nat (by rw [hlen]; omega)]
          simp only [Option.bind_some, List.getElem_concat_length]
          rw [same_eq6 _ _ (by omega)]
          simp
      rw [hA _ rfl]
      generalize (pushP n s x).2 = t at J2 hd hu ⊢
      simp only [Option.bind_some, Bool.false_eq_true, if_false]
      have hB : ∀ v, L19_JobsOnce_l1 (rJ n s, nJ n s) v t.1 0 = some (.inl ()) := by
        intro v
        have key := loopO_up (body := fun z => L19_JobsOnce_b1 (rJ n s, nJ n s) v t.1 z) (fun j => ((j : Nat) : Int)) t.1.length (x := .inl ()) (fun j hj => by
          unfold L19_JobsOnce_b1
          simp only [lt_eq]
          rw [if_pos (decide_eq_true (by omega)), ix_nat hj]
          simp only [Option.bind_some]
          rw [rfind_eq _ _ (by omega), fx_uq J2.k hj]
          simp only [Option.bind_some, ixI, bne_self_eq_false, Bool.false_eq_true, if_false]
          rw [w64_nat (by omega)]) (by
          unfold L19_JobsOnce_b1
          simp only [lt_eq]
          rw [if_neg (by simp)])
        exact key
      rw [hB]
      simp only [Option.bind_some, Sum.elim_inl]
      have hC : L19_JobsOnce_l2 (rJ n s, nJ n s) t.1 ((0 : Int), nJ n t) = some (.inl (nJ n ([], t.2))) := by
        have key := loopO_up (body := fun z => L19_JobsOnce_b2 (rJ n s, nJ n s) t.1 z.1 z.2) (fun j => ((j : Int), nJ n (t.1.drop j, t.2))) t.1.length (x := .inl (nJ n (t.1.drop t.1.length, t.2))) (fun j hj => by
          unfold L19_JobsOnce_b2
          simp only [lt_eq]
          have hv := J2.v _ (List.getElem_mem hj)
          rw [if_pos (decide_eq_true (by omega)), pop_eq]
          have hp : popP (t.1.drop j, t.2) = (t.1[j], true, (t.1.drop (j + 1), t.2)) := by
            unfold popP
            simp only
            rw [List.drop_eq_getElem_cons hj]
          rw [hp]
          simp only [Option.bind_some, Bool.not_true, Bool.false_eq_true, if_false]
          rw [ix_nat hj]
          simp only [Option.bind_some]
          rw [same_eq6 _ _ (by omega)]
          simp only [decide_true, Option.bind_some, Bool.not_true, Bool.false_eq_true, if_false]
          rw [w64_nat (by omega)]) (by
          unfold L19_JobsOnce_b2
          simp only [lt_eq]
          rw [if_neg (by simp)])
        rw [List.drop_length] at key
        exact key
      rw [hC]
      simp only [Option.bind_some, Sum.elim_inl]
      rw [pop_eq]
      simp only [popP, Option.bind_some, Bool.not_false, if_true, works19]
end Go.Proofs.YtmgjdbbggajljaaDoor
namespace Go.Proofs.YtmgjdbbggajljaaDoor
open Go.ChangeShapes Go.WideShapes Go.RowKit
theorem own : ownKnob Tryd.prog.godebug = none := by kernel_rfl
theorem laidEt : Tryd.prog.globalNamed "errors.errorType" = some 0 := by kernel_rfl
theorem laidRt : (Tryd.prog.cutTypes.find? (·.1 == "internal/reflectlite.rtype")).map (·.2) = some 109 := by kernel_rfl
theorem laidRow : ((List.range 154).filter fun t => Tryd.prog.rowNamed t [101, 114, 114, 111, 114]) = [27] := by kernel_rfl
theorem laidSize : Tryd.prog.types.size = 154 := by kernel_rfl
def laidL {H : Type} : List (String × DataW H) := [("errors.errorType", Rows.laid_errors_errorType)]
theorem handle_of_laid {W : World} (h : laidMetH Tryd.prog laidL W) : W.cell? ⟨0, 0, none⟩ = some (.iface 109 (.agg #[.pointer (some ⟨1, 27, none⟩)])) := by
  have h' : laidMet Tryd.prog [] W ∧ handlesMet Tryd.prog laidL W := h
  obtain ⟨name, u, ty, e1, e2, e3, e4, e5⟩ := h'.2 _ (List.mem_singleton.2 rfl)
  have en : name = [101, 114, 114, 111, 114] := (Option.some.inj e1).symm
  subst en
  obtain rfl := Option.some.inj (laidRt.symm.trans e2)
  have hm : ty ∈ (List.range 154).filter fun t => Tryd.prog.rowNamed t [101, 114, 114, 111, 114] := List.mem_filter.2 ⟨List.mem_range.2 (by rw [← laidSize]; exact e3), e4⟩
  rw [laidRow] at hm
  obtain rfl := List.mem_singleton.1 hm
  have hh : typeHandle Tryd.prog 27 = .pointer (some ⟨1, 27, none⟩) := by kernel_rfl
  rw [hh] at e5
  simpa using World.var?_cell laidEt e5 0
noncomputable def laidWorld (os : Os) : World :=
  let w0 := World.holding Tryd.prog os ⟨#[], #[], []⟩
  { w0 with heap := w0.heap.modify 0 fun
      | .cells _ t frozen => .cells #[.iface 109 (.agg #[.pointer (some ⟨1, 27, none⟩)])] t frozen
      | o => o }
theorem laidWorld_met (os : Os) (args : Array Value) : laidMetH Tryd.prog laidL ((laidWorld os).forCall (fun _ _ => 0) ⟨#[], args, []⟩).memory :=
  laidMetH_of_parts (laidMet_nil _ _) (by kernel_rfl)
theorem gls_met {W : World} (h : laidMetH Tryd.prog laidL W) : ∀ p ∈ gls, W.cell? p.1 = some p.2 := by
  intro p hp
  obtain rfl := List.mem_singleton.1 hp
  exact handle_of_laid h
theorem laidOut : laidOutB Tryd.prog = true := by kernel_rfl
end Go.Proofs.YtmgjdbbggajljaaDoor
