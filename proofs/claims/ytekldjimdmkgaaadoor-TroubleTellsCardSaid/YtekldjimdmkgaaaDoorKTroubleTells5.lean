/- A FAULT TELLS ITS LINKS: of any fault, wrapped however often, its links, its code, where it is, and its text are what the chapter says; of nothing there is none. (part 5 of 5) -/
import Derived.Test.YtekldjimdmkgaaaDoorKTroubleTells4
import Derived.Below
import Derived.ChangeOld
import Derived.OpenShut
import Derived.ProofKit
import Derived.SevenTiedAt
import Derived.ShutString
import Derived.SizedLaws
import Derived.Test.YtekldjimdmkgaaaDoorCards
import Derived.Test.YtekldjimdmkgaaaDoorRows
import Derived.Test.YtekldjimdmkgaaaDoorTie
import Derived.WalkKit
namespace Go.Proofs.YtekldjimdmkgaaaDoor.troubleTells
open Go.ChangeShapes Go.WideShapes Go.ChangeAt Go.RowKit Go.Va Go.Proofs.YtekldjimdmkgaaaDoor
open Go.ChangeMaps (open_string shut_string)
set_option linter.unusedVariables false
set_option maxRecDepth 20000
set_option maxRecDepth 100000 in
theorem lifted (os : Os) (started : os.Started) (H : Type) (enc : TypeId × Value → H) :
    ReturnsInHanded {} Tryd.checked os 3 .any (fun w args => (Rows.troubleTellsSpec.pre enc Tryd.prog Tryd.f3 [] false w args ∧ laidMetH Tryd.prog laidL w) ∧ sizedMet enc Tryd.prog Tryd.f3 (OpenSpec.ofChange Rows.troubleTellsSpec) false w args)
      (Rows.troubleTellsSpec.post enc Tryd.prog Tryd.f3 false true false false) := by
  refine returnsInHanded_of_change_and (C := Tryd.checked) (X := fun w _ => laidMetH Tryd.prog laidL w) (fun _ _ _ hh h => h.of_heap hh) own started (by kernel_rfl) Tryd.func3
    (ChangeSpec.witness_at (enc := enc) (C := Tryd.checked) (os := os) (X := fun w _ => laidMetH Tryd.prog laidL w) false (laidWorld os) #[.string ByteArray.empty, .int .i64 0, .int .i64 0, .slice none 0 0] 8 rfl (by kernel_rfl) (by kernel_rfl) (by kernel_rfl) (by kernel_rfl) (by kernel_rfl) (laidWorld_met os _)) ?_
  intro W base args ds gs before hval0 hW _ hz hL _
  have hval : ∀ (j : Nat) t v, Tryd.f3.params[j]? = some t → args[j]? = some v → Value.okWide Tryd.prog W .any base t v := hval0
  have hW' := hW
  obtain ⟨p, q, hA0, hV0, rfl, hfz, hnd⟩ := hW
  have hA : DataW.TrodAll enc Tryd.prog W 0 (fun _ => true) true Tryd.f3.params.toList args.toList ds p := hA0
  have hV : DataW.TrodVars enc Tryd.prog W (fun _ => true) [] gs q := hV0
  rw [Tryd.params3] at hA hval
  obtain ⟨v0, vs0, d0, ds0, p0, q0, hargs, rfl, rfl, h0, r0⟩ := trodAll_cons hA
  obtain ⟨v1, vs1, d1, ds1, p1, q1, rfl, rfl, rfl, h1, r1⟩ := trodAll_cons r0
  obtain ⟨v2, vs2, d2, ds2, p2, q2, rfl, rfl, rfl, h2, r2⟩ := trodAll_cons r1
  obtain ⟨v3, vs3, d3, ds3, p3, q3, rfl, rfl, rfl, h3, r3⟩ := trodAll_cons r2
  obtain ⟨rfl, rfl, rfl⟩ := trodAll_nil r3
  obtain rfl : args = #[v0, v1, v2, v3] := by cases args; simp_all
  obtain ⟨rfl, rfl⟩ : gs = [] ∧ q = [] := by
    cases gs with
    | nil => exact ⟨rfl, hV⟩
    | cons g r => exact absurd hV (by intro h; cases h)
  have lt0 : ∀ x ∈ p0, x.block < W.heap.size := by obtain ⟨m, hm⟩ := h0; exact DataW.trod_lt m _ _ _ hm
  obtain ⟨x0, wf0, e0⟩ := OpensW.arg (Ty := ty) (opensW_s Tryd.underlying9) (enc_s td9 sz9) ok9.d (hval 0 9 v0 rfl rfl) h0 (fun n hn => of_decide_eq_true (List.all_eq_true.1 hz n (DataW.weights_mem_each (j := 0) (t := 9) rfl rfl n hn)))
  have lt1 : ∀ x ∈ p1, x.block < W.heap.size := by obtain ⟨m, hm⟩ := h1; exact DataW.trod_lt m _ _ _ hm
  obtain ⟨x1, wf1, e1⟩ := OpensW.arg (Ty := ty) (Opens.w (opens_i64 Tryd.underlying3)) (enc_i64 td3 sz3) ok3.d (hval 1 3 v1 rfl rfl) h1 (fun n hn => of_decide_eq_true (List.all_eq_true.1 hz n (DataW.weights_mem_each (j := 1) (t := 3) rfl rfl n hn)))
  have lt2 : ∀ x ∈ p2, x.block < W.heap.size := by obtain ⟨m, hm⟩ := h2; exact DataW.trod_lt m _ _ _ hm
  obtain ⟨x2, wf2, e2⟩ := OpensW.arg (Ty := ty) (Opens.w (opens_i64 Tryd.underlying22)) (enc_i64 td22 sz22) ok22.d (hval 2 22 v2 rfl rfl) h2 (fun n hn => of_decide_eq_true (List.all_eq_true.1 hz n (DataW.weights_mem_each (j := 2) (t := 22) rfl rfl n hn)))
  have lt3 : ∀ x ∈ p3, x.block < W.heap.size := by obtain ⟨m, hm⟩ := h3; exact DataW.trod_lt m _ _ _ hm
  obtain ⟨x3, wf3, e3⟩ := OpensW.arg (Ty := ty) (opensW_l tk Tryd.underlying23 enc32 opensWSt) (enc_l td23 sz23 enc32.cut) ok23.d (hval 3 23 v3 rfl rfl) h3 (fun n hn => of_decide_eq_true (List.all_eq_true.1 hz n (DataW.weights_mem_each (j := 3) (t := 23) rfl rfl n hn)))
  have hcall := ACall.said (w := W) (vs := #[v0, v1, v2, v3]) (gl := gls) (gls_met hL) (butterylaw01_TroubleTells_ok (TroubleTells_pure x0 x1 x2 x3 wf0 wf1 wf2 wf3) _ rfl) (RelL.cons e0 (RelL.cons e1 (RelL.cons e2 (RelL.cons e3 (RelL.nil _)))))
  clear hA0 hval0
  refine hcall.mono fun e W' ⟨he, bel⟩ => ?_
  subst he
  exact ⟨_, rfl, _, _, _, [], _, [], hW', trodAll_mk1 (shut_bool Tryd.underlying4 _), (trodAll_cons_mk (Below.trod laidOut (by kernel_rfl) (of_decide_eq_true (by kernel_rfl)) h0 bel lt0) (trodAll_cons_mk (Below.trod laidOut (by kernel_rfl) (of_decide_eq_true (by kernel_rfl)) h1 bel lt1) (trodAll_cons_mk (Below.trod laidOut (by kernel_rfl) (of_decide_eq_true (by kernel_rfl)) h2 bel lt2) (trodAll_cons_mk (Below.trod laidOut (by kernel_rfl) (of_decide_eq_true (by kernel_rfl)) h3 bel lt3) trodAll_mk0)))), rfl, bel.frame _, fun h => by cases h⟩
theorem over : Rows.troubleTellsRow.holds Tryd.pinned (OpenSpec.ofChange Rows.troubleTellsSpec) :=
  OpenClaim.holds_of_wide 3 Tryd.f3 rfl rfl rfl rfl rfl rfl rfl ⟨rfl, rfl, rfl, rfl, rfl⟩ rfl rfl rfl rfl rfl (by kernel_rfl) Tryd.func3 (by kernel_rfl)
    (of_decide_eq_true (by kernel_rfl)) (by unfold Func.isWrapper; first | (rw [if_pos (by decide +kernel)]; kernel_rfl) | (rw [if_neg (by decide +kernel)]; exact ⟨rfl, rfl⟩))
    (fun os started H enc _ => lifted os started H enc)
theorem proved : Rows.TroubleTellsSaid := over
theorem card : Rows.TroubleTellsCardSaid :=
  Claim7.holds_tied_plain_at .later [] [.handle] true (true, "09de986a61cb6d53c560ed45da07a0efb253a7296b424f2cdc6e86011c82d329") true
    proved (fun _ h => by cases h) (by kernel_rfl) (fun _ h => by cases h) troubleTells_row_tie rfl ⟨rfl, rfl⟩ (by kernel_rfl) rfl
    (fun f fn hf hfn => by
      obtain rfl : f = 3 := Option.some.inj ((show Tryd.prog.funcNamed "buttery/butterylaw01.TroubleTells" = some 3 by kernel_rfl).symm.trans hf) |>.symm
      obtain rfl : fn = Tryd.f3 := (Option.some.inj (Tryd.func3.symm.trans hfn)).symm
      exact ⟨by kernel_rfl, fun j t ht => by
        rw [Tryd.params3] at ht
        have hj : j < 4 := by
          have := (Array.getElem?_eq_some_iff.1 ht).1
          simpa using this
        match j, hj, ht with
        | 0, _, ht => obtain rfl : t = 9 := by simpa using ht.symm
                      exact (show Tryd.prog.wantsStandIn 9 = false by kernel_rfl)
        | 1, _, ht => obtain rfl : t = 3 := by simpa using ht.symm
                      exact (show Tryd.prog.wantsStandIn 3 = false by kernel_rfl)
        | 2, _, ht => obtain rfl : t = 22 := by simpa using ht.symm
                      exact (show Tryd.prog.wantsStandIn 22 = false by kernel_rfl)
        | 3, _, ht => obtain rfl : t = 23 := by simpa using ht.symm
                      exact (show Tryd.prog.wantsStandIn 23 = false by kernel_rfl)⟩)
    (by kernel_rfl)
end Go.Proofs.YtekldjimdmkgaaaDoor.troubleTells
namespace Go.Proofs.YtekldjimdmkgaaaDoor
/-- The card, under a short name, for the claim. -/
theorem troubleTells_holds : Rows.TroubleTellsCardSaid := troubleTells.card
end Go.Proofs.YtekldjimdmkgaaaDoor
