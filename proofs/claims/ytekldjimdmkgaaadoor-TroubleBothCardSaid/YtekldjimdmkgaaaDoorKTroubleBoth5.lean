/- TWO FAULTS TOGETHER ARE OF THE CODES OF BOTH: and of no others; with none it is the other one. (part 5 of 5) -/
import Derived.Test.YtekldjimdmkgaaaDoorKTroubleBoth4
import Derived.Below
import Derived.ChangeOld
import Derived.OpenShut
import Derived.ProofKit
import Derived.SevenTiedAt
import Derived.ShutString
import Derived.SizedLaws
import Derived.Test.YtekldjimdmkgaaaDoorCards
import Derived.Test.YtekldjimdmkgaaaDoorRows
import Derived.Test.YtekldjimdmkgaaaDoorTie
import Derived.WalkKit
namespace Go.Proofs.YtekldjimdmkgaaaDoor.troubleBoth
open Go.ChangeShapes Go.WideShapes Go.ChangeAt Go.RowKit Go.Va Go.Proofs.YtekldjimdmkgaaaDoor
open Go.ChangeMaps (open_string shut_string)
set_option linter.unusedVariables false
set_option maxRecDepth 20000
set_option maxRecDepth 100000 in
theorem lifted (os : Os) (started : os.Started) (H : Type) (enc : TypeId × Value → H) :
    ReturnsInHanded {} Tryd.checked os 6 .any (fun w args => (Rows.troubleBothSpec.pre enc Tryd.prog Tryd.f6 [] false w args ∧ laidMetH Tryd.prog laidL w) ∧ sizedMet enc Tryd.prog Tryd.f6 (OpenSpec.ofChange Rows.troubleBothSpec) false w args)
      (Rows.troubleBothSpec.post enc Tryd.prog Tryd.f6 false true false false) := by
  refine returnsInHanded_of_change_and (C := Tryd.checked) (X := fun w _ => laidMetH Tryd.prog laidL w) (fun _ _ _ hh h => h.of_heap hh) own started (by kernel_rfl) Tryd.func6
    (ChangeSpec.witness_at (enc := enc) (C := Tryd.checked) (os := os) (X := fun w _ => laidMetH Tryd.prog laidL w) false (laidWorld os) #[.int .i64 0, .int .i64 0, .int .i64 0, .slice none 0 0, .slice none 0 0] 8 rfl (by kernel_rfl) (by kernel_rfl) (by kernel_rfl) (by kernel_rfl) (by kernel_rfl) (laidWorld_met os _)) ?_
  intro W base args ds gs before hval0 hW _ _ hL _
  have hval : ∀ (j : Nat) t v, Tryd.f6.params[j]? = some t → args[j]? = some v → Value.okWide Tryd.prog W .any base t v := hval0
  have hW' := hW
  obtain ⟨p, q, hA0, hV0, rfl, hfz, hnd⟩ := hW
  have hA : DataW.TrodAll enc Tryd.prog W 0 (fun _ => true) true Tryd.f6.params.toList args.toList ds p := hA0
  have hV : DataW.TrodVars enc Tryd.prog W (fun _ => true) [] gs q := hV0
  rw [Tryd.params6] at hA hval
  obtain ⟨v0, vs0, d0, ds0, p0, q0, hargs, rfl, rfl, h0, r0⟩ := trodAll_cons hA
  obtain ⟨v1, vs1, d1, ds1, p1, q1, rfl, rfl, rfl, h1, r1⟩ := trodAll_cons r0
  obtain ⟨v2, vs2, d2, ds2, p2, q2, rfl, rfl, rfl, h2, r2⟩ := trodAll_cons r1
  obtain ⟨v3, vs3, d3, ds3, p3, q3, rfl, rfl, rfl, h3, r3⟩ := trodAll_cons r2
  obtain ⟨v4, vs4, d4, ds4, p4, q4, rfl, rfl, rfl, h4, r4⟩ := trodAll_cons r3
  obtain ⟨rfl, rfl, rfl⟩ := trodAll_nil r4
  obtain rfl : args = #[v0, v1, v2, v3, v4] := by cases args; simp_all
  obtain ⟨rfl, rfl⟩ : gs = [] ∧ q = [] := by
    cases gs with
    | nil => exact ⟨rfl, hV⟩
    | cons g r => exact absurd hV (by intro h; cases h)
  have lt0 : ∀ x ∈ p0, x.block < W.heap.size := by obtain ⟨m, hm⟩ := h0; exact DataW.trod_lt m _ _ _ hm
  obtain ⟨x0, wf0, e0⟩ := Opens.arg (Ty := ty) (opens_i64 Tryd.underlying22) (enc_i64 td22 sz22) ok22.d (hval 0 22 v0 rfl rfl) h0
  have lt1 : ∀ x ∈ p1, x.block < W.heap.size := by obtain ⟨m, hm⟩ := h1; exact DataW.trod_lt m _ _ _ hm
  obtain ⟨x1, wf1, e1⟩ := Opens.arg (Ty := ty) (opens_i64 Tryd.underlying22) (enc_i64 td22 sz22) ok22.d (hval 1 22 v1 rfl rfl) h1
  have lt2 : ∀ x ∈ p2, x.block < W.heap.size := by obtain ⟨m, hm⟩ := h2; exact DataW.trod_lt m _ _ _ hm
  obtain ⟨x2, wf2, e2⟩ := Opens.arg (Ty := ty) (opens_i64 Tryd.underlying22) (enc_i64 td22 sz22) ok22.d (hval 2 22 v2 rfl rfl) h2
  have lt3 : ∀ x ∈ p3, x.block < W.heap.size := by obtain ⟨m, hm⟩ := h3; exact DataW.trod_lt m _ _ _ hm
  obtain ⟨x3, wf3, e3⟩ := Opens.arg (Ty := ty) (opens_l tk Tryd.underlying23 enc32 opens32) (enc_l td23 sz23 enc32.cut) ok23.d (hval 3 23 v3 rfl rfl) h3
  have lt4 : ∀ x ∈ p4, x.block < W.heap.size := by obtain ⟨m, hm⟩ := h4; exact DataW.trod_lt m _ _ _ hm
  obtain ⟨x4, wf4, e4⟩ := Opens.arg (Ty := ty) (opens_l tk Tryd.underlying23 enc32 opens32) (enc_l td23 sz23 enc32.cut) ok23.d (hval 4 23 v4 rfl rfl) h4
  have hcall := ACall.said (w := W) (vs := #[v0, v1, v2, v3, v4]) (gl := gls) (gls_met hL) (butterylaw01_TroubleBoth_ok (TroubleBoth_pure x0 x1 x2 x3 x4 wf0 wf1 wf2 wf3 wf4) _ rfl) (RelL.cons e0 (RelL.cons e1 (RelL.cons e2 (RelL.cons e3 (RelL.cons e4 (RelL.nil _))))))
  clear hA0 hval0
  refine hcall.mono fun e W' ⟨he, bel⟩ => ?_
  subst he
  exact ⟨_, rfl, _, _, _, [], _, [], hW', trodAll_mk1 (shut_bool Tryd.underlying4 _), (trodAll_cons_mk (Below.trod laidOut (by kernel_rfl) (of_decide_eq_true (by kernel_rfl)) h0 bel lt0) (trodAll_cons_mk (Below.trod laidOut (by kernel_rfl) (of_decide_eq_true (by kernel_rfl)) h1 bel lt1) (trodAll_cons_mk (Below.trod laidOut (by kernel_rfl) (of_decide_eq_true (by kernel_rfl)) h2 bel lt2) (trodAll_cons_mk (Below.trod laidOut (by kernel_rfl) (of_decide_eq_true (by kernel_rfl)) h3 bel lt3) (trodAll_cons_mk (Below.trod laidOut (by kernel_rfl) (of_decide_eq_true (by kernel_rfl)) h4 bel lt4) trodAll_mk0))))), rfl, bel.frame _, fun h => by cases h⟩
theorem over : Rows.troubleBothRow.holds Tryd.pinned (OpenSpec.ofChange Rows.troubleBothSpec) :=
  OpenClaim.holds_of_wide 6 Tryd.f6 rfl rfl rfl rfl rfl rfl rfl ⟨rfl, rfl, rfl, rfl, rfl⟩ rfl rfl rfl rfl rfl (by kernel_rfl) Tryd.func6 (by kernel_rfl)
    (of_decide_eq_true (by kernel_rfl)) (by unfold Func.isWrapper; first | (rw [if_pos (by decide +kernel)]; kernel_rfl) | (rw [if_neg (by decide +kernel)]; exact ⟨rfl, rfl⟩))
    (fun os started H enc _ => lifted os started H enc)
theorem proved : Rows.TroubleBothSaid := over
theorem card : Rows.TroubleBothCardSaid :=
  Claim7.holds_tied_plain_at .later [] [.handle] true (true, "09de986a61cb6d53c560ed45da07a0efb253a7296b424f2cdc6e86011c82d329") true
    proved (fun _ h => by cases h) (by kernel_rfl) (fun _ h => by cases h) troubleBoth_row_tie rfl ⟨rfl, rfl⟩ (by kernel_rfl) rfl
    (fun f fn hf hfn => by
      obtain rfl : f = 6 := Option.some.inj ((show Tryd.prog.funcNamed "buttery/butterylaw01.TroubleBoth" = some 6 by kernel_rfl).symm.trans hf) |>.symm
      obtain rfl : fn = Tryd.f6 := (Option.some.inj (Tryd.func6.symm.trans hfn)).symm
      exact ⟨by kernel_rfl, fun j t ht => by
        rw [Tryd.params6] at ht
        have hj : j < 5 := by
          have := (Array.getElem?_eq_some_iff.1 ht).1
          simpa using this
        match j, hj, ht with
        | 0, _, ht => obtain rfl : t = 22 := by simpa using ht.symm
                      exact (show Tryd.prog.wantsStandIn 22 = false by kernel_rfl)
        | 1, _, ht => obtain rfl : t = 22 := by simpa using ht.symm
                      exact (show Tryd.prog.wantsStandIn 22 = false by kernel_rfl)
        | 2, _, ht => obtain rfl : t = 22 := by simpa using ht.symm
                      exact (show Tryd.prog.wantsStandIn 22 = false by kernel_rfl)
        | 3, _, ht => obtain rfl : t = 23 := by simpa using ht.symm
                      exact (show Tryd.prog.wantsStandIn 23 = false by kernel_rfl)
        | 4, _, ht => obtain rfl : t = 23 := by simpa using ht.symm
                      exact (show Tryd.prog.wantsStandIn 23 = false by kernel_rfl)⟩)
    (by kernel_rfl)
end Go.Proofs.YtekldjimdmkgaaaDoor.troubleBoth
namespace Go.Proofs.YtekldjimdmkgaaaDoor
/-- The card, under a short name, for the claim. -/
theorem troubleBoth_holds : Rows.TroubleBothCardSaid := troubleBoth.card
end Go.Proofs.YtekldjimdmkgaaaDoor
