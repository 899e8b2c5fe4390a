/- Whatever is set, got, dropped and swept, each call answers what the chapter says, and what is in the tier is what it says. (part 8 of 8) -/
import Derived.Test.YtggeboakilalhaaGreatDoorKRamDoes7
import Derived.Below
import Derived.ChangeOld
import Derived.OpenShut
import Derived.ProofKit
import Derived.SevenTiedAt
import Derived.ShutString
import Derived.SizedLaws
import Derived.Test.YtggeboakilalhaaGreatDoorCards
import Derived.Test.YtggeboakilalhaaGreatDoorRows
import Derived.Test.YtggeboakilalhaaGreatDoorTie
import Derived.WalkKit
namespace Go.Proofs.YtggeboakilalhaaGreatDoor.ramDoes
open Go.ChangeShapes Go.WideShapes Go.ChangeAt Go.RowKit Go.Va Go.Proofs.YtggeboakilalhaaGreatDoor
open Go.ChangeMaps (open_string shut_string)
set_option linter.unusedVariables false
set_option maxRecDepth 20000
set_option maxRecDepth 100000 in
theorem lifted (os : Os) (started : os.Started) (H : Type) (enc : TypeId × Value → H) :
    ReturnsInHanded {} Tryz.checked os 3 .any (fun w args => (Rows.ramDoesSpec.pre enc Tryz.prog Tryz.f3 [] false w args ∧ laidMetH Tryz.prog laidL w) ∧ sizedMet enc Tryz.prog Tryz.f3 (OpenSpec.ofChange Rows.ramDoesSpec) false w args)
      (Rows.ramDoesSpec.post enc Tryz.prog Tryz.f3 false true false false) := by
  refine returnsInHanded_of_change_and (C := Tryz.checked) (X := fun w _ => laidMetH Tryz.prog laidL w) (fun _ _ _ hh h => h.of_heap hh) own started (by kernel_rfl) Tryz.func3
    (ChangeSpec.witness_at (enc := enc) (C := Tryz.checked) (os := os) (X := fun w _ => laidMetH Tryz.prog laidL w) false (laidWorld os) #[.int .i64 0, .slice none 0 0, .agg #[.string ByteArray.empty, .int .i64 0, .int .i64 0, .int .i64 0, .slice none 0 0]] 8 rfl (by kernel_rfl) (by kernel_rfl) (by kernel_rfl) (by kernel_rfl) (by kernel_rfl) (laidWorld_met os _)) ?_
  intro W base args ds gs before hval0 hW _ _ hL _
  have hval : ∀ (j : Nat) t v, Tryz.f3.params[j]? = some t → args[j]? = some v → Value.okWide Tryz.prog W .any base t v := hval0
  have hW' := hW
  obtain ⟨p, q, hA0, hV0, rfl, hfz, hnd⟩ := hW
  have hA : DataW.TrodAll enc Tryz.prog W 0 (fun _ => true) true Tryz.f3.params.toList args.toList ds p := hA0
  have hV : DataW.TrodVars enc Tryz.prog W (fun _ => true) [] gs q := hV0
  rw [Tryz.params3] at hA hval
  obtain ⟨v0, vs0, d0, ds0, p0, q0, hargs, rfl, rfl, h0, r0⟩ := trodAll_cons hA
  obtain ⟨v1, vs1, d1, ds1, p1, q1, rfl, rfl, rfl, h1, r1⟩ := trodAll_cons r0
  obtain ⟨v2, vs2, d2, ds2, p2, q2, rfl, rfl, rfl, h2, r2⟩ := trodAll_cons r1
  obtain ⟨rfl, rfl, rfl⟩ := trodAll_nil r2
  obtain rfl : args = #[v0, v1, v2] := by cases args; simp_all
  obtain ⟨rfl, rfl⟩ : gs = [] ∧ q = [] := by
    cases gs with
    | nil => exact ⟨rfl, hV⟩
    | cons g r => exact absurd hV (by intro h; cases h)
  have lt0 : ∀ x ∈ p0, x.block < W.heap.size := by obtain ⟨m, hm⟩ := h0; exact DataW.trod_lt m _ _ _ hm
  obtain ⟨x0, wf0, e0⟩ := Opens.arg (Ty := ty) (opens_i64 Tryz.underlying3) (enc_i64 td3 sz3) ok3.d (hval 0 3 v0 rfl rfl) h0
  have lt1 : ∀ x ∈ p1, x.block < W.heap.size := by obtain ⟨m, hm⟩ := h1; exact DataW.trod_lt m _ _ _ hm
  obtain ⟨x1, wf1, e1⟩ := Opens.arg (Ty := ty) (opens_l tk Tryz.underlying22 enc44 opens44) (enc_l td22 sz22 enc44.cut) ok22.d (hval 1 22 v1 rfl rfl) h1
  have lt2 : ∀ x ∈ p2, x.block < W.heap.size := by obtain ⟨m, hm⟩ := h2; exact DataW.trod_lt m _ _ _ hm
  obtain ⟨x2, wf2, e2⟩ := Opens.arg (Ty := ty) opens25 enc25 ok25.d (hval 2 25 v2 rfl rfl) h2
  have hcall := ACall.said (w := W) (vs := #[v0, v1, v2]) (gl := gls) (gls_met hL) (L11_RamDoes_ok (RamDoes_pure x0 x1 x2 wf0 wf1 wf2) _ rfl) (RelL.cons e0 (RelL.cons e1 (RelL.cons e2 (RelL.nil _))))
  clear hA0 hval0
  refine hcall.mono fun e W' ⟨he, bel⟩ => ?_
  subst he
  exact ⟨_, rfl, _, _, _, [], _, [], hW', trodAll_mk1 (shut_bool Tryz.underlying4 _), (trodAll_cons_mk (Below.trod laidOut (by kernel_rfl) (of_decide_eq_true (by kernel_rfl)) h0 bel lt0) (trodAll_cons_mk (Below.trod laidOut (by kernel_rfl) (of_decide_eq_true (by kernel_rfl)) h1 bel lt1) (trodAll_cons_mk (Below.trod laidOut (by kernel_rfl) (of_decide_eq_true (by kernel_rfl)) h2 bel lt2) trodAll_mk0))), rfl, bel.frame _, fun h => by cases h⟩
theorem over : Rows.ramDoesRow.holds Tryz.pinned (OpenSpec.ofChange Rows.ramDoesSpec) :=
  OpenClaim.holds_of_wide 3 Tryz.f3 rfl rfl rfl rfl rfl rfl rfl ⟨rfl, rfl, rfl, rfl, rfl⟩ rfl rfl rfl rfl rfl (by kernel_rfl) Tryz.func3 (by kernel_rfl)
    (of_decide_eq_true (by kernel_rfl)) (by unfold Func.isWrapper; first | (rw [if_pos (by decide +kernel)]; kernel_rfl) | (rw [if_neg (by decide +kernel)]; exact ⟨rfl, rfl⟩))
    (fun os started H enc _ => lifted os started H enc)
theorem proved : Rows.RamDoesSaid := over
theorem card : Rows.RamDoesCardSaid :=
  Claim7.holds_tied_plain_at .later [] [.handle] true (true, "1dc668eb24bb2d87c08315e32a3ee3c8537e502043152fc5b53a839822a47ab4") true
    proved (fun _ h => by cases h) (by kernel_rfl) (fun _ h => by cases h) ramDoes_row_tie rfl ⟨rfl, rfl⟩ (by kernel_rfl) rfl
    (fun f fn hf hfn => by
      obtain rfl : f = 3 := Option.some.inj ((show Tryz.prog.funcNamed "buttery/butterylaw11.RamDoes" = some 3 by kernel_rfl).symm.trans hf) |>.symm
      obtain rfl : fn = Tryz.f3 := (Option.some.inj (Tryz.func3.symm.trans hfn)).symm
      exact ⟨by kernel_rfl, fun j t ht => by
        rw [Tryz.params3] at ht
        have hj : j < 3 := by
          have := (Array.getElem?_eq_some_iff.1 ht).1
          simpa using this
        match j, hj, ht with
        | 0, _, ht => obtain rfl : t = 3 := by simpa using ht.symm
                      exact (show Tryz.prog.wantsStandIn 3 = false by kernel_rfl)
        | 1, _, ht => obtain rfl : t = 22 := by simpa using ht.symm
                      exact (show Tryz.prog.wantsStandIn 22 = false by kernel_rfl)
        | 2, _, ht => obtain rfl : t = 25 := by simpa using ht.symm
                      exact (show Tryz.prog.wantsStandIn 25 = false by kernel_rfl)⟩)
    (by kernel_rfl)
end Go.Proofs.YtggeboakilalhaaGreatDoor.ramDoes
namespace Go.Proofs.YtggeboakilalhaaGreatDoor
theorem ramDoes_holds : Rows.RamDoesCardSaid := ramDoes.card
end Go.Proofs.YtggeboakilalhaaGreatDoor
