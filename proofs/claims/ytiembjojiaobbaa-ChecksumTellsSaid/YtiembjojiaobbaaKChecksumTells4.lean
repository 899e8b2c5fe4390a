/- SPOILT BYTES ARE TOLD: of bytes with their sum behind, of which some bits within 32 side by side were turned, the sum does not fit. (part 4 of 4) -/
import Derived.Test.YtiembjojiaobbaaKChecksumTells3
import Derived.Below
import Derived.ChangeOld
import Derived.OpenShut
import Derived.ProofKit
import Derived.ShutString
import Derived.SizedLaws
import Derived.Test.YtiembjojiaobbaaRows
import Derived.WalkKit
namespace Go.Proofs.Ytiembjojiaobbaa.checksumTells
open Go.ChangeShapes Go.WideShapes Go.ChangeAt Go.RowKit Go.Va Go.Proofs.Ytiembjojiaobbaa
open Go.ChangeMaps (open_string shut_string)
set_option linter.unusedVariables false
set_option maxRecDepth 20000
theorem own : ownKnob Try.prog.godebug = none := by kernel_rfl
theorem laidOut : laidOutB Try.prog = true := by kernel_rfl
set_option maxRecDepth 100000 in
theorem lifted (os : Os) (started : os.Started) (H : Type) (enc : TypeId × Value → H) :
    ReturnsInHanded {} Try.checked os 3 .any (Rows.checksumTellsSpec.pre6 enc Try.prog Try.f3 Rows.checksumTellsRow.domain false) (Rows.checksumTellsSpec.post enc Try.prog Try.f3 false true false false) := by
  refine returnsInHanded_of_change_sized (C := Try.checked) own started (by kernel_rfl) Try.func3
    (ChangeSpec.witness6 (enc := enc) (C := Try.checked) false ⟨#[], #[.slice none 0 0, .int .u16 0, .int .u32 0], []⟩ 8 (by kernel_rfl) (by kernel_rfl) (by kernel_rfl) (by kernel_rfl)) ?_
  intro W base args ds gs before hval0 hW hcnd hsz0 _
  have hval : ∀ (j : Nat) t v, Try.f3.params[j]? = some t → args[j]? = some v → Value.okWide Try.prog W .any base t v := hval0
  have hW' := hW
  obtain ⟨p, q, hA0, hV, rfl, hfz, hnd⟩ := hW
  have hA : DataW.TrodAll enc Try.prog W 0 (fun _ => true) true Try.f3.params.toList args.toList ds p := hA0
  rw [Try.params3] at hA hval
  obtain ⟨v0, vs0, d0, ds0, p0, q0, hargs, rfl, rfl, h0, r0⟩ := trodAll_cons hA
  obtain ⟨v1, vs1, d1, ds1, p1, q1, rfl, rfl, rfl, h1, r1⟩ := trodAll_cons r0
  obtain ⟨v2, vs2, d2, ds2, p2, q2, rfl, rfl, rfl, h2, r2⟩ := trodAll_cons r1
  obtain ⟨rfl, rfl, rfl⟩ := trodAll_nil r2
  obtain rfl : args = #[v0, v1, v2] := by cases args; simp_all
  obtain ⟨rfl, rfl⟩ := trodVars_none hV
  have lt0 : ∀ x ∈ p0, x.block < W.heap.size := by obtain ⟨m, hm⟩ := h0; exact DataW.trod_lt m _ _ _ hm
  obtain ⟨x0, wf0, e0⟩ := Opens.arg (Ty := ty) (opens_l tk Try.underlying22 (enc_u td5 sz5) (opens_u rfl rfl Try.underlying5)) (enc_l td22 sz22 (enc_u td5 sz5).cut) ok22.d (hval 0 22 v0 rfl rfl) h0
  have lt1 : ∀ x ∈ p1, x.block < W.heap.size := by obtain ⟨m, hm⟩ := h1; exact DataW.trod_lt m _ _ _ hm
  obtain ⟨x1, wf1, e1⟩ := Opens.arg (Ty := ty) (opens_u rfl rfl Try.underlying23) (enc_u td23 sz23) ok23.d (hval 1 23 v1 rfl rfl) h1
  have lt2 : ∀ x ∈ p2, x.block < W.heap.size := by obtain ⟨m, hm⟩ := h2; exact DataW.trod_lt m _ _ _ hm
  obtain ⟨x2, wf2, e2⟩ := Opens.arg (Ty := ty) (opens_u rfl rfl Try.underlying24) (enc_u td24 sz24) ok24.d (hval 2 24 v2 rfl rfl) h2
  have hcall := ACall.said (w := W) (vs := #[v0, v1, v2]) (gl := []) (fun p hp => by cases hp) (butterylaw03_ChecksumTells_ok (ChecksumTells_pure x0 x1 x2 wf0 wf1 wf2) _) (RelL.cons e0 (RelL.cons e1 (RelL.cons e2 (RelL.nil _))))
  clear hA0 hval0 hsz0
  refine hcall.mono fun e W' ⟨he, bel⟩ => ?_
  subst he
  exact ⟨_, rfl, _, _, _, [], _, [], hW', trodAll_mk1 (shut_bool Try.underlying4 _), (trodAll_cons_mk (Below.trod laidOut (by kernel_rfl) (of_decide_eq_true (by kernel_rfl)) h0 bel lt0) (trodAll_cons_mk (Below.trod laidOut (by kernel_rfl) (of_decide_eq_true (by kernel_rfl)) h1 bel lt1) (trodAll_cons_mk (Below.trod laidOut (by kernel_rfl) (of_decide_eq_true (by kernel_rfl)) h2 bel lt2) trodAll_mk0))), rfl, bel.frame _, fun h => by cases h⟩
theorem over : Rows.checksumTellsRow.holds Try.pinned (OpenSpec.ofChange Rows.checksumTellsSpec) :=
  OpenClaim.holds_of_wide 3 Try.f3 rfl rfl rfl rfl rfl rfl rfl ⟨rfl, rfl, rfl, rfl, rfl⟩ rfl rfl rfl rfl rfl (by kernel_rfl) Try.func3 (by kernel_rfl)
    (of_decide_eq_true (by kernel_rfl)) (by unfold Func.isWrapper; first | (rw [if_pos (by decide +kernel)]; kernel_rfl) | (rw [if_neg (by decide +kernel)]; exact ⟨rfl, rfl⟩))
    (fun os started H enc _ => lifted os started H enc)
theorem proved : Rows.ChecksumTellsSaid := over
end Go.Proofs.Ytiembjojiaobbaa.checksumTells
namespace Go.Proofs.Ytiembjojiaobbaa
/-- The row, under a short name, for the claim. -/
theorem checksumTells_holds : Rows.ChecksumTellsSaid := checksumTells.proved
end Go.Proofs.Ytiembjojiaobbaa
