/- The law BloomOrder: in which order keys come, and how often, is of no matter; it holds of every input, without a condition. (part 4 of 4) -/
import Derived.Test.YtnjijefhnmnjgaaKBloomOrder3
import Derived.Below
import Derived.ChangeOld
import Derived.OpenShut
import Derived.ProofKit
import Derived.ShutString
import Derived.SizedLaws
import Derived.Test.YtnjijefhnmnjgaaRows
import Derived.WalkKit
namespace Go.Proofs.Ytnjijefhnmnjgaa.bloomOrder
open Go.ChangeShapes Go.WideShapes Go.ChangeAt Go.RowKit Go.Va Go.Proofs.Ytnjijefhnmnjgaa
open Go.ChangeMaps (open_string shut_string)
set_option linter.unusedVariables false
set_option maxRecDepth 20000
theorem own : ownKnob Try.prog.godebug = none := by kernel_rfl
theorem laidOut : laidOutB Try.prog = true := by kernel_rfl
set_option maxRecDepth 100000 in
theorem lifted (os : Os) (started : os.Started) (H : Type) (enc : TypeId × Value → H) :
    ReturnsInHanded {} Try.checked os 10 .any (Rows.bloomOrderSpec.pre6 enc Try.prog Try.f10 Rows.bloomOrderRow.domain false) (Rows.bloomOrderSpec.post enc Try.prog Try.f10 false true false false) := by
  refine returnsInHanded_of_change_sized (C := Try.checked) own started (by kernel_rfl) Try.func10
    (ChangeSpec.witness6 (enc := enc) (C := Try.checked) false ⟨#[], #[.slice none 0 0], []⟩ 8 (by kernel_rfl) (by kernel_rfl) (by kernel_rfl) (by kernel_rfl)) ?_
  intro W base args ds gs before hval0 hW hcnd hsz0 _
  have hval : ∀ (j : Nat) t v, Try.f10.params[j]? = some t → args[j]? = some v → Value.okWide Try.prog W .any base t v := hval0
  have hW' := hW
  obtain ⟨p, q, hA0, hV, rfl, hfz, hnd⟩ := hW
  have hA : DataW.TrodAll enc Try.prog W 0 (fun _ => true) true Try.f10.params.toList args.toList ds p := hA0
  rw [Try.params10] at hA hval
  obtain ⟨v0, vs0, d0, ds0, p0, q0, hargs, rfl, rfl, h0, r0⟩ := trodAll_cons hA
  obtain ⟨rfl, rfl, rfl⟩ := trodAll_nil r0
  obtain rfl : args = #[v0] := by cases args; simp_all
  obtain ⟨rfl, rfl⟩ := trodVars_none hV
  have lt0 : ∀ x ∈ p0, x.block < W.heap.size := by obtain ⟨m, hm⟩ := h0; exact DataW.trod_lt m _ _ _ hm
  obtain ⟨x0, wf0, e0⟩ := Opens.arg (Ty := ty) (opens_l tk Try.underlying41 (enc_s td9 sz9) (opens_s Try.underlying9)) (enc_l td41 sz41 (enc_s td9 sz9).cut) ok41.d (hval 0 41 v0 rfl rfl) h0
  have hcall := ACall.said (w := W) (vs := #[v0]) (butterylaw07_BloomOrder_ok (BloomOrder_pure x0 wf0) _) (RelL.cons e0 (RelL.nil _))
  clear hA0 hval0 hsz0
  refine hcall.mono fun e W' ⟨he, bel⟩ => ?_
  subst he
  exact ⟨_, rfl, _, _, _, [], _, [], hW', trodAll_mk1 (shut_bool Try.underlying4 _), (trodAll_cons_mk (Below.trod laidOut (by kernel_rfl) (of_decide_eq_true (by kernel_rfl)) h0 bel lt0) trodAll_mk0), rfl, bel.frame _, fun h => by cases h⟩
theorem over : Rows.bloomOrderRow.holds Try.pinned (OpenSpec.ofChange Rows.bloomOrderSpec) :=
  OpenClaim.holds_of_wide 10 Try.f10 rfl rfl rfl rfl rfl rfl rfl ⟨rfl, rfl, rfl, rfl, rfl⟩ rfl rfl rfl rfl rfl (by kernel_rfl) Try.func10 (by kernel_rfl)
    (of_decide_eq_true (by kernel_rfl)) (by unfold Func.isWrapper; first | (rw [if_pos (by decide +kernel)]; kernel_rfl) | (rw [if_neg (by decide +kernel)]; exact ⟨rfl, rfl⟩))
    (fun os started H enc _ => lifted os started H enc)
theorem proved : Rows.BloomOrderSaid := over
end Go.Proofs.Ytnjijefhnmnjgaa.bloomOrder
namespace Go.Proofs.Ytnjijefhnmnjgaa
/-- The row, under a short name, for the claim. -/
theorem bloomOrder_holds : Rows.BloomOrderSaid := bloomOrder.proved
end Go.Proofs.Ytnjijefhnmnjgaa
