/- A blank page torn by a write is told to be torn, or to have no stamp, or it is that page. (part 4 of 7) -/
import Derived.Test.YtgfedohhkbmobaaDoorKLeafFresh3
import Derived.LaidEql
import Derived.RowKitTokens
import Derived.Stop.Asserts
import Derived.Test.YtgfedohhkbmobaaDoorProg
import Derived.WalkKit
namespace Go.Proofs.YtgfedohhkbmobaaDoor
open Go Go.Va
set_option linter.unusedVariables false
set_option linter.unusedSimpArgs false
set_option maxRecDepth 20000
noncomputable def butteryref02_Same_b0 (x0 : List (BitVec 8)) (x1 : List (BitVec 8)) (c8 : Int) : Option ((Int) ⊕ (Unit ⊕ (Bool))) :=
  lt (((x0).length : Int)) fun v19 =>
  lt (decide (c8 < v19)) fun v21 =>
  if v21 = true then
    (ix x0 c8).bind fun v24 =>
    (ix x1 c8).bind fun v26 =>
    lt (v24 != v26) fun v28 =>
    if v28 = true then
      some (.inr (.inr false))
    else
      lt (w64 (c8 + (1 : Int))) fun v32 =>
      some (.inl v32)
  else
    some (.inr (.inl ()))
noncomputable def butteryref02_Same_l0 (x0 : List (BitVec 8)) (x1 : List (BitVec 8)) (s : Int) : Option (Unit ⊕ (Bool)) := loopO (fun s => butteryref02_Same_b0 x0 x1 s) s
noncomputable def butteryref02_Same (x0 : List (BitVec 8)) (x1 : List (BitVec 8)) : Option (Bool) :=
  lt (((x0).length : Int)) fun v2 =>
  lt (((x1).length : Int)) fun v4 =>
  lt (v2 != v4) fun v6 =>
  if v6 = true then
    some false
  else
    (butteryref02_Same_l0 x0 x1 (0 : Int)).bind fun o9 =>
      Sum.elim (fun s16 : Unit =>
        some true
        ) (fun y => some y) o9
end Go.Proofs.YtgfedohhkbmobaaDoor
namespace Go.Proofs.YtgfedohhkbmobaaDoor
open Go Go.Va
set_option linter.unusedVariables false
set_option linter.unusedSimpArgs false
set_option maxRecDepth 20000
noncomputable def butteryref05_Check (x0 : api_Leaf) : Option (Int) :=
  (
    lt (decide (x0.Stamp < (1 : Int))) fun v6 =>
    if v6 = true then
      some true
    else
      lt (decide (x0.Stamp > (1099511627776 : Int))) fun v9 =>
      some v9
   : Option (Bool)).bind fun s1 =>
    if s1 = true then
      some (2 : Int)
    else
      (
        lt (decide (x0.Kind < (1 : Int))) fun v17 =>
        if v17 = true then
          some true
        else
          lt (decide (x0.Kind > (5 : Int))) fun v20 =>
          some v20
       : Option (Bool)).bind fun s12 =>
        if s12 = true then
          some (12 : Int)
        else
          lt (((x0.Bytes).length : Int)) fun v24 =>
          lt (decide (v24 > (233 : Int))) fun v26 =>
          if v26 = true then
            some (3 : Int)
          else
            some (0 : Int)
end Go.Proofs.YtgfedohhkbmobaaDoor
namespace Go.Proofs.YtgfedohhkbmobaaDoor
open Go Go.Va
set_option linter.unusedVariables false
set_option linter.unusedSimpArgs false
set_option maxRecDepth 20000
noncomputable def butterylaw05_LeafFresh (x0 : api_Leaf) (x1 : BitVec 16) : Option (Bool) :=
  (butteryref05_Check x0).bind fun v2 =>
  lt (v2 != (0 : Int)) fun v4 =>
  if v4 = true then
    (butterylaw05_works).bind fun v7 =>
    some v7
  else
    (leaf_Put x0).bind fun v9 =>
    (
      lt (!Err.isNil v9.2) fun v15 =>
      if v15 = true then
        some true
      else
        lt (((v9.1).length : Int)) fun v18 =>
        lt (v18 != (256 : Int)) fun v20 =>
        some v20
     : Option (Bool)).bind fun s10 =>
      if s10 = true then
        some false
      else
        lt ((BitVec.toNat x1 : Int)) fun v24 =>
        lt (Int.tmod v24 (257 : Int)) fun v26 =>
        (cutTo v9.1 v26).bind fun v28 =>
        (app 1 ([] : List (BitVec 8)) v28).bind fun v30 =>
        lt (w64 ((256 : Int) - v26)) fun v34 =>
        ((mkS 1 v34 (0#8 : BitVec 8)).bind fun w => app 1 v30 w).bind fun v36 =>
        (leaf_Get v36).bind fun v40 =>
        (trouble_Of v40.2).bind fun v45 =>
        lt (v45 == (8 : Int)) fun v47 =>
        if v47 = true then
          (butterylaw05_works).bind fun v50 =>
          some v50
        else
          (trouble_Of v40.2).bind fun v52 =>
          lt (v52 == (9 : Int)) fun v54 =>
          if v54 = true then
            (butterylaw05_works).bind fun v57 =>
            some v57
          else
            (butteryref02_Same v36 v9.1).bind fun v59 =>
            if v59 = true then
              (butterylaw05_works).bind fun v62 =>
              some v62
            else
              some false
end Go.Proofs.YtgfedohhkbmobaaDoor
namespace Go.Proofs.YtgfedohhkbmobaaDoor
open Go.RowKit Go.Extern.Stop Go.Stop Go.Extern
/-- errors.As(nil, target). -/
theorem as_nil (t : Value) (w : World) :
    Calls Tryd.prog 53 #[.nilIface, t] w fun e w' => e = .returned (.bool false) ∧ w' = w := by
  go_enter Tryd.func53, Tryd.ntmps53
  go_wp2
  go_ret
  exact ⟨rfl, rfl⟩

theorem Tryd.valueOf27 (t : Addr) (w : World) : (ReflectliteValue.unpack (.iface 85 (.pointer (some t)))).run Tryd.prog w
    = .ok (.agg #[.pointer (some ⟨1, 85, none⟩), .pointer (some ⟨w.heap.size, 0, none⟩), .int .u64 150]) (w.alloc (.cells #[.pointer (some t)] 85)) := by kernel_rfl
theorem Tryd.type27 (a : Addr) (w : World) : (ReflectliteValue.methodAny (ReflectliteValue.valueError "reflectlite.Value.Type" 0) (fun t _ _ _ => ReflectliteType.toType t) #[.agg #[.pointer (some ⟨1, 85, none⟩), .pointer (some a), .int .u64 150]]).run Tryd.prog w
    = .ok (.iface 132 (.agg #[.pointer (some ⟨1, 85, none⟩)])) w := by kernel_rfl
theorem Tryd.methodKind (h : Value) (w : World) : (Go.method 273 132 (.agg #[h]) "Kind").run Tryd.prog w = .ok (104, h) w := by kernel_rfl
theorem Tryd.kind27 (w : World) : ((ReflectliteType.abiMethod fun t => (fun a : Nat => Value.int IntKind.u8 (a : Int)) <$> Rtype.kind t) #[.pointer (some ⟨1, 85, none⟩)]).run Tryd.prog w = .ok (.int .u8 22) w := by kernel_rfl
theorem Tryd.kind25 (w : World) : ((ReflectliteType.abiMethod fun t => (fun a : Nat => Value.int IntKind.u8 (a : Int)) <$> Rtype.kind t) #[.pointer (some ⟨1, 83, none⟩)]).run Tryd.prog w = .ok (.int .u8 22) w := by kernel_rfl

theorem rlm (z : Sem Value) (f : TypeId → Addr → Nat → Nat → Sem Value) (v : Value) :
    ReflectliteValue.method z f #[v] = (do match ← ReflectliteValue.parts v with | none => z | some (t, a, fl) => f t a fl (fl % 32)) := rfl
theorem Tryd.parts27 (a : Addr) (w : World) : (ReflectliteValue.parts (.agg #[.pointer (some ⟨1, 85, none⟩), .pointer (some a), .int .u64 150])).run Tryd.prog w = .ok (some (85, a, 150)) w := by kernel_rfl
/-- (Value).IsNil at the Value of a **p.E that is not nil. -/
theorem Tryd.isNil27 (a p : Addr) (W : World) (ha : W.cell? a = some (.pointer (some p))) :
    (ReflectliteValue.method (ReflectliteValue.valueError "reflectlite.Value.IsNil" 0) ReflectliteValue.isNil #[.agg #[.pointer (some ⟨1, 85, none⟩), .pointer (some a), .int .u64 150]]).run Tryd.prog W = .ok (.bool false) W := by
  rw [rlm]
  simp only [Sem.run_bind, Tryd.parts27, Result.andThen]
  simp [ReflectliteValue.isNil, loadVar, isAgg, underlying, Tryd.underlying85, ha, Result.andThen]

theorem Tryd.methodElem (h : Value) (w : World) : (Go.method 273 132 (.agg #[h]) "Elem").run Tryd.prog w = .ok (115, .agg #[h]) w := by kernel_rfl
theorem Tryd.methodImplements (h : Value) (w : World) : (Go.method 273 132 (.agg #[h]) "Implements").run Tryd.prog w = .ok (116, .agg #[h]) w := by kernel_rfl
theorem Tryd.methodAssignableTo (h : Value) (w : World) : (Go.method 273 132 (.agg #[h]) "AssignableTo").run Tryd.prog w = .ok (113, .agg #[h]) w := by kernel_rfl
theorem Tryd.elem27 (w : World) : (ReflectliteType.method ReflectliteType.elem #[.agg #[.pointer (some ⟨1, 85, none⟩)]]).run Tryd.prog w = .ok (.iface 132 (.agg #[.pointer (some ⟨1, 83, none⟩)])) w := by kernel_rfl
theorem Tryd.implements25 (w : World) : (ReflectliteType.relation "Implements" ReflectliteType.implements_ #[.agg #[.pointer (some ⟨1, 83, none⟩)], .iface 132 (.agg #[.pointer (some ⟨1, 27, none⟩)])]).run Tryd.prog w = .ok (.bool true) w := by kernel_rfl
theorem Tryd.typeOf25 (v : Value) (w : World) : (ReflectliteType.typeOf #[.iface 83 v]).run Tryd.prog w = .ok (.iface 132 (.agg #[.pointer (some ⟨1, 83, none⟩)])) w := by kernel_rfl
theorem Tryd.assignable25 (w : World) : (ReflectliteType.relation "AssignableTo" ReflectliteType.assignableTo #[.agg #[.pointer (some ⟨1, 83, none⟩)], .iface 132 (.agg #[.pointer (some ⟨1, 83, none⟩)])]).run Tryd.prog w = .ok (.bool true) w := by kernel_rfl
theorem Tryd.valueOf25 (e : Addr) (w : World) : (ReflectliteValue.unpack (.iface 83 (.pointer (some e)))).run Tryd.prog w
    = .ok (.agg #[.pointer (some ⟨1, 83, none⟩), .pointer (some ⟨w.heap.size, 0, none⟩), .int .u64 150]) (w.alloc (.cells #[.pointer (some e)] 83)) := by kernel_rfl

theorem Tryd.elemOf27 (w : World) : (Rtype.elem? 85).run Tryd.prog w = .ok (some 83) w := by kernel_rfl
theorem Tryd.mk25 (p : Addr) (w : World) : (ReflectliteValue.mk 83 p ReflectliteValue.flagAddr).run Tryd.prog w = .ok (.agg #[.pointer (some ⟨1, 83, none⟩), .pointer (some p), .int .u64 406]) w := by kernel_rfl
/-- (Value).Elem at the Value of a **p.E that is not nil: the Value of the *p.E variable that it points to, addressable. -/
theorem Tryd.elemV27 (a p : Addr) (W : World) (ha : W.cell? a = some (.pointer (some p))) :
    (ReflectliteValue.method (ReflectliteValue.valueError "reflectlite.Value.Elem" 0) ReflectliteValue.elem #[.agg #[.pointer (some ⟨1, 85, none⟩), .pointer (some a), .int .u64 150]]).run Tryd.prog W
      = .ok (.agg #[.pointer (some ⟨1, 83, none⟩), .pointer (some p), .int .u64 406]) W := by
  rw [rlm]
  simp only [Sem.run_bind, Tryd.parts27, Result.andThen]
  simp [ReflectliteValue.elem, loadVar, isAgg, underlying, Tryd.underlying85, ha, Result.andThen, Tryd.elemOf27, Tryd.mk25]
theorem rls (v x : Value) : ReflectliteValue.set #[v, x] = (do
    let (some (dst, a, fl), some (src, b, _)) := (← ReflectliteValue.parts v, ← ReflectliteValue.parts x)
      | unsupported (.noEntry "extern/(internal/reflectlite.Value).Set.zeroValue")
    if fl / ReflectliteValue.flagAddr % 2 == 0 then unsupported (.noEntry "extern/(internal/reflectlite.Value).Set.unaddressable")
    let val ← loadVar src b
    if ← Rtype.directlyAssignable dst src then storeVar dst a val
    else if ← Rtype.implements dst src then
      if (← Rtype.kind src) == 20 then
        match val with
        | .nilIface => unsupported (.noEntry "extern/reflectlite: a nil value of one interface type handed on as a value of another")
        | _ => storeVar dst a val
      else storeVar dst a (.iface src val)
    else panicString ("reflectlite.Set: value of type " ++ (← Rtype.spelt src) ++ " is not assignable to type " ++ (← Rtype.spelt dst))
    pure (.tuple #[])) := rfl
theorem Tryd.parts25a (a : Addr) (w : World) : (ReflectliteValue.parts (.agg #[.pointer (some ⟨1, 83, none⟩), .pointer (some a), .int .u64 406])).run Tryd.prog w = .ok (some (83, a, 406)) w := by kernel_rfl
theorem Tryd.parts25 (a : Addr) (w : World) : (ReflectliteValue.parts (.agg #[.pointer (some ⟨1, 83, none⟩), .pointer (some a), .int .u64 150])).run Tryd.prog w = .ok (some (83, a, 150)) w := by kernel_rfl
theorem Tryd.direct25 (w : World) : (Rtype.directlyAssignable 83 83).run Tryd.prog w = .ok true w := by kernel_rfl
theorem Tryd.size25 (w : World) : (sizeOf 83).run Tryd.prog w = .ok 1 w := by kernel_rfl
/-- (Value).Set: the *p.E variable at 'ta' gets what the Value's own variable 'b' holds. -/
theorem Tryd.set25 (ta b e : Addr) (old : Value) (W : World) (hb : W.cell? b = some (.pointer (some e))) (ht : W.cell? ta = some old) (hf : W.frozen? ta = false) :
    (ReflectliteValue.set #[.agg #[.pointer (some ⟨1, 83, none⟩), .pointer (some ta), .int .u64 406], .agg #[.pointer (some ⟨1, 83, none⟩), .pointer (some b), .int .u64 150]]).run Tryd.prog W
      = .ok (.tuple #[]) (W.setCell ta (.pointer (some e))) := by
  rw [rls]
  simp only [Sem.run_bind, Tryd.parts25a, Tryd.parts25, Result.andThen]
  simp [ReflectliteValue.flagAddr, loadVar, isAgg, underlying, Tryd.underlying83, hb, Result.andThen, Tryd.direct25, storeVar, Value.cells, storeCells, Addr.add]
  rw [run_store Tryd.prog W ta _ _ (by rfl)]
  simp [ht, hf]

set_option maxHeartbeats 8000000 in
set_option maxRecDepth 100000 in
theorem as_hit (e t : Addr) (old : Value) (w : World) (hg : w.cell? ⟨0, 0, none⟩ = some (.iface 132 (.agg #[.pointer (some ⟨1, 27, none⟩)]))) (ht0 : w.cell? t = some old) (hf0 : w.frozen? t = false) :
    Calls Tryd.prog 53 #[.iface 83 (.pointer (some e)), .iface 85 (.pointer (some t))] w fun ev w' => ev = .returned (.bool true) ∧ w' = ((((w.alloc (.cells #[.pointer (some t)] 85)).alloc (.cells #[.pointer (some ⟨1, 85, none⟩), .pointer (some ⟨w.heap.size, 0, none⟩), .int .u64 150] 117)).alloc (.cells #[.pointer (some ⟨1, 85, none⟩), .pointer (some ⟨w.heap.size, 0, none⟩), .int .u64 150] 117)).alloc (.cells #[.pointer (some e)] 83)).setCell t (.pointer (some e)) := by
  have h6 := @run_callFunc_extern Tryd.prog 77 _ (fun args => ReflectliteValue.unpack (args.getD 0 (.tuple #[]))) Tryd.func77 (by kernel_rfl) (by kernel_rfl) (by kernel_rfl) (by kernel_rfl)
  have h7 := @run_callFunc_extern Tryd.prog 78 _ (ReflectliteValue.methodAny (ReflectliteValue.valueError "reflectlite.Value.Type" 0) (fun t _ _ _ => ReflectliteType.toType t)) Tryd.func78 (by kernel_rfl) (by kernel_rfl) (by kernel_rfl) (by kernel_rfl)
  have h8 := @run_callFunc_extern Tryd.prog 79 _ (ReflectliteValue.method (ReflectliteValue.valueError "reflectlite.Value.IsNil" 0) ReflectliteValue.isNil) Tryd.func79 (by kernel_rfl) (by kernel_rfl) (by kernel_rfl) (by kernel_rfl)
  have h27 := @run_callFunc_extern Tryd.prog 104 _ (ReflectliteType.abiMethod fun t => do pure (.int .u8 (← Rtype.kind t))) Tryd.func104 (by kernel_rfl) (by kernel_rfl) (by kernel_rfl) (by kernel_rfl)
  have h37 := @run_callFunc_extern Tryd.prog 115 _ (ReflectliteType.method ReflectliteType.elem) Tryd.func115 (by kernel_rfl) (by kernel_rfl) (by kernel_rfl) (by kernel_rfl)
  have h38 := @run_callFunc_extern Tryd.prog 116 _ (ReflectliteType.relation "Implements" ReflectliteType.implements_) Tryd.func116 (by kernel_rfl) (by kernel_rfl) (by kernel_rfl) (by kernel_rfl)
  have h10 := @run_callFunc_extern Tryd.prog 86 _ ReflectliteType.typeOf Tryd.func86 (by kernel_rfl) (by kernel_rfl) (by kernel_rfl) (by kernel_rfl)
  have h35 := @run_callFunc_extern Tryd.prog 113 _ (ReflectliteType.relation "AssignableTo" ReflectliteType.assignableTo) Tryd.func113 (by kernel_rfl) (by kernel_rfl) (by kernel_rfl) (by kernel_rfl)
  have h11 := @run_callFunc_extern Tryd.prog 87 _ (ReflectliteValue.method (ReflectliteValue.valueError "reflectlite.Value.Elem" 0) ReflectliteValue.elem) Tryd.func87 (by kernel_rfl) (by kernel_rfl) (by kernel_rfl) (by kernel_rfl)
  have h12 := @run_callFunc_extern Tryd.prog 88 _ ReflectliteValue.set Tryd.func88 (by kernel_rfl) (by kernel_rfl) (by kernel_rfl) (by kernel_rfl)
  have tO := Tryd.typeOf25
  have mA := Tryd.methodAssignableTo
  have a25 := Tryd.assignable25
  have v25 := Tryd.valueOf25
  have f6 := Tryd.valueOf27
  have f7 := Tryd.type27
  have mK := Tryd.methodKind
  have mE := Tryd.methodElem
  have mI := Tryd.methodImplements
  have k27 := Tryd.kind27
  have k25 := Tryd.kind25
  have e27 := Tryd.elem27
  have i25 := Tryd.implements25
  have n8 := Tryd.isNil27 ⟨w.heap.size, 0, none⟩ t ((w.alloc (.cells #[.pointer (some t)] 85)).alloc (.cells #[.pointer (some ⟨1, 85, none⟩), .pointer (some ⟨w.heap.size, 0, none⟩), .int .u64 150] 117)) (by simp)
  have hlt : 0 < w.heap.size := by
    rcases Nat.eq_zero_or_pos w.heap.size with h0 | h
    · simp [World.cell?, h0] at hg
    · exact h
  have hg2 : ((w.alloc (.cells #[.pointer (some t)] 85)).alloc (.cells #[.pointer (some ⟨1, 85, none⟩), .pointer (some ⟨w.heap.size, 0, none⟩), .int .u64 150] 117)).cell? ⟨0, 0, none⟩ = some (.iface 132 (.agg #[.pointer (some ⟨1, 27, none⟩)])) := by
    rw [World.cell?_alloc_lt _ _ ⟨0, 0, none⟩ (by simp), World.cell?_alloc_lt _ _ ⟨0, 0, none⟩ hlt]; exact hg
  have htl : t.block < w.heap.size := by
    rcases Nat.lt_or_ge t.block w.heap.size with h | h
    · exact h
    · simp [World.cell?, Array.getElem?_eq_none h] at ht0
  have el := Tryd.elemV27 ⟨w.heap.size, 0, none⟩ t (((w.alloc (.cells #[.pointer (some t)] 85)).alloc (.cells #[.pointer (some ⟨1, 85, none⟩), .pointer (some ⟨w.heap.size, 0, none⟩), .int .u64 150] 117)).alloc (.cells #[.pointer (some ⟨1, 85, none⟩), .pointer (some ⟨w.heap.size, 0, none⟩), .int .u64 150] 117)) (by rw [World.cell?_alloc_lt _ _ ⟨w.heap.size, 0, none⟩ (by simp; omega)]; simp)
  have st := Tryd.set25 t ⟨w.heap.size + 1 + 1 + 1, 0, none⟩ e old ((((w.alloc (.cells #[.pointer (some t)] 85)).alloc (.cells #[.pointer (some ⟨1, 85, none⟩), .pointer (some ⟨w.heap.size, 0, none⟩), .int .u64 150] 117)).alloc (.cells #[.pointer (some ⟨1, 85, none⟩), .pointer (some ⟨w.heap.size, 0, none⟩), .int .u64 150] 117)).alloc (.cells #[.pointer (some e)] 83))
    (by rw [World.cell?_alloc_at _ _ _ _ (by simp)]; rfl)
    (by rw [World.cell?_alloc_lt _ _ t (by simp; omega), World.cell?_alloc_lt _ _ t (by simp; omega), World.cell?_alloc_lt _ _ t (by simp; omega), World.cell?_alloc_lt _ _ t htl]; exact ht0)
    (by rw [World.frozen?_alloc_old _ _ t (by simp; omega), World.frozen?_alloc_old _ _ t (by simp; omega), World.frozen?_alloc_old _ _ t (by simp; omega), World.frozen?_alloc_old _ _ t (Nat.ne_of_lt htl)]; exact hf0)
  go_enter Tryd.func53, Tryd.ntmps53
  go_wp2
  refine wp_loop_rounds 1 ?_
  rw [rounds_succ]
  go_wp2
  go_ret
  exact ⟨rfl, rfl⟩
end Go.Proofs.YtgfedohhkbmobaaDoor
namespace Go.Proofs.YtgfedohhkbmobaaDoor
open Go Go.Va
set_option linter.unusedVariables false
set_option linter.unusedSimpArgs false
def gls : List (Addr × Value) := [(⟨0, 0, none⟩, .iface 132 (.agg #[.pointer (some ⟨1, 27, none⟩)]))]
section
variable {P : Program} {Ty : TypeId → Option TI} {fr : Nat → AV} {d : Option Tmp} {t : TypeId} {pos : String} {af : Array Edge} {g : Option (Nat × Bool)} {ox oy : Operand} {T T' : TypeId}
theorem o_err_eql (hT : TyOk P Ty) {x : Err} (ht : tdOf Ty T = .iface) (hx : aeval fr ox = eErr x) (hy : oy = .const .nilIface) : OpP P ⟨d, .binOp .eql T ox oy T', t, pos, af, g⟩ fr (eB x.isNil) := by
  subst hy
  refine OpP.of_aop' hT (mu := false) rfl (fun τ => ?_)
  have h2 : aeval fr (.const .nilIface) = .nili := rfl
  simp only [aop, hx, h2]
  cases x with
  | nil => simp [eErr, abin', abin, ht, isC, aeq, pairO, Err.isNil, eB]
  | fault o a c u => simp [eErr, abin', abin, ht, isC, aeq, pairO, Err.isNil, eB]
theorem o_err_neq (hT : TyOk P Ty) {x : Err} (ht : tdOf Ty T = .iface) (hx : aeval fr ox = eErr x) (hy : oy = .const .nilIface) : OpP P ⟨d, .binOp .neq T ox oy T', t, pos, af, g⟩ fr (eB (!x.isNil)) := by
  subst hy
  refine OpP.of_aop' hT (mu := false) rfl (fun τ => ?_)
  have h2 : aeval fr (.const .nilIface) = .nili := rfl
  simp only [aop, hx, h2]
  cases x with
  | nil => simp [eErr, abin', abin, ht, isC, aeq, pairO, Err.isNil, eB]
  | fault o a c u => simp [eErr, abin', abin, ht, isC, aeq, pairO, Err.isNil, eB]
end
/-- The pointer that an error holds. -/
def Err.ptr : Err → AV
  | .nil => .nilp
  | .fault o a c u => .fptr [eS o, eI a, eI c, eErr u] 0
theorem as_ok {x : Err} (hx : x.isNil = false) {σ : St} {id : Nat} (ho : σ.objs[id]? = some [.nilp]) (hg : σ.gl = gls) : ACall Tryd.prog 53 [eErr x, .iface 85 (.ref id 0)] σ (fun a τ => a = eB true ∧ τ = σ.puts [(id, [x.ptr])]) := by
  cases x with
  | nil => cases hx
  | fault o a c u =>
    refine ⟨⟨_, Tryd.func53, by decide, rfl⟩, fun w0 G w vs hI hr => ?_⟩
    obtain ⟨v0, h0, r0⟩ := hr.get (i := 0) rfl
    obtain ⟨v1, h1, r1⟩ := hr.get (i := 1) rfl
    have hvs : vs = #[v0, v1] := by
      obtain ⟨l⟩ := vs
      have hl := hr.len
      simp only [List.length_cons, List.length_nil] at hl h0 h1
      match l, hl, h0, h1 with
      | [x, y], _, h0, h1 => simp at h0 h1; subst h0; subst h1; rfl
    subst hvs
    simp only [eErr] at r0
    cases r0 with | iface _ v0 _ r0 =>
    cases r1 with | iface _ v1 _ r1 =>
    cases r0 with | fptr b o' off _ val hf hv =>
    cases r1 with | ref _ _ b1 hl =>
    obtain ⟨b2, T, cs, e1, e2, e3, e4, e5, e6⟩ := hI.loc id _ ho (by simp)
    rw [hl] at e1
    cases e1
    obtain ⟨u1, hu1, ru1⟩ := e4.rel.get (i := 0) rfl
    have hcs : cs[0]? = some (.pointer none) := by
      cases ru1
      rw [List.getElem?_take] at hu1
      simpa using hu1
    have hsz : 1 ≤ cs.size := e4.le
    have hglob := hI.below
    have hg0 : w0.cell? ⟨0, 0, none⟩ = some (.iface 132 (.agg #[.pointer (some ⟨1, 27, none⟩)])) := hI.gl _ (by rw [hg]; exact List.mem_singleton.2 rfl)
    have hg1 : w.cell? ⟨0, 0, none⟩ = some (.iface 132 (.agg #[.pointer (some ⟨1, 27, none⟩)])) := by
      have hb := World.block_lt_of_cell? w0 _ hg0
      simp only [World.cell?] at hg0 ⊢
      rw [hI.below.block _ hb]; exact hg0
    have hc : w.cell? ⟨b1, 0, none⟩ = some (.pointer none) := by simp [World.cell?, e3, hcs]
    have hfz : w.frozen? ⟨b1, 0, none⟩ = false := by simp [World.frozen?, e3]
    refine (as_hit ⟨b, o' + 0, none⟩ ⟨b1, 0, none⟩ (.pointer none) w hg1 hc hfz).mono ?_
    rintro e w' ⟨rfl, rfl⟩
    have k1 := hI.alloc_fz #[.pointer (some ⟨b1, 0, none⟩)] 85 (by simp [Value.oneCell']) (0, 0)
    have k2 := k1.2.alloc_fz #[.pointer (some ⟨1, 85, none⟩), .pointer (some ⟨w.heap.size, 0, none⟩), .int .u64 150] 117 (by simp [Value.oneCell']) (0, 0)
    have k3 := k2.2.alloc_fz #[.pointer (some ⟨1, 85, none⟩), .pointer (some ⟨w.heap.size, 0, none⟩), .int .u64 150] 117 (by simp [Value.oneCell']) (0, 0)
    have k4 := k3.2.alloc_fz #[.pointer (some ⟨b, o' + 0, none⟩)] 83 (by simp [Value.oneCell']) (0, 0)
    have hle := k1.1.trans (k2.1.trans (k3.1.trans k4.1))
    have hb1 : b1 < w.heap.size := (Array.getElem?_eq_some_iff.1 e3).1
    have k5 := k4.2.write (id := id) (off := 0) (news := [.pointer (some ⟨b, o' + 0, none⟩)]) (nc := [.fptr [eS o, eI a, eI c, eErr u] 0]) ho (hle.loc _ _ hl) (by simp) ((RelL.nil _).cons (.fptr b o' 0 _ val (fun j a h1 => hle.fz _ _ _ (hf j a h1)) (fun j a h1 => (hv j a h1).mono hle))) (by simp [Value.oneCell']) (by simp) (by rw [hle.bsz _ _ hl, ← e6]; simpa using hsz)
    refine ⟨.bool true, eB true, _, _, rfl, hle, ?_, .bool true, rfl, rfl⟩
    simp only [World.setCells, List.take_zero, List.nil_append, List.length_cons, List.length_nil, List.drop_succ_cons, List.drop_zero, List.drop_nil, List.append_nil] at k5
    exact k5
end Go.Proofs.YtgfedohhkbmobaaDoor
namespace Go.Proofs.YtgfedohhkbmobaaDoor
open Go Go.Va
set_option linter.unusedVariables false
set_option linter.unusedSimpArgs false
set_option maxRecDepth 20000
theorem trouble_New_ok {x0 : List (BitVec 8)} {x1 : Int} {x2 : Int} {r : Err} (H : trouble_New x0 x1 x2 = some r) (σ : St)  : ACall Tryd.prog 54 [(eS x0), (eI x1), (eI x2)] σ (fun a τ => a = eErr r ∧ τ = σ) := by
  unfold trouble_New at H
  refine ACall.pure (acall_start tk Tryd.func54 (by decide) rfl (Nat.le_of_ble_eq_true rfl) ?_)
  have hH := Holds.init σ
  refine awp_seq ?_
  refine awp_region rfl ?_
  refine wpo_mv (a := (eErr Err.nil)) rfl rfl rfl (o_as tk rfl (Wk.refl _)) ?_
  refine wpo_nil ?_
  refine awp_seq ?_
  refine awp_seq ?_
  refine awp_region rfl ?_
  refine wpo_mv (a := (eI x2)) rfl rfl rfl (o_mv tk rfl (Wk.refl _)) ?_
  refine wpo_lt H eB rfl rfl rfl (o_ar tk rfl rfl rfl) fun v2 H1 => ?_
  refine wpo_nil ?_
  refine awp_if H1 rfl (fun H3 => ?_) (fun H3 => ?_)
  · refine awp_seq ?_
    refine awp_region rfl ?_
    refine wpo_mv (a := (eErr Err.nil)) rfl rfl rfl (o_as tk rfl (Wk.refl _)) ?_
    refine wpo_nil ?_
    refine awp_ret ?_
    obtain rfl := Option.some.inj H3
    exact ⟨_, (eErr Err.nil), rfl, (.of_eq rfl), .of_eq (encErr.cut _ _ _), hH.noT⟩
  · refine awp_skip ?_
    refine awp_seq ?_
    refine awp_region rfl ?_
    refine wpo_mv (a := (eS x0)) rfl rfl rfl (o_mv tk rfl (Wk.refl _)) ?_
    refine wpo_mv (a := (eI x1)) rfl rfl rfl (o_mv tk rfl (Wk.refl _)) ?_
    refine wpo_mv (a := (eI x2)) rfl rfl rfl (o_mv tk rfl (Wk.refl _)) ?_
    refine wpo_lt H3 e_trouble_fault rfl rfl rfl (o_c tk false rfl (fun _ => rfl)) fun v5 H4 => ?_
    refine wpo_mv (a := (.fptr (c_trouble_fault v5) 0)) rfl rfl rfl (o_boxf tk rfl (.of_eq rfl) (b := (e_trouble_fault v5)) (enc87.flat _)) ?_
    refine wpo_mv (a := (eErr (Err.fault v5.op v5.at_ v5.code v5.under))) rfl rfl rfl (o_c tk false rfl (fun _ => rfl)) ?_
    refine wpo_mv (a := (eErr (Err.fault v5.op v5.at_ v5.code v5.under))) rfl rfl rfl (o_as tk rfl (Wk.refl _)) ?_
    refine wpo_nil ?_
    refine awp_ret ?_
    obtain rfl := Option.some.inj H4
    exact ⟨_, (eErr (Err.fault v5.op v5.at_ v5.code v5.under)), rfl, (.of_eq rfl), .of_eq (encErr.cut _ _ _), hH.noT⟩
end Go.Proofs.YtgfedohhkbmobaaDoor
namespace Go.Proofs.YtgfedohhkbmobaaDoor
open Go Go.Va
set_option linter.unusedVariables false
set_option linter.unusedSimpArgs false
set_option maxRecDepth 20000
theorem leaf_Check_ok {x0 : api_Leaf} {r : Err} (H : leaf_Check x0 = some r) (σ : St)  : ACall Tryd.prog 17 [(e_api_Leaf x0)] σ (fun a τ => a = eErr r ∧ τ = σ) := by
  unfold leaf_Check at H
  refine ACall.pure (acall_start tk Tryd.func17 (by decide) rfl (Nat.le_of_ble_eq_true rfl) ?_)
  have hH := Holds.init σ
  refine awp_seq ?_
  refine awp_region rfl ?_
  refine wpo_mv (a := (.fptr (c_api_Leaf x0) 0)) rfl rfl rfl (o_boxf tk rfl (.of_eq rfl) (b := (e_api_Leaf x0)) (enc24.flat _)) ?_
  refine wpo_mv (a := (eErr Err.nil)) rfl rfl rfl (o_as tk rfl (Wk.refl _)) ?_
  refine wpo_nil ?_
  refine awp_seq ?_
  refine awp_block ?_
  refine awp_seq ?_
  obtain ⟨s1, hs3, hj4⟩ := Option.bind_eq_some_iff.1 H
  refine awp_cutn (fun fr τ => WkF fr (fm [(1, (.fptr (c_api_Leaf x0) 0)), (3, (eB s1))]) ∧ Holds σ [] [] τ) ?_ ?_
  · rintro fr τ ⟨hfr, hH⟩
    have H10 := hj4
    refine AWP.fm [(1, (.fptr (c_api_Leaf x0) 0)), (3, (eB s1))] hfr ?_
    refine awp_if H10 rfl (fun H11 => ?_) (fun H11 => ?_)
    · refine awp_seq ?_
      refine awp_region rfl ?_
      refine wpo_mv (a := (.fptr (c_api_Leaf x0) 0)) rfl rfl rfl (o_c tk false rfl (fun _ => rfl)) ?_
      refine wpo_mv (a := (eI x0.Stamp)) rfl rfl rfl (o_ld tk rfl rfl) ?_
      refine wpo_bd H11 eErr rfl rfl rfl (fun v13 hv => OpP.of_call rfl rfl (.cons (.of_eq rfl) (.cons (.of_eq rfl) (.cons (.of_eq rfl) .nil))) (trouble_New_ok hv)) fun v13 hv13 H12 => ?_
      refine wpo_mv (a := (eErr v13)) rfl rfl rfl (o_as tk rfl (Wk.refl _)) ?_
      refine wpo_nil ?_
      refine awp_ret ?_
      obtain rfl := Option.some.inj H12
      exact ⟨_, (eErr v13), rfl, (.of_eq rfl), .of_eq (encErr.cut _ _ _), hH.noT⟩
    · refine awp_seq ?_
      obtain ⟨s14, hs16, hj17⟩ := Option.bind_eq_some_iff.1 H11
      refine awp_cutn (fun fr τ => WkF fr (fm [(1, (.fptr (c_api_Leaf x0) 0)), (15, (eB s14))]) ∧ Holds σ [] [] τ) ?_ ?_
      · rintro fr τ ⟨hfr, hH⟩
        have H23 := hj17
        refine AWP.fm [(1, (.fptr (c_api_Leaf x0) 0)), (15, (eB s14))] hfr ?_
        refine awp_if H23 rfl (fun H24 => ?_) (fun H24 => ?_)
        · refine awp_seq ?_
          refine awp_region rfl ?_
          refine wpo_mv (a := (.fptr (c_api_Leaf x0) 1)) rfl rfl rfl (o_c tk false rfl (fun _ => rfl)) ?_
          refine wpo_mv (a := (eI x0.Kind)) rfl rfl rfl (o_ld tk rfl rfl) ?_
          refine wpo_bd H24 eErr rfl rfl rfl (fun v26 hv => OpP.of_call rfl rfl (.cons (.of_eq rfl) (.cons (.of_eq rfl) (.cons (.of_eq rfl) .nil))) (trouble_New_ok hv)) fun v26 hv26 H25 => ?_
          refine wpo_mv (a := (eErr v26)) rfl rfl rfl (o_as tk rfl (Wk.refl _)) ?_
          refine wpo_nil ?_
          refine awp_ret ?_
          obtain rfl := Option.some.inj H25
          exact ⟨_, (eErr v26), rfl, (.of_eq rfl), .of_eq (encErr.cut _ _ _), hH.noT⟩
        · refine awp_seq ?_
          refine awp_region rfl ?_
          refine wpo_mv (a := (.fptr (c_api_Leaf x0) 2)) rfl rfl rfl (o_c tk false rfl (fun _ => rfl)) ?_
          refine wpo_mv (a := ((eL 1 (@eU .u8 8)) x0.Bytes)) rfl rfl rfl (o_ld tk rfl rfl) ?_
          refine wpo_lt H24 eI rfl rfl rfl (o_len tk td22 rfl) fun v28 H27 => ?_
          refine wpo_lt H27 eB rfl rfl rfl (o_ar tk rfl rfl rfl) fun v30 H29 => ?_
          refine wpo_mv (a := (eB v30)) rfl rfl rfl (o_as tk rfl (Wk.refl _)) ?_
          refine wpo_nil ?_
          refine awp_if H29 rfl (fun H31 => ?_) (fun H31 => ?_)
          · refine awp_seq ?_
            refine awp_region rfl ?_
            refine wpo_mv (a := (.fptr (c_api_Leaf x0) 2)) rfl rfl rfl (o_c tk false rfl (fun _ => rfl)) ?_
            refine wpo_mv (a := ((eL 1 (@eU .u8 8)) x0.Bytes)) rfl rfl rfl (o_ld tk rfl rfl) ?_
            refine wpo_lt H31 eI rfl rfl rfl (o_len tk td22 rfl) fun v33 H32 => ?_
            refine wpo_bd H32 eErr rfl rfl rfl (fun v35 hv => OpP.of_call rfl rfl (.cons (.of_eq rfl) (.cons (.of_eq rfl) (.cons (.of_eq rfl) .nil))) (trouble_New_ok hv)) fun v35 hv35 H34 => ?_
            refine wpo_mv (a := (eErr v35)) rfl rfl rfl (o_as tk rfl (Wk.refl _)) ?_
            refine wpo_nil ?_
            refine awp_ret ?_
            obtain rfl := Option.some.inj H34
            exact ⟨_, (eErr v35), rfl, (.of_eq rfl), .of_eq (encErr.cut _ _ _), hH.noT⟩
          · refine awp_skip ?_
            refine awp_seq ?_
            refine awp_region rfl ?_
            refine wpo_mv (a := (eErr Err.nil)) rfl rfl rfl (o_as tk rfl (Wk.refl _)) ?_
            refine wpo_nil ?_
            refine awp_ret ?_
            obtain rfl := Option.some.inj H31
            exact ⟨_, (eErr Err.nil), rfl, (.of_eq rfl), .of_eq (encErr.cut _ _ _), hH.noT⟩
      · refine awp_region rfl ?_
        refine wpo_mv (a := (.fptr (c_api_Leaf x0) 1)) rfl rfl rfl (o_c tk false rfl (fun _ => rfl)) ?_
        refine wpo_mv (a := (eI x0.Kind)) rfl rfl rfl (o_ld tk rfl rfl) ?_
        refine wpo_lt hs16 eB rfl rfl rfl (o_ar tk rfl rfl rfl) fun v19 H18 => ?_
        refine wpo_mv (a := (eB v19)) rfl rfl rfl (o_mv tk rfl (Wk.refl _)) ?_
        refine if_split H18 (fun hb H20 => ?_) (fun hb H20 => ?_)
        · subst hb
          refine wpo_skip rfl rfl rfl ?_
          refine wpo_skip rfl rfl rfl ?_
          refine wpo_skip rfl rfl rfl ?_
          refine wpo_mv (a := (eB true)) rfl rfl rfl (o_pick_t tk rfl rfl (Wk.refl _)) ?_
          refine wpo_mv (a := (eB true)) rfl rfl rfl (o_as tk rfl (Wk.refl _)) ?_
          refine wpo_nil ?_
          have e := Option.some.inj H20
          subst e
          exact ⟨(wkf_cons (.of_eq rfl) (wkf_cons (.of_eq rfl) (wkf_nil _))), hH⟩
        · subst hb
          refine wpo_mv (a := (.fptr (c_api_Leaf x0) 1)) rfl rfl rfl (o_c tk false rfl (fun _ => rfl)) ?_
          refine wpo_mv (a := (eI x0.Kind)) rfl rfl rfl (o_ld tk rfl rfl) ?_
          refine wpo_lt H20 eB rfl rfl rfl (o_ar tk rfl rfl rfl) fun v22 H21 => ?_
          refine wpo_mv (a := (eB v22)) rfl rfl rfl (o_pick_f tk rfl rfl (Wk.refl _)) ?_
          refine wpo_mv (a := (eB v22)) rfl rfl rfl (o_as tk rfl (Wk.refl _)) ?_
          refine wpo_nil ?_
          have e := Option.some.inj H21
          subst e
          exact ⟨(wkf_cons (.of_eq rfl) (wkf_cons (.of_eq rfl) (wkf_nil _))), hH⟩
  · refine awp_region rfl ?_
    refine wpo_mv (a := (.fptr (c_api_Leaf x0) 0)) rfl rfl rfl (o_c tk false rfl (fun _ => rfl)) ?_
    refine wpo_mv (a := (eI x0.Stamp)) rfl rfl rfl (o_ld tk rfl rfl) ?_
    refine wpo_lt hs3 eB rfl rfl rfl (o_ar tk rfl rfl rfl) fun v6 H5 => ?_
    refine wpo_mv (a := (eB v6)) rfl rfl rfl (o_mv tk rfl (Wk.refl _)) ?_
    refine if_split H5 (fun hb H7 => ?_) (fun hb H7 => ?_)
    · subst hb
      refine wpo_skip rfl rfl rfl ?_
      refine wpo_skip rfl rfl rfl ?_
      refine wpo_skip rfl rfl rfl ?_
      refine wpo_mv (a := (eB true)) rfl rfl rfl (o_pick_t tk rfl rfl (Wk.refl _)) ?_
      refine wpo_mv (a := (eB true)) rfl rfl rfl (o_as tk rfl (Wk.refl _)) ?_
      refine wpo_nil ?_
      have e := Option.some.inj H7
      subst e
      exact ⟨(wkf_cons (.of_eq rfl) (wkf_cons (.of_eq rfl) (wkf_nil _))), hH⟩
    · subst hb
      refine wpo_mv (a := (.fptr (c_api_Leaf x0) 0)) rfl rfl rfl (o_c tk false rfl (fun _ => rfl)) ?_
      refine wpo_mv (a := (eI x0.Stamp)) rfl rfl rfl (o_ld tk rfl rfl) ?_
      refine wpo_lt H7 eB rfl rfl rfl (o_ar tk rfl rfl rfl) fun v9 H8 => ?_
      refine wpo_mv (a := (eB v9)) rfl rfl rfl (o_pick_f tk rfl rfl (Wk.refl _)) ?_
      refine wpo_mv (a := (eB v9)) rfl rfl rfl (o_as tk rfl (Wk.refl _)) ?_
      refine wpo_nil ?_
      have e := Option.some.inj H8
      subst e
      exact ⟨(wkf_cons (.of_eq rfl) (wkf_cons (.of_eq rfl) (wkf_nil _))), hH⟩
end Go.Proofs.YtgfedohhkbmobaaDoor
namespace Go.Proofs.YtgfedohhkbmobaaDoor
open Go Go.Va
set_option linter.unusedVariables false
set_option linter.unusedSimpArgs false
set_option maxRecDepth 20000
theorem octets_Word_app {x0 : List (BitVec 8)} {x1 : BitVec 64} {r : (List (BitVec 8))} (H : octets_Word x0 x1 = some r) (σ : St)  : ACall Tryd.prog 49 [((eL 1 (@eU .u8 8)) x0), ((@eU .u64 64) x1)] σ (fun a τ => a = .sl (.own σ.opn.length) 1 (r.map (@eU .u8 8)) ∧ τ = σ.more) := by
  unfold octets_Word at H
  refine ACall.app (fun ρ κ => cutL_enc (enc_u td5 sz5).cut ρ κ r) (acall_start tk Tryd.func49 (by decide) rfl (Nat.le_of_ble_eq_true rfl) ?_)
  have hH := Holds.init σ
  refine awp_seq ?_
  refine awp_region rfl ?_
  refine wpo_mv (a := AV.nils) rfl rfl rfl (o_as tk rfl (Wk.refl _)) ?_
  refine wpo_nil ?_
  refine awp_seq ?_
  refine awp_region rfl ?_
  refine wpo_mv (a := (eF 1 (@eU .u8 8) ([] : List (BitVec 8)))) rfl rfl rfl (o_c tk false rfl (fun _ => rfl)) ?_
  refine wpo_mv (a := ((eL 1 (@eU .u8 8)) x0)) rfl rfl rfl (o_mv tk rfl (Wk.refl _)) ?_
  obtain ⟨v2, hv3, H1⟩ := Option.bind_eq_some_iff.1 H
  refine wpo_a (av := fun t => eT t 1 (@eU .u8 8) v2) rfl rfl rfl (h_app0 tk hH hv3 td22 ty5 rfl (by decide) (.inr rfl) (src_l td22 rfl)) fun tk4 τ hH => ?_
  refine wpo_mv (a := (eT tk4 1 (@eU .u8 8) v2)) rfl rfl rfl (o_as tk rfl (Wk.refl _)) ?_
  refine wpo_nil ?_
  refine awp_seq ?_
  refine awp_seq ?_
  refine awp_region rfl ?_
  refine wpo_mv (a := (eI (56 : Int))) rfl rfl rfl (o_as tk rfl (Wk.refl _)) ?_
  refine wpo_nil ?_
  refine awp_block ?_
  obtain ⟨s14, hs8, hj9⟩ := Option.bind_eq_some_iff.1 H1
  refine awp_cutx 0 (fun fr τ => ∃ tk_5, WkF fr (fm [(5, (eT tk_5 1 (@eU .u8 8) s14))]) ∧ Holds σ [] [tk_5] τ) ?_ ?_
  · rintro fr τ ⟨tk_5, hfr, hH⟩
    have H31 := hj9
    refine AWP.fm [(5, (eT tk_5 1 (@eU .u8 8) s14))] hfr ?_
    refine awp_seq ?_
    refine awp_region rfl ?_
    refine wpo_mv (a := (eT tk_5 1 (@eU .u8 8) s14)) rfl rfl rfl (o_mv tk rfl (Wk.refl _)) ?_
    refine wpo_mv (a := (eT tk_5 1 (@eU .u8 8) s14)) rfl rfl rfl (o_as tk rfl (Wk.refl _)) ?_
    refine wpo_nil ?_
    refine awp_ret ?_
    obtain rfl := Option.some.inj H31
    exact ⟨_, (eT tk_5 1 (@eU .u8 8) s14), rfl, .of_eq rfl, tk_5, rfl, hH⟩
  · refine awp_loopO (body := fun s => octets_Word_b0 x1 s.1 s.2) hs8 (fun (s : (List (BitVec 8)) × Int) fr τ => ∃ tk_5, WkF fr (fm [(1, ((@eU .u64 64) x1)), (5, (eT tk_5 1 (@eU .u8 8) s.1)), (6, (eI s.2))]) ∧ Holds σ [] [tk_5] τ) ⟨tk4, (wkf_cons (.of_eq rfl) (wkf_cons (.of_eq rfl) (wkf_cons (.of_eq rfl) (wkf_nil _)))), hH⟩ ?_
    rintro ⟨c5, c6⟩ fr τ y10 ⟨tk_5, hfr, hH⟩ hb12 hy13
    have H15 : octets_Word_b0 x1 c5 c6 = some y10 := hb12
    unfold octets_Word_b0 at H15
    refine AWP.fm [(1, ((@eU .u64 64) x1)), (5, (eT tk_5 1 (@eU .u8 8) c5)), (6, (eI c6))] hfr ?_
    have hH : Holds σ [] [tk_5] τ := hH
    refine awp_seq ?_
    refine awp_seq ?_
    refine awp_region rfl ?_
    refine wpo_mv (a := (eI c6)) rfl rfl rfl (o_mv tk rfl (Wk.refl _)) ?_
    refine wpo_lt H15 eB rfl rfl rfl (o_ar tk rfl rfl rfl) fun v17 H16 => ?_
    refine wpo_nil ?_
    refine awp_if H16 rfl (fun H18 => ?_) (fun H18 => ?_)
    · refine awp_skip ?_
      refine awp_seq ?_
      refine awp_block ?_
      refine awp_region rfl ?_
      refine wpo_mv (a := (eT tk_5 1 (@eU .u8 8) c5)) rfl rfl rfl (o_mv tk rfl (Wk.refl _)) ?_
      refine wpo_mv (a := ((@eU .u64 64) x1)) rfl rfl rfl (o_mv tk rfl (Wk.refl _)) ?_
      refine wpo_mv (a := (eI c6)) rfl rfl rfl (o_mv tk rfl (Wk.refl _)) ?_
      refine wpo_bd H18 (@eU .u64 64) rfl rfl rfl (fun v20 hv => om_shr_u tk rfl hv rfl rfl) fun v20 hv20 H19 => ?_
      refine wpo_lt H19 (@eU .u8 8) rfl rfl rfl (o_cv_uu tk td80 td5 rfl rfl) fun v22 H21 => ?_
      refine wpo_lt H21 (eF 1 (@eU .u8 8)) rfl rfl rfl (o_c tk false rfl (fun _ => rfl)) fun v24 H23 => ?_
      obtain ⟨v26, hv27, H25⟩ := Option.bind_eq_some_iff.1 H23
      refine wpo_a (av := fun t => eT t 1 (@eU .u8 8) v26) rfl rfl rfl (h_app tk hH 0 hv27 rfl td22 ty5 rfl (by decide) rfl (src_l td22 rfl)) fun tk28 τ hH => ?_
      refine wpo_mv (a := (eT tk28 1 (@eU .u8 8) v26)) rfl rfl rfl (o_as tk rfl (Wk.refl _)) ?_
      refine wpo_nil ?_
      refine awp_region rfl ?_
      refine wpo_mv (a := (eI c6)) rfl rfl rfl (o_mv tk rfl (Wk.refl _)) ?_
      refine wpo_lt H25 eI rfl rfl rfl (o_ar tk rfl rfl rfl) fun v30 H29 => ?_
      refine wpo_mv (a := (eI v30)) rfl rfl rfl (o_as tk rfl (Wk.refl _)) ?_
      refine wpo_nil ?_
      exact ⟨(v26, v30), inj_inl H29, tk28, (wkf_cons (.of_eq rfl) (wkf_cons (.of_eq rfl) (wkf_cons (.of_eq rfl) (wkf_nil _)))), hH⟩
    · refine awp_exit ?_
      have hz := hy13 _ (inj_inr H18)
      subst hz
      exact ⟨⟨_, inj_inr H18⟩, tk_5, (wkf_cons (.of_eq rfl) (wkf_nil _)), hH⟩
theorem octets_Word_ok {x0 : List (BitVec 8)} {x1 : BitVec 64} {r : (List (BitVec 8))} (H : octets_Word x0 x1 = some r) (σ : St) : ACall Tryd.prog 49 [((eL 1 (@eU .u8 8)) x0), ((@eU .u64 64) x1)] σ (fun a τ => a = (eL 1 (@eU .u8 8)) r ∧ τ = σ) := (octets_Word_app H σ).unapp (fun ρ κ => cutL_enc (enc_u td5 sz5).cut ρ κ r)
end Go.Proofs.YtgfedohhkbmobaaDoor
namespace Go.Proofs.YtgfedohhkbmobaaDoor
open Go Go.Va
set_option linter.unusedVariables false
set_option linter.unusedSimpArgs false
set_option maxRecDepth 20000
theorem checksum_Four_ok {x0 : BitVec 32} {r : (List (BitVec 8))} (H : checksum_Four x0 = some r) (σ : St)  : ACall Tryd.prog 74 [((@eU .u32 32) x0)] σ (fun a τ => a = (eA (@eU .u8 8)) r ∧ τ = σ) := by
  unfold checksum_Four at H
  refine ACall.pure (acall_start tk Tryd.func74 (by decide) rfl (Nat.le_of_ble_eq_true rfl) ?_)
  have hH := Holds.init σ
  refine awp_seq ?_
  refine awp_region rfl ?_
  refine wpo_a (av := fun id => .ref id 0) rfl rfl rfl (h_alloc tk hH ty110 (cL (@eU .u8 8) (List.replicate 4 0#8)) rfl) fun id1 τ ⟨hH, n2⟩ => ?_
  refine wpo_nil ?_
  refine awp_seq ?_
  refine awp_region rfl ?_
  refine wpo_mv (a := ((@eU .u32 32) x0)) rfl rfl rfl (o_mv tk rfl (Wk.refl _)) ?_
  refine wpo_lt H (@eU .u8 8) rfl rfl rfl (o_cv_uu tk td112 td5 rfl rfl) fun v4 H3 => ?_
  refine wpo_mv (a := ((@eU .u32 32) x0)) rfl rfl rfl (o_mv tk rfl (Wk.refl _)) ?_
  refine wpo_lt H3 (@eU .u32 32) rfl rfl rfl (o_shr_u tk rfl (y := (8 : Int)) rfl rfl rfl) fun v6 H5 => ?_
  refine wpo_lt H5 (@eU .u8 8) rfl rfl rfl (o_cv_uu tk td112 td5 rfl rfl) fun v8 H7 => ?_
  refine wpo_mv (a := ((@eU .u32 32) x0)) rfl rfl rfl (o_mv tk rfl (Wk.refl _)) ?_
  refine wpo_lt H7 (@eU .u32 32) rfl rfl rfl (o_shr_u tk rfl (y := (16 : Int)) rfl rfl rfl) fun v10 H9 => ?_
  refine wpo_lt H9 (@eU .u8 8) rfl rfl rfl (o_cv_uu tk td112 td5 rfl rfl) fun v12 H11 => ?_
  refine wpo_mv (a := ((@eU .u32 32) x0)) rfl rfl rfl (o_mv tk rfl (Wk.refl _)) ?_
  refine wpo_lt H11 (@eU .u32 32) rfl rfl rfl (o_shr_u tk rfl (y := (24 : Int)) rfl rfl rfl) fun v14 H13 => ?_
  refine wpo_lt H13 (@eU .u8 8) rfl rfl rfl (o_cv_uu tk td112 td5 rfl rfl) fun v16 H15 => ?_
  refine wpo_lt H15 (eA (@eU .u8 8)) rfl rfl rfl (o_c tk false rfl (fun _ => rfl)) fun v18 H17 => ?_
  obtain ⟨c20, hc21, H19⟩ := Option.bind_eq_some_iff.1 H17
  refine wpo_z rfl rfl (h_stw tk hH 0 hc21 rfl (enc_u td5 sz5) ty110 rfl (by simp) rfl rfl) fun τ hH => ?_
  refine wpo_nil ?_
  refine awp_ret ?_
  obtain ⟨w22, hw22, H23⟩ := Option.bind_eq_some_iff.1 H19
  obtain ⟨hw22, rfl⟩ := whole_some hw22
  obtain rfl := Option.some.inj H23
  exact ⟨_, ((eA (@eU .u8 8)) w22), (ares_1 (ares_cell hH 0 rfl rfl (acut_whole (enc_u td5 sz5) td110 sz110 rfl (hw22)))), (.of_eq rfl), .of_eq ((cut_eA (enc_u td5 sz5).cut) _ _ _), (hH.noT.drop n2)⟩
end Go.Proofs.YtgfedohhkbmobaaDoor
namespace Go.Proofs.YtgfedohhkbmobaaDoor
open Go Go.Va
set_option linter.unusedVariables false
set_option linter.unusedSimpArgs false
set_option maxRecDepth 20000
theorem checksum_column_ok {x0 : BitVec 8} {r : (BitVec 32)} (H : checksum_column x0 = some r) (σ : St)  : ACall Tryd.prog 89 [((@eU .u8 8) x0)] σ (fun a τ => a = (@eU .u32 32) r ∧ τ = σ) := by
  unfold checksum_column at H
  refine ACall.pure (acall_start tk Tryd.func89 (by decide) rfl (Nat.le_of_ble_eq_true rfl) ?_)
  have hH := Holds.init σ
  refine awp_seq ?_
  refine awp_region rfl ?_
  refine wpo_mv (a := ((@eU .u32 32) 0#32)) rfl rfl rfl (o_as tk rfl (Wk.refl _)) ?_
  refine wpo_nil ?_
  refine awp_seq ?_
  refine awp_region rfl ?_
  refine wpo_mv (a := ((@eU .u8 8) x0)) rfl rfl rfl (o_mv tk rfl (Wk.refl _)) ?_
  refine wpo_lt H (@eU .u32 32) rfl rfl rfl (o_cv_uu tk td5 td112 rfl rfl) fun v2 H1 => ?_
  refine wpo_mv (a := ((@eU .u32 32) v2)) rfl rfl rfl (o_as tk rfl (Wk.refl _)) ?_
  refine wpo_nil ?_
  refine awp_seq ?_
  refine awp_seq ?_
  refine awp_region rfl ?_
  refine wpo_mv (a := (eI (0 : Int))) rfl rfl rfl (o_mv tk rfl (Wk.refl _)) ?_
  refine wpo_nil ?_
  refine awp_block ?_
  obtain ⟨s12, hs6, hj7⟩ := Option.bind_eq_some_iff.1 H1
  refine awp_cutx 0 (fun fr τ => WkF fr (fm [(3, ((@eU .u32 32) s12))]) ∧ Holds σ [] [] τ) ?_ ?_
  · rintro fr τ ⟨hfr, hH⟩
    have H32 := hj7
    refine AWP.fm [(3, ((@eU .u32 32) s12))] hfr ?_
    refine awp_seq ?_
    refine awp_region rfl ?_
    refine wpo_mv (a := ((@eU .u32 32) s12)) rfl rfl rfl (o_mv tk rfl (Wk.refl _)) ?_
    refine wpo_mv (a := ((@eU .u32 32) s12)) rfl rfl rfl (o_as tk rfl (Wk.refl _)) ?_
    refine wpo_nil ?_
    refine awp_ret ?_
    obtain rfl := Option.some.inj H32
    exact ⟨_, ((@eU .u32 32) s12), rfl, (.of_eq rfl), .of_eq ((enc_u td112 sz112).cut _ _ _), hH.noT⟩
  · refine awp_loopO (body := fun s => checksum_column_b0 s.1 s.2) hs6 (fun (s : (BitVec 32) × Int) fr τ => WkF fr (fm [(3, ((@eU .u32 32) s.1)), (6, (eI s.2))]) ∧ Holds σ [] [] τ) ⟨(wkf_cons (.of_eq rfl) (wkf_cons (.of_eq rfl) (wkf_nil _))), hH⟩ ?_
    rintro ⟨c3, c4⟩ fr τ y8 ⟨hfr, hH⟩ hb10 hy11
    have H13 : checksum_column_b0 c3 c4 = some y8 := hb10
    unfold checksum_column_b0 at H13
    refine AWP.fm [(3, ((@eU .u32 32) c3)), (6, (eI c4))] hfr ?_
    have hH : Holds σ [] [] τ := hH
    refine awp_seq ?_
    refine awp_region rfl ?_
    refine wpo_lt H13 eB rfl rfl rfl (o_ar tk rfl rfl rfl) fun v15 H14 => ?_
    refine wpo_nil ?_
    refine awp_seq ?_
    refine awp_if H14 rfl (fun H16 => ?_) (fun H16 => ?_)
    · refine awp_skip ?_
      refine awp_seq ?_
      refine awp_block ?_
      refine awp_seq ?_
      refine awp_region rfl ?_
      refine wpo_mv (a := ((@eU .u32 32) c3)) rfl rfl rfl (o_mv tk rfl (Wk.refl _)) ?_
      refine wpo_lt H16 (@eU .u32 32) rfl rfl rfl (o_and_u tk rfl rfl rfl) fun v18 H17 => ?_
      refine wpo_lt H17 eB rfl rfl rfl (o_eql_u tk rfl rfl) fun v20 H19 => ?_
      refine wpo_nil ?_
      refine awp_if H19 rfl (fun H21 => ?_) (fun H21 => ?_)
      · refine awp_region rfl ?_
        refine wpo_mv (a := ((@eU .u32 32) c3)) rfl rfl rfl (o_mv tk rfl (Wk.refl _)) ?_
        refine wpo_lt H21 (@eU .u32 32) rfl rfl rfl (o_shr_u tk rfl (y := (1 : Int)) rfl rfl rfl) fun v23 H22 => ?_
        refine wpo_lt H22 (@eU .u32 32) rfl rfl rfl (o_xor_u tk rfl rfl rfl) fun v25 H24 => ?_
        refine wpo_mv (a := ((@eU .u32 32) v25)) rfl rfl rfl (o_as tk rfl (Wk.refl _)) ?_
        refine wpo_nil ?_
        refine awp_region rfl ?_
        refine wpo_lt H24 eI rfl rfl rfl (o_ar tk rfl rfl rfl) fun v27 H26 => ?_
        refine wpo_mv (a := (eI v27)) rfl rfl rfl (o_mv tk rfl (Wk.refl _)) ?_
        refine wpo_nil ?_
        exact ⟨(v25, v27), inj_inl H26, (wkf_cons (.of_eq rfl) (wkf_cons (.of_eq rfl) (wkf_nil _))), hH⟩
      · refine awp_region rfl ?_
        refine wpo_mv (a := ((@eU .u32 32) c3)) rfl rfl rfl (o_mv tk rfl (Wk.refl _)) ?_
        refine wpo_lt H21 (@eU .u32 32) rfl rfl rfl (o_shr_u tk rfl (y := (1 : Int)) rfl rfl rfl) fun v29 H28 => ?_
        refine wpo_mv (a := ((@eU .u32 32) v29)) rfl rfl rfl (o_as tk rfl (Wk.refl _)) ?_
        refine wpo_nil ?_
        refine awp_region rfl ?_
        refine wpo_lt H28 eI rfl rfl rfl (o_ar tk rfl rfl rfl) fun v31 H30 => ?_
        refine wpo_mv (a := (eI v31)) rfl rfl rfl (o_mv tk rfl (Wk.refl _)) ?_
        refine wpo_nil ?_
        exact ⟨(v29, v31), inj_inl H30, (wkf_cons (.of_eq rfl) (wkf_cons (.of_eq rfl) (wkf_nil _))), hH⟩
    · refine awp_exit ?_
      have hz := hy11 _ (inj_inr H16)
      subst hz
      exact ⟨⟨_, inj_inr H16⟩, (wkf_cons (.of_eq rfl) (wkf_nil _)), hH⟩
end Go.Proofs.YtgfedohhkbmobaaDoor
namespace Go.Proofs.YtgfedohhkbmobaaDoor
open Go Go.Va
set_option linter.unusedVariables false
set_option linter.unusedSimpArgs false
set_option maxRecDepth 20000
theorem checksum_More_ok {x0 : BitVec 32} {x1 : List (BitVec 8)} {r : (BitVec 32)} (H : checksum_More x0 x1 = some r) (σ : St)  : ACall Tryd.prog 85 [((@eU .u32 32) x0), ((eL 1 (@eU .u8 8)) x1)] σ (fun a τ => a = (@eU .u32 32) r ∧ τ = σ) := by
  unfold checksum_More at H
  refine ACall.pure (acall_start tk Tryd.func85 (by decide) rfl (Nat.le_of_ble_eq_true rfl) ?_)
  have hH := Holds.init σ
  refine awp_seq ?_
  refine awp_region rfl ?_
  refine wpo_mv (a := ((@eU .u32 32) 0#32)) rfl rfl rfl (o_as tk rfl (Wk.refl _)) ?_
  refine wpo_nil ?_
  refine awp_seq ?_
  refine awp_region rfl ?_
  refine wpo_mv (a := ((@eU .u32 32) x0)) rfl rfl rfl (o_mv tk rfl (Wk.refl _)) ?_
  refine wpo_lt H (@eU .u32 32) rfl rfl rfl (o_not_u tk rfl rfl) fun v2 H1 => ?_
  refine wpo_mv (a := ((@eU .u32 32) v2)) rfl rfl rfl (o_as tk rfl (Wk.refl _)) ?_
  refine wpo_nil ?_
  refine awp_seq ?_
  refine awp_seq ?_
  refine awp_region rfl ?_
  refine wpo_mv (a := ((eL 1 (@eU .u8 8)) x1)) rfl rfl rfl (o_mv tk rfl (Wk.refl _)) ?_
  refine wpo_lt H1 eI rfl rfl rfl (o_len tk td22 rfl) fun v4 H3 => ?_
  refine wpo_mv (a := (eI (0 : Int))) rfl rfl rfl (o_mv tk rfl (Wk.refl _)) ?_
  refine wpo_nil ?_
  refine awp_block ?_
  obtain ⟨s14, hs8, hj9⟩ := Option.bind_eq_some_iff.1 H3
  refine awp_cutx 0 (fun fr τ => WkF fr (fm [(5, ((@eU .u32 32) s14))]) ∧ Holds σ [] [] τ) ?_ ?_
  · rintro fr τ ⟨hfr, hH⟩
    have H33 := hj9
    refine AWP.fm [(5, ((@eU .u32 32) s14))] hfr ?_
    refine awp_seq ?_
    refine awp_region rfl ?_
    refine wpo_mv (a := ((@eU .u32 32) s14)) rfl rfl rfl (o_mv tk rfl (Wk.refl _)) ?_
    refine wpo_lt H33 (@eU .u32 32) rfl rfl rfl (o_not_u tk rfl rfl) fun v35 H34 => ?_
    refine wpo_mv (a := ((@eU .u32 32) v35)) rfl rfl rfl (o_as tk rfl (Wk.refl _)) ?_
    refine wpo_nil ?_
    refine awp_ret ?_
    obtain rfl := Option.some.inj H34
    exact ⟨_, ((@eU .u32 32) v35), rfl, (.of_eq rfl), .of_eq ((enc_u td112 sz112).cut _ _ _), hH.noT⟩
  · refine awp_loopO (body := fun s => checksum_More_b0 x1 v4 s.1 s.2) hs8 (fun (s : (BitVec 32) × Int) fr τ => WkF fr (fm [(5, ((@eU .u32 32) s.1)), (10, ((eL 1 (@eU .u8 8)) x1)), (11, (eI v4)), (12, (eI s.2))]) ∧ Holds σ [] [] τ) ⟨(wkf_cons (.of_eq rfl) (wkf_cons (.of_eq rfl) (wkf_cons (.of_eq rfl) (wkf_cons (.of_eq rfl) (wkf_nil _))))), hH⟩ ?_
    rintro ⟨c5, c6⟩ fr τ y10 ⟨hfr, hH⟩ hb12 hy13
    have H15 : checksum_More_b0 x1 v4 c5 c6 = some y10 := hb12
    unfold checksum_More_b0 at H15
    refine AWP.fm [(5, ((@eU .u32 32) c5)), (10, ((eL 1 (@eU .u8 8)) x1)), (11, (eI v4)), (12, (eI c6))] hfr ?_
    have hH : Holds σ [] [] τ := hH
    refine awp_seq ?_
    refine awp_region rfl ?_
    refine wpo_lt H15 eB rfl rfl rfl (o_ar tk rfl rfl rfl) fun v17 H16 => ?_
    refine wpo_nil ?_
    refine awp_seq ?_
    refine awp_if H16 rfl (fun H18 => ?_) (fun H18 => ?_)
    · refine awp_skip ?_
      refine awp_seq ?_
      refine awp_block ?_
      refine awp_seq ?_
      refine awp_region rfl ?_
      refine wpo_bd H18 (fun y => .fptr ((@eU .u8 8) y).cells 0) rfl rfl rfl (fun v20 hv => o_ixa tk hv td22 (enc_u td5 sz5) rfl rfl) fun v20 hv20 H19 => ?_
      refine wpo_mv (a := ((@eU .u8 8) v20)) rfl rfl rfl (o_ld_e tk (enc_u td5 sz5) rfl rfl) ?_
      refine wpo_mv (a := ((@eU .u8 8) v20)) rfl rfl rfl (o_as tk rfl (Wk.refl _)) ?_
      refine wpo_nil ?_
      refine awp_region rfl ?_
      refine wpo_mv (a := ((@eU .u32 32) c5)) rfl rfl rfl (o_mv tk rfl (Wk.refl _)) ?_
      refine wpo_lt H19 (@eU .u32 32) rfl rfl rfl (o_shr_u tk rfl (y := (8 : Int)) rfl rfl rfl) fun v22 H21 => ?_
      refine wpo_mv (a := ((@eU .u32 32) c5)) rfl rfl rfl (o_mv tk rfl (Wk.refl _)) ?_
      refine wpo_lt H21 (@eU .u8 8) rfl rfl rfl (o_cv_uu tk td112 td5 rfl rfl) fun v24 H23 => ?_
      refine wpo_mv (a := ((@eU .u8 8) v20)) rfl rfl rfl (o_mv tk rfl (Wk.refl _)) ?_
      refine wpo_lt H23 (@eU .u8 8) rfl rfl rfl (o_xor_u tk rfl rfl rfl) fun v26 H25 => ?_
      refine wpo_bd H25 (@eU .u32 32) rfl rfl rfl (fun v28 hv => OpP.of_call rfl rfl (.cons (.of_eq rfl) .nil) (checksum_column_ok hv)) fun v28 hv28 H27 => ?_
      refine wpo_lt H27 (@eU .u32 32) rfl rfl rfl (o_xor_u tk rfl rfl rfl) fun v30 H29 => ?_
      refine wpo_mv (a := ((@eU .u32 32) v30)) rfl rfl rfl (o_as tk rfl (Wk.refl _)) ?_
      refine wpo_nil ?_
      refine awp_region rfl ?_
      refine wpo_lt H29 eI rfl rfl rfl (o_ar tk rfl rfl rfl) fun v32 H31 => ?_
      refine wpo_mv (a := (eI v32)) rfl rfl rfl (o_mv tk rfl (Wk.refl _)) ?_
      refine wpo_nil ?_
      exact ⟨(v30, v32), inj_inl H31, (wkf_cons (.of_eq rfl) (wkf_cons (.of_eq rfl) (wkf_cons (.of_eq rfl) (wkf_cons (.of_eq rfl) (wkf_nil _))))), hH⟩
    · refine awp_exit ?_
      have hz := hy13 _ (inj_inr H18)
      subst hz
      exact ⟨⟨_, inj_inr H18⟩, (wkf_cons (.of_eq rfl) (wkf_nil _)), hH⟩
end Go.Proofs.YtgfedohhkbmobaaDoor
namespace Go.Proofs.YtgfedohhkbmobaaDoor
open Go Go.Va
set_option linter.unusedVariables false
set_option linter.unusedSimpArgs false
set_option maxRecDepth 20000
theorem checksum_Sum_ok {x0 : List (BitVec 8)} {r : (BitVec 32)} (H : checksum_Sum x0 = some r) (σ : St)  : ACall Tryd.prog 75 [((eL 1 (@eU .u8 8)) x0)] σ (fun a τ => a = (@eU .u32 32) r ∧ τ = σ) := by
  unfold checksum_Sum at H
  refine ACall.pure (acall_start tk Tryd.func75 (by decide) rfl (Nat.le_of_ble_eq_true rfl) ?_)
  have hH := Holds.init σ
  refine awp_seq ?_
  refine awp_region rfl ?_
  refine wpo_mv (a := ((@eU .u32 32) 0#32)) rfl rfl rfl (o_as tk rfl (Wk.refl _)) ?_
  refine wpo_nil ?_
  refine awp_seq ?_
  refine awp_region rfl ?_
  refine wpo_mv (a := ((eL 1 (@eU .u8 8)) x0)) rfl rfl rfl (o_mv tk rfl (Wk.refl _)) ?_
  refine wpo_bd H (@eU .u32 32) rfl rfl rfl (fun v2 hv => OpP.of_call rfl rfl (.cons (.of_eq rfl) (.cons (.of_eq rfl) .nil)) (checksum_More_ok hv)) fun v2 hv2 H1 => ?_
  refine wpo_mv (a := ((@eU .u32 32) v2)) rfl rfl rfl (o_as tk rfl (Wk.refl _)) ?_
  refine wpo_nil ?_
  refine awp_ret ?_
  obtain rfl := Option.some.inj H1
  exact ⟨_, ((@eU .u32 32) v2), rfl, (.of_eq rfl), .of_eq ((enc_u td112 sz112).cut _ _ _), hH.noT⟩
end Go.Proofs.YtgfedohhkbmobaaDoor
namespace Go.Proofs.YtgfedohhkbmobaaDoor
open Go Go.Va
set_option linter.unusedVariables false
set_option linter.unusedSimpArgs false
set_option maxRecDepth 20000
theorem checksum_Seal_app {x0 : List (BitVec 8)} {r : (List (BitVec 8))} (H : checksum_Seal x0 = some r) (σ : St)  : ACall Tryd.prog 50 [((eL 1 (@eU .u8 8)) x0)] σ (fun a τ => a = .sl (.own σ.opn.length) 1 (r.map (@eU .u8 8)) ∧ τ = σ.more) := by
  unfold checksum_Seal at H
  refine ACall.app (fun ρ κ => cutL_enc (enc_u td5 sz5).cut ρ κ r) (acall_start tk Tryd.func50 (by decide) rfl (Nat.le_of_ble_eq_true rfl) ?_)
  have hH := Holds.init σ
  refine awp_seq ?_
  refine awp_region rfl ?_
  refine wpo_mv (a := AV.nils) rfl rfl rfl (o_as tk rfl (Wk.refl _)) ?_
  refine wpo_nil ?_
  refine awp_seq ?_
  refine awp_region rfl ?_
  refine wpo_mv (a := ((eL 1 (@eU .u8 8)) x0)) rfl rfl rfl (o_mv tk rfl (Wk.refl _)) ?_
  refine wpo_bd H (@eU .u32 32) rfl rfl rfl (fun v2 hv => OpP.of_call rfl rfl (.cons (.of_eq rfl) .nil) (checksum_Sum_ok hv)) fun v2 hv2 H1 => ?_
  refine wpo_bd H1 (eA (@eU .u8 8)) rfl rfl rfl (fun v4 hv => OpP.of_call rfl rfl (.cons (.of_eq rfl) .nil) (checksum_Four_ok hv)) fun v4 hv4 H3 => ?_
  refine wpo_a (av := fun id => .ref id 0) rfl rfl rfl (h_alloc tk hH ty110 (cL (@eU .u8 8) (List.replicate 4 0#8)) rfl) fun id5 τ ⟨hH, n6⟩ => ?_
  obtain ⟨c8, hc9, H7⟩ := Option.bind_eq_some_iff.1 H3
  refine wpo_z rfl rfl (h_stw tk hH 0 hc9 rfl (enc_u td5 sz5) ty110 rfl (by simp) rfl rfl) fun τ hH => ?_
  refine wpo_nil ?_
  refine awp_seq ?_
  refine awp_drawS mixed [2, 4] rfl (by decide +kernel) rfl rfl ?_
  refine wpdS_mv (a := (eF 1 (@eU .u8 8) ([] : List (BitVec 8)))) rfl rfl rfl (o_c tk false rfl (fun _ => rfl)) ?_
  refine wpdS_mv (a := ((eL 1 (@eU .u8 8)) x0)) rfl rfl rfl (o_mv tk rfl (Wk.refl _)) ?_
  obtain ⟨v11, hv12, H10⟩ := Option.bind_eq_some_iff.1 H7
  refine wpdS_a (av := fun t => eT t 1 (@eU .u8 8) v11) rfl rfl rfl (h_app0 tk hH hv12 td22 ty5 rfl (by decide) (.inr rfl) (src_l td22 rfl)) fun tk13 τ hH => ?_
  refine wpdS_mv (a := (.msl id5 0 4)) rfl rfl rfl (o_c tk false rfl (fun _ => rfl)) ?_
  obtain ⟨v15, hv16, H14⟩ := Option.bind_eq_some_iff.1 H10
  obtain ⟨whv16, hwhv16, hv16b⟩ := Option.bind_eq_some_iff.1 hv16
  obtain ⟨hxhv16, rfl⟩ := whole_some hwhv16
  refine wpdS_a (av := fun t => eT t 1 (@eU .u8 8) v15) rfl rfl rfl (h_app tk hH 0 hv16b rfl td22 ty5 rfl (by decide) rfl (src_arr hH 0 rfl (enc_u td5 sz5) rfl td22 hxhv16 rfl)) fun tk17 τ hH => ?_
  refine wpdS_mv (a := (eT tk17 1 (@eU .u8 8) v15)) rfl rfl rfl (o_as tk rfl (Wk.refl _)) ?_
  refine wpdS_nil ?_
  refine awp_ret ?_
  obtain rfl := Option.some.inj H14
  exact ⟨_, (eT tk17 1 (@eU .u8 8) v15), rfl, .of_eq rfl, tk17, rfl, (hH.drop n6)⟩
theorem checksum_Seal_ok {x0 : List (BitVec 8)} {r : (List (BitVec 8))} (H : checksum_Seal x0 = some r) (σ : St) : ACall Tryd.prog 50 [((eL 1 (@eU .u8 8)) x0)] σ (fun a τ => a = (eL 1 (@eU .u8 8)) r ∧ τ = σ) := (checksum_Seal_app H σ).unapp (fun ρ κ => cutL_enc (enc_u td5 sz5).cut ρ κ r)
end Go.Proofs.YtgfedohhkbmobaaDoor
namespace Go.Proofs.YtgfedohhkbmobaaDoor
open Go Go.Va
set_option linter.unusedVariables false
set_option linter.unusedSimpArgs false
set_option maxRecDepth 20000
theorem leaf_Put_ok {x0 : api_Leaf} {r : (List (BitVec 8)) × Err} (H : leaf_Put x0 = some r) (σ : St)  : ACall Tryd.prog 13 [(e_api_Leaf x0)] σ (fun a τ => a = .tup [(eL 1 (@eU .u8 8)) r.1, eErr r.2] ∧ τ = σ) := by
  unfold leaf_Put at H
  refine ACall.pure (acall_start tk Tryd.func13 (by decide) rfl (Nat.le_of_ble_eq_true rfl) ?_)
  have hH := Holds.init σ
  refine awp_seq ?_
  refine awp_region rfl ?_
  refine wpo_mv (a := (.fptr (c_api_Leaf x0) 0)) rfl rfl rfl (o_boxf tk rfl (.of_eq rfl) (b := (e_api_Leaf x0)) (enc24.flat _)) ?_
  refine wpo_mv (a := AV.nils) rfl rfl rfl (o_as tk rfl (Wk.refl _)) ?_
  refine wpo_mv (a := (eErr Err.nil)) rfl rfl rfl (o_as tk rfl (Wk.refl _)) ?_
  refine wpo_nil ?_
  refine awp_seq ?_
  refine awp_seq ?_
  refine awp_region rfl ?_
  refine wpo_mv (a := (e_api_Leaf x0)) rfl rfl rfl (o_ld tk rfl rfl) ?_
  refine wpo_bd H eErr rfl rfl rfl (fun v2 hv => OpP.of_call rfl rfl (.cons (.of_eq rfl) .nil) (leaf_Check_ok hv)) fun v2 hv2 H1 => ?_
  refine wpo_mv (a := (eErr v2)) rfl rfl rfl (o_as tk rfl (Wk.refl _)) ?_
  refine wpo_nil ?_
  refine awp_seq ?_
  refine awp_region rfl ?_
  refine wpo_mv (a := (eErr v2)) rfl rfl rfl (o_mv tk rfl (Wk.refl _)) ?_
  refine wpo_lt H1 eB rfl rfl rfl (o_err_neq tk rfl rfl rfl) fun v4 H3 => ?_
  refine wpo_nil ?_
  refine awp_if H3 rfl (fun H5 => ?_) (fun H5 => ?_)
  · refine awp_seq ?_
    refine awp_region rfl ?_
    refine wpo_mv (a := (eErr v2)) rfl rfl rfl (o_mv tk rfl (Wk.refl _)) ?_
    refine wpo_mv (a := AV.nils) rfl rfl rfl (o_as tk rfl (Wk.refl _)) ?_
    refine wpo_mv (a := (eErr v2)) rfl rfl rfl (o_as tk rfl (Wk.refl _)) ?_
    refine wpo_nil ?_
    refine awp_ret ?_
    obtain rfl := Option.some.inj H5
    exact ⟨_, (.tup [((eL 1 (@eU .u8 8)) []), (eErr v2)]), rfl, (wk_tup (.cons (wk_nils _) (.cons (.of_eq rfl) .nil))), .of_eq (by simp only [cutAV, cutL, (enc_l td22 sz22 (enc_u td5 sz5).cut).cut _ _ _, encErr.cut _ _ _]), hH.noT⟩
  · refine awp_skip ?_
    refine awp_seq ?_
    refine awp_region rfl ?_
    refine wpo_mv (a := (.fptr (c_api_Leaf x0) 0)) rfl rfl rfl (o_c tk false rfl (fun _ => rfl)) ?_
    refine wpo_mv (a := (eI x0.Stamp)) rfl rfl rfl (o_ld tk rfl rfl) ?_
    refine wpo_lt H5 (@eU .u64 64) rfl rfl rfl (o_cv_iu tk td3 td80 rfl rfl) fun v7 H6 => ?_
    refine wpo_cb H6 (fun x t => eT t 1 (@eU .u8 8) x) rfl rfl rfl (fun v9 hv => h_calla hH rfl rfl (.cons (wk_nils _) (.cons (.of_eq rfl) .nil)) (octets_Word_app hv _)) fun v9 tk10 τ hv9 H8 hH => ?_
    refine wpo_mv (a := (eT tk10 1 (@eU .u8 8) v9)) rfl rfl rfl (o_as tk rfl (Wk.refl _)) ?_
    refine wpo_nil ?_
    refine awp_seq ?_
    refine awp_region rfl ?_
    refine wpo_mv (a := (eT tk10 1 (@eU .u8 8) v9)) rfl rfl rfl (o_mv tk rfl (Wk.refl _)) ?_
    refine wpo_mv (a := (.fptr (c_api_Leaf x0) 1)) rfl rfl rfl (o_c tk false rfl (fun _ => rfl)) ?_
    refine wpo_mv (a := (eI x0.Kind)) rfl rfl rfl (o_ld tk rfl rfl) ?_
    refine wpo_lt H8 (@eU .u8 8) rfl rfl rfl (o_cv_iu tk td3 td5 rfl rfl) fun v12 H11 => ?_
    refine wpo_mv (a := (.fptr (c_api_Leaf x0) 2)) rfl rfl rfl (o_c tk false rfl (fun _ => rfl)) ?_
    refine wpo_mv (a := ((eL 1 (@eU .u8 8)) x0.Bytes)) rfl rfl rfl (o_ld tk rfl rfl) ?_
    refine wpo_lt H11 eI rfl rfl rfl (o_len tk td22 rfl) fun v14 H13 => ?_
    refine wpo_lt H13 eI rfl rfl rfl (o_shr tk (y := (8 : Int)) rfl rfl rfl) fun v16 H15 => ?_
    refine wpo_lt H15 (@eU .u8 8) rfl rfl rfl (o_cv_iu tk td3 td5 rfl rfl) fun v18 H17 => ?_
    refine wpo_mv (a := (.fptr (c_api_Leaf x0) 2)) rfl rfl rfl (o_c tk false rfl (fun _ => rfl)) ?_
    refine wpo_mv (a := ((eL 1 (@eU .u8 8)) x0.Bytes)) rfl rfl rfl (o_ld tk rfl rfl) ?_
    refine wpo_lt H17 eI rfl rfl rfl (o_len tk td22 rfl) fun v20 H19 => ?_
    refine wpo_lt H19 (@eU .u8 8) rfl rfl rfl (o_cv_iu tk td3 td5 rfl rfl) fun v22 H21 => ?_
    refine wpo_lt H21 (eF 1 (@eU .u8 8)) rfl rfl rfl (o_c tk false rfl (fun _ => rfl)) fun v24 H23 => ?_
    obtain ⟨v26, hv27, H25⟩ := Option.bind_eq_some_iff.1 H23
    refine wpo_a (av := fun t => eT t 1 (@eU .u8 8) v26) rfl rfl rfl (h_app tk hH 0 hv27 rfl td22 ty5 rfl (by decide) rfl (src_l td22 rfl)) fun tk28 τ hH => ?_
    refine wpo_mv (a := (eT tk28 1 (@eU .u8 8) v26)) rfl rfl rfl (o_as tk rfl (Wk.refl _)) ?_
    refine wpo_nil ?_
    refine awp_seq ?_
    refine awp_region rfl ?_
    refine wpo_mv (a := (eT tk28 1 (@eU .u8 8) v26)) rfl rfl rfl (o_mv tk rfl (Wk.refl _)) ?_
    refine wpo_mv (a := (.fptr (c_api_Leaf x0) 2)) rfl rfl rfl (o_c tk false rfl (fun _ => rfl)) ?_
    refine wpo_mv (a := ((eL 1 (@eU .u8 8)) x0.Bytes)) rfl rfl rfl (o_ld tk rfl rfl) ?_
    obtain ⟨v30, hv31, H29⟩ := Option.bind_eq_some_iff.1 H25
    refine wpo_a (av := fun t => eT t 1 (@eU .u8 8) v30) rfl rfl rfl (h_app tk hH 0 hv31 rfl td22 ty5 rfl (by decide) rfl (src_l td22 rfl)) fun tk32 τ hH => ?_
    refine wpo_mv (a := (eT tk32 1 (@eU .u8 8) v30)) rfl rfl rfl (o_as tk rfl (Wk.refl _)) ?_
    refine wpo_nil ?_
    refine awp_seq ?_
    refine awp_region rfl ?_
    refine wpo_mv (a := (eT tk32 1 (@eU .u8 8) v30)) rfl rfl rfl (o_mv tk rfl (Wk.refl _)) ?_
    refine wpo_mv (a := (eT tk32 1 (@eU .u8 8) v30)) rfl rfl rfl (o_mv tk rfl (Wk.refl _)) ?_
    refine wpo_lt H29 eI rfl rfl rfl (o_len tk td22 rfl) fun v34 H33 => ?_
    refine wpo_lt H33 eI rfl rfl rfl (o_ar tk rfl rfl rfl) fun v36 H35 => ?_
    obtain ⟨v38, hv39, H37⟩ := Option.bind_eq_some_iff.1 H35
    obtain ⟨whv39, hwhv39, hv39b⟩ := Option.bind_eq_some_iff.1 hv39
    refine wpo_a (av := fun t => eT t 1 (@eU .u8 8) v38) rfl rfl rfl (h_appz tk hH 0 hwhv39 hv39b rfl td22 ty5 rfl rfl rfl td3 td9 rfl rfl) fun tk40 τ hH => ?_
    refine wpo_mv (a := (eT tk40 1 (@eU .u8 8) v38)) rfl rfl rfl (o_as tk rfl (Wk.refl _)) ?_
    refine wpo_nil ?_
    refine awp_seq ?_
    refine awp_drawS mixed [] rfl (by decide +kernel) rfl rfl ?_
    refine wpdS_mv (a := (eT tk40 1 (@eU .u8 8) v38)) rfl rfl rfl (o_mv tk rfl (Wk.refl _)) ?_
    refine wpdS_bd H37 (eL 1 (@eU .u8 8)) rfl rfl rfl (fun v42 hv => OpP.of_call rfl rfl (.cons wk_no .nil) (checksum_Seal_ok hv)) fun v42 hv42 H41 => ?_
    refine wpdS_mv (a := (.fptr (c_api_Leaf x0) 0)) rfl rfl rfl (o_c tk false rfl (fun _ => rfl)) ?_
    refine wpdS_mv (a := (eI x0.Stamp)) rfl rfl rfl (o_ld tk rfl rfl) ?_
    refine wpdS_lt H41 (@eU .u64 64) rfl rfl rfl (o_cv_iu tk td3 td80 rfl rfl) fun v44 H43 => ?_
    refine wpdS_bd H43 (eL 1 (@eU .u8 8)) rfl rfl rfl (fun v46 hv => OpP.of_call rfl rfl (.cons (.of_eq rfl) (.cons (.of_eq rfl) .nil)) (octets_Word_ok hv)) fun v46 hv46 H45 => ?_
    refine wpdS_mv (a := ((eL 1 (@eU .u8 8)) v46)) rfl rfl rfl (o_as tk rfl (Wk.refl _)) ?_
    refine wpdS_mv (a := (eErr Err.nil)) rfl rfl rfl (o_as tk rfl (Wk.refl _)) ?_
    refine wpdS_nil ?_
    refine awp_ret ?_
    obtain rfl := Option.some.inj H45
    exact ⟨_, (.tup [((eL 1 (@eU .u8 8)) v46), (eErr Err.nil)]), rfl, (wk_tup (.cons (.of_eq rfl) (.cons (.of_eq rfl) .nil))), .of_eq (by simp only [cutAV, cutL, (enc_l td22 sz22 (enc_u td5 sz5).cut).cut _ _ _, encErr.cut _ _ _]), hH.noT⟩
end Go.Proofs.YtgfedohhkbmobaaDoor
namespace Go.Proofs.YtgfedohhkbmobaaDoor
open Go Go.Va
set_option linter.unusedVariables false
set_option linter.unusedSimpArgs false
set_option maxRecDepth 20000
theorem octets_WordV_vec {x0 : List (BitVec 8)} {x1 : BitVec 64} {r : (List (BitVec 8))} (H : octets_WordV x0 x1 = some r) (σ : St)  : ACall Tryd.prog 49 [((eL 1 (@eU .u8 8)) x0), ((@eU .u64 64) x1)] σ (fun a τ => a = .vec σ.objs.length 1 (r).length ∧ τ = ⟨σ.objs ++ [cL (@eU .u8 8) r], σ.opn, σ.gl⟩) := by
  unfold octets_WordV at H
  refine ACall.vec (fun ρ κ => cut_cL (enc_u td5 sz5).cut ρ κ r) (acall_start tk Tryd.func49 (by decide) rfl (Nat.le_of_ble_eq_true rfl) ?_)
  have hH := Holds.init σ
  refine awp_seq ?_
  refine awp_region rfl ?_
  refine wpo_mv (a := AV.nils) rfl rfl rfl (o_as tk rfl (Wk.refl _)) ?_
  refine wpo_nil ?_
  refine awp_seq ?_
  refine awp_region rfl ?_
  refine wpo_mv (a := (eF 1 (@eU .u8 8) ([] : List (BitVec 8)))) rfl rfl rfl (o_c tk false rfl (fun _ => rfl)) ?_
  refine wpo_mv (a := ((eL 1 (@eU .u8 8)) x0)) rfl rfl rfl (o_mv tk rfl (Wk.refl _)) ?_
  obtain ⟨v2, hv3, H1⟩ := Option.bind_eq_some_iff.1 H
  refine wpo_a (av := fun b => .vec b 1 (v2).length) rfl rfl rfl (h_appV0 tk hH hv3 (enc_u td5 sz5) td22 ty5 rfl (by decide) (by simp) (.inr rfl) (srv_l (enc_u td5 sz5) td22 rfl)) fun id4 τ ⟨hH, n5⟩ => ?_
  refine wpo_mv (a := (.vec id4 1 (v2).length)) rfl rfl rfl (o_as tk rfl (Wk.refl _)) ?_
  refine wpo_nil ?_
  refine awp_seq ?_
  refine awp_seq ?_
  refine awp_region rfl ?_
  refine wpo_mv (a := (eI (56 : Int))) rfl rfl rfl (o_as tk rfl (Wk.refl _)) ?_
  refine wpo_nil ?_
  refine awp_block ?_
  obtain ⟨s15, hs9, hj10⟩ := Option.bind_eq_some_iff.1 H1
  refine awp_cutx 0 (fun fr τ => ∃ id_5, σ.objs.length ≤ id_5 ∧ WkF fr (fm [(5, (.vec id_5 1 (s15).length))]) ∧ Holds σ [(id_5, (cL (@eU .u8 8) s15))] [] τ) ?_ ?_
  · rintro fr τ ⟨id_5, n_5, hfr, hH⟩
    have H33 := hj10
    refine AWP.fm [(5, (.vec id_5 1 (s15).length))] hfr ?_
    refine awp_seq ?_
    refine awp_region rfl ?_
    refine wpo_mv (a := (.vec id_5 1 (s15).length)) rfl rfl rfl (o_mv tk rfl (Wk.refl _)) ?_
    refine wpo_mv (a := (.vec id_5 1 (s15).length)) rfl rfl rfl (o_as tk rfl (Wk.refl _)) ?_
    refine wpo_nil ?_
    refine awp_ret ?_
    obtain rfl := Option.some.inj H33
    exact ⟨_, .vec id_5 1 (s15).length, rfl, (.of_eq rfl), id_5, rfl, n_5, hH.noT⟩
  · refine awp_loopO (body := fun s => octets_WordV_b0 x1 s.1 s.2) hs9 (fun (s : (List (BitVec 8)) × Int) fr τ => ∃ id_5, σ.objs.length ≤ id_5 ∧ WkF fr (fm [(1, ((@eU .u64 64) x1)), (5, (.vec id_5 1 (s.1).length)), (6, (eI s.2))]) ∧ Holds σ [(id_5, (cL (@eU .u8 8) s.1))] [] τ) ⟨id4, n5, (wkf_cons (.of_eq rfl) (wkf_cons (.of_eq rfl) (wkf_cons (.of_eq rfl) (wkf_nil _)))), hH⟩ ?_
    rintro ⟨c6, c7⟩ fr τ y11 ⟨id_5, n_5, hfr, hH⟩ hb13 hy14
    have H16 : octets_WordV_b0 x1 c6 c7 = some y11 := hb13
    unfold octets_WordV_b0 at H16
    refine AWP.fm [(1, ((@eU .u64 64) x1)), (5, (.vec id_5 1 (c6).length)), (6, (eI c7))] hfr ?_
    have hH : Holds σ [(id_5, (cL (@eU .u8 8) c6))] [] τ := hH
    refine awp_seq ?_
    refine awp_seq ?_
    refine awp_region rfl ?_
    refine wpo_mv (a := (eI c7)) rfl rfl rfl (o_mv tk rfl (Wk.refl _)) ?_
    refine wpo_lt H16 eB rfl rfl rfl (o_ar tk rfl rfl rfl) fun v18 H17 => ?_
    refine wpo_nil ?_
    refine awp_if H17 rfl (fun H19 => ?_) (fun H19 => ?_)
    · refine awp_skip ?_
      refine awp_seq ?_
      refine awp_block ?_
      refine awp_region rfl ?_
      refine wpo_mv (a := (.vec id_5 1 (c6).length)) rfl rfl rfl (o_mv tk rfl (Wk.refl _)) ?_
      refine wpo_mv (a := ((@eU .u64 64) x1)) rfl rfl rfl (o_mv tk rfl (Wk.refl _)) ?_
      refine wpo_mv (a := (eI c7)) rfl rfl rfl (o_mv tk rfl (Wk.refl _)) ?_
      refine wpo_bd H19 (@eU .u64 64) rfl rfl rfl (fun v21 hv => om_shr_u tk rfl hv rfl rfl) fun v21 hv21 H20 => ?_
      refine wpo_lt H20 (@eU .u8 8) rfl rfl rfl (o_cv_uu tk td80 td5 rfl rfl) fun v23 H22 => ?_
      refine wpo_lt H22 (eF 1 (@eU .u8 8)) rfl rfl rfl (o_c tk false rfl (fun _ => rfl)) fun v25 H24 => ?_
      obtain ⟨v27, hv28, H26⟩ := Option.bind_eq_some_iff.1 H24
      refine wpo_a (av := fun b => .vec b 1 (v27).length) rfl rfl rfl (h_appV tk hH 0 hv28 rfl n_5 (enc_u td5 sz5) td22 ty5 rfl (by decide) rfl rfl (srv_l (enc_u td5 sz5) td22 rfl)) fun id29 τ ⟨hH, n30⟩ => ?_
      refine wpo_mv (a := (.vec id29 1 (v27).length)) rfl rfl rfl (o_as tk rfl (Wk.refl _)) ?_
      refine wpo_nil ?_
      refine awp_region rfl ?_
      refine wpo_mv (a := (eI c7)) rfl rfl rfl (o_mv tk rfl (Wk.refl _)) ?_
      refine wpo_lt H26 eI rfl rfl rfl (o_ar tk rfl rfl rfl) fun v32 H31 => ?_
      refine wpo_mv (a := (eI v32)) rfl rfl rfl (o_as tk rfl (Wk.refl _)) ?_
      refine wpo_nil ?_
      exact ⟨(v27, v32), inj_inl H31, id29, n30, (wkf_cons (.of_eq rfl) (wkf_cons (.of_eq rfl) (wkf_cons (.of_eq rfl) (wkf_nil _)))), hH⟩
    · refine awp_exit ?_
      have hz := hy14 _ (inj_inr H19)
      subst hz
      exact ⟨⟨_, inj_inr H19⟩, id_5, n_5, (wkf_cons (.of_eq rfl) (wkf_nil _)), hH⟩
end Go.Proofs.YtgfedohhkbmobaaDoor
namespace Go.Proofs.YtgfedohhkbmobaaDoor
open Go Go.Va
set_option linter.unusedVariables false
set_option linter.unusedSimpArgs false
set_option maxRecDepth 20000
theorem leaf_PutV_vec {x0 : api_Leaf} {r : (List (BitVec 8)) × Err} (H : leaf_PutV x0 = some r) (σ : St)  : ACall Tryd.prog 13 [(e_api_Leaf x0)] σ (fun a τ => a = .tup (.vec σ.objs.length 1 (r.1).length :: [eErr r.2]) ∧ τ = ⟨σ.objs ++ [cL (@eU .u8 8) r.1], σ.opn, σ.gl⟩) := by
  unfold leaf_PutV at H
  refine ACall.vecs (fun ρ κ => cut_cL (enc_u td5 sz5).cut ρ κ r.1) (fun ρ κ => by simp only [cutL, encErr.cut ρ κ]) (acall_start tk Tryd.func13 (by decide) rfl (Nat.le_of_ble_eq_true rfl) ?_)
  have hH := Holds.init σ
  refine awp_seq ?_
  refine awp_region rfl ?_
  refine wpo_mv (a := (.fptr (c_api_Leaf x0) 0)) rfl rfl rfl (o_boxf tk rfl (.of_eq rfl) (b := (e_api_Leaf x0)) (enc24.flat _)) ?_
  refine wpo_mv (a := AV.nils) rfl rfl rfl (o_as tk rfl (Wk.refl _)) ?_
  refine wpo_mv (a := (eErr Err.nil)) rfl rfl rfl (o_as tk rfl (Wk.refl _)) ?_
  refine wpo_nil ?_
  refine awp_seq ?_
  refine awp_seq ?_
  refine awp_region rfl ?_
  refine wpo_mv (a := (e_api_Leaf x0)) rfl rfl rfl (o_ld tk rfl rfl) ?_
  refine wpo_bd H eErr rfl rfl rfl (fun v2 hv => OpP.of_call rfl rfl (.cons (.of_eq rfl) .nil) (leaf_Check_ok hv)) fun v2 hv2 H1 => ?_
  refine wpo_mv (a := (eErr v2)) rfl rfl rfl (o_as tk rfl (Wk.refl _)) ?_
  refine wpo_nil ?_
  refine awp_seq ?_
  refine awp_region rfl ?_
  refine wpo_mv (a := (eErr v2)) rfl rfl rfl (o_mv tk rfl (Wk.refl _)) ?_
  refine wpo_lt H1 eB rfl rfl rfl (o_err_neq tk rfl rfl rfl) fun v4 H3 => ?_
  refine wpo_nil ?_
  refine awp_if H3 rfl (fun H5 => ?_) (fun H5 => ?_)
  · refine awp_seq ?_
    refine awp_region rfl ?_
    refine wpo_mv (a := (eErr v2)) rfl rfl rfl (o_mv tk rfl (Wk.refl _)) ?_
    refine wpo_mv (a := AV.nils) rfl rfl rfl (o_as tk rfl (Wk.refl _)) ?_
    refine wpo_mv (a := (eErr v2)) rfl rfl rfl (o_as tk rfl (Wk.refl _)) ?_
    refine wpo_nil ?_
    refine AWP.vecN hH 2 1 (.inl rfl) fun id6 τ (hH : Holds σ [(id6, (cL (@eU .u8 8) ([] : List (BitVec 8))))] [] τ) n7 => ?_
    refine awp_ret ?_
    obtain rfl := Option.some.inj H5
    exact ⟨_, .tup [.vec id6 1 (([] : List (BitVec 8))).length, (eErr v2)], rfl, (wk_tup (.cons (.of_eq rfl) (.cons (.of_eq rfl) .nil))), id6, rfl, n7, hH.noT⟩
  · refine awp_skip ?_
    refine awp_seq ?_
    refine awp_region rfl ?_
    refine wpo_mv (a := (.fptr (c_api_Leaf x0) 0)) rfl rfl rfl (o_c tk false rfl (fun _ => rfl)) ?_
    refine wpo_mv (a := (eI x0.Stamp)) rfl rfl rfl (o_ld tk rfl rfl) ?_
    refine wpo_lt H5 (@eU .u64 64) rfl rfl rfl (o_cv_iu tk td3 td80 rfl rfl) fun v9 H8 => ?_
    refine wpo_cb H8 (fun x t => eT t 1 (@eU .u8 8) x) rfl rfl rfl (fun v11 hv => h_calla hH rfl rfl (.cons (wk_nils _) (.cons (.of_eq rfl) .nil)) (octets_Word_app hv _)) fun v11 tk12 τ hv11 H10 hH => ?_
    refine wpo_mv (a := (eT tk12 1 (@eU .u8 8) v11)) rfl rfl rfl (o_as tk rfl (Wk.refl _)) ?_
    refine wpo_nil ?_
    refine awp_seq ?_
    refine awp_region rfl ?_
    refine wpo_mv (a := (eT tk12 1 (@eU .u8 8) v11)) rfl rfl rfl (o_mv tk rfl (Wk.refl _)) ?_
    refine wpo_mv (a := (.fptr (c_api_Leaf x0) 1)) rfl rfl rfl (o_c tk false rfl (fun _ => rfl)) ?_
    refine wpo_mv (a := (eI x0.Kind)) rfl rfl rfl (o_ld tk rfl rfl) ?_
    refine wpo_lt H10 (@eU .u8 8) rfl rfl rfl (o_cv_iu tk td3 td5 rfl rfl) fun v14 H13 => ?_
    refine wpo_mv (a := (.fptr (c_api_Leaf x0) 2)) rfl rfl rfl (o_c tk false rfl (fun _ => rfl)) ?_
    refine wpo_mv (a := ((eL 1 (@eU .u8 8)) x0.Bytes)) rfl rfl rfl (o_ld tk rfl rfl) ?_
    refine wpo_lt H13 eI rfl rfl rfl (o_len tk td22 rfl) fun v16 H15 => ?_
    refine wpo_lt H15 eI rfl rfl rfl (o_shr tk (y := (8 : Int)) rfl rfl rfl) fun v18 H17 => ?_
    refine wpo_lt H17 (@eU .u8 8) rfl rfl rfl (o_cv_iu tk td3 td5 rfl rfl) fun v20 H19 => ?_
    refine wpo_mv (a := (.fptr (c_api_Leaf x0) 2)) rfl rfl rfl (o_c tk false rfl (fun _ => rfl)) ?_
    refine wpo_mv (a := ((eL 1 (@eU .u8 8)) x0.Bytes)) rfl rfl rfl (o_ld tk rfl rfl) ?_
    refine wpo_lt H19 eI rfl rfl rfl (o_len tk td22 rfl) fun v22 H21 => ?_
    refine wpo_lt H21 (@eU .u8 8) rfl rfl rfl (o_cv_iu tk td3 td5 rfl rfl) fun v24 H23 => ?_
    refine wpo_lt H23 (eF 1 (@eU .u8 8)) rfl rfl rfl (o_c tk false rfl (fun _ => rfl)) fun v26 H25 => ?_
    obtain ⟨v28, hv29, H27⟩ := Option.bind_eq_some_iff.1 H25
    refine wpo_a (av := fun t => eT t 1 (@eU .u8 8) v28) rfl rfl rfl (h_app tk hH 0 hv29 rfl td22 ty5 rfl (by decide) rfl (src_l td22 rfl)) fun tk30 τ hH => ?_
    refine wpo_mv (a := (eT tk30 1 (@eU .u8 8) v28)) rfl rfl rfl (o_as tk rfl (Wk.refl _)) ?_
    refine wpo_nil ?_
    refine awp_seq ?_
    refine awp_region rfl ?_
    refine wpo_mv (a := (eT tk30 1 (@eU .u8 8) v28)) rfl rfl rfl (o_mv tk rfl (Wk.refl _)) ?_
    refine wpo_mv (a := (.fptr (c_api_Leaf x0) 2)) rfl rfl rfl (o_c tk false rfl (fun _ => rfl)) ?_
    refine wpo_mv (a := ((eL 1 (@eU .u8 8)) x0.Bytes)) rfl rfl rfl (o_ld tk rfl rfl) ?_
    obtain ⟨v32, hv33, H31⟩ := Option.bind_eq_some_iff.1 H27
    refine wpo_a (av := fun t => eT t 1 (@eU .u8 8) v32) rfl rfl rfl (h_app tk hH 0 hv33 rfl td22 ty5 rfl (by decide) rfl (src_l td22 rfl)) fun tk34 τ hH => ?_
    refine wpo_mv (a := (eT tk34 1 (@eU .u8 8) v32)) rfl rfl rfl (o_as tk rfl (Wk.refl _)) ?_
    refine wpo_nil ?_
    refine awp_seq ?_
    refine awp_region rfl ?_
    refine wpo_mv (a := (eT tk34 1 (@eU .u8 8) v32)) rfl rfl rfl (o_mv tk rfl (Wk.refl _)) ?_
    refine wpo_mv (a := (eT tk34 1 (@eU .u8 8) v32)) rfl rfl rfl (o_mv tk rfl (Wk.refl _)) ?_
    refine wpo_lt H31 eI rfl rfl rfl (o_len tk td22 rfl) fun v36 H35 => ?_
    refine wpo_lt H35 eI rfl rfl rfl (o_ar tk rfl rfl rfl) fun v38 H37 => ?_
    obtain ⟨v40, hv41, H39⟩ := Option.bind_eq_some_iff.1 H37
    obtain ⟨whv41, hwhv41, hv41b⟩ := Option.bind_eq_some_iff.1 hv41
    refine wpo_a (av := fun t => eT t 1 (@eU .u8 8) v40) rfl rfl rfl (h_appz tk hH 0 hwhv41 hv41b rfl td22 ty5 rfl rfl rfl td3 td9 rfl rfl) fun tk42 τ hH => ?_
    refine wpo_mv (a := (eT tk42 1 (@eU .u8 8) v40)) rfl rfl rfl (o_as tk rfl (Wk.refl _)) ?_
    refine wpo_nil ?_
    refine awp_seq ?_
    refine awp_drawS mixed [5] rfl (by decide +kernel) rfl rfl ?_
    refine wpdS_mv (a := (eT tk42 1 (@eU .u8 8) v40)) rfl rfl rfl (o_mv tk rfl (Wk.refl _)) ?_
    refine wpdS_bd H39 (eL 1 (@eU .u8 8)) rfl rfl rfl (fun v44 hv => OpP.of_call rfl rfl (.cons wk_no .nil) (checksum_Seal_ok hv)) fun v44 hv44 H43 => ?_
    refine wpdS_mv (a := (.fptr (c_api_Leaf x0) 0)) rfl rfl rfl (o_c tk false rfl (fun _ => rfl)) ?_
    refine wpdS_mv (a := (eI x0.Stamp)) rfl rfl rfl (o_ld tk rfl rfl) ?_
    refine wpdS_lt H43 (@eU .u64 64) rfl rfl rfl (o_cv_iu tk td3 td80 rfl rfl) fun v46 H45 => ?_
    obtain ⟨v48, hv49, H47⟩ := Option.bind_eq_some_iff.1 H45
    refine wpdS_a (av := fun b => .vec b 1 (v48).length) rfl rfl rfl (h_callv hH (cL (@eU .u8 8) _) rfl rfl (.cons (.of_eq rfl) (.cons (.of_eq rfl) .nil)) (octets_WordV_vec hv49 _)) fun id50 τ ⟨hH, n51⟩ => ?_
    refine wpdS_mv (a := (.vec id50 1 (v48).length)) rfl rfl rfl (o_as tk rfl (Wk.refl _)) ?_
    refine wpdS_mv (a := (eErr Err.nil)) rfl rfl rfl (o_as tk rfl (Wk.refl _)) ?_
    refine wpdS_nil ?_
    refine awp_ret ?_
    obtain rfl := Option.some.inj H47
    exact ⟨_, .tup [.vec id50 1 (v48).length, (eErr Err.nil)], rfl, (wk_tup (.cons (.of_eq rfl) (.cons (.of_eq rfl) .nil))), id50, rfl, n51, hH.noT⟩
end Go.Proofs.YtgfedohhkbmobaaDoor
namespace Go.Proofs.YtgfedohhkbmobaaDoor
open Go Go.Va
set_option linter.unusedVariables false
set_option linter.unusedSimpArgs false
set_option maxRecDepth 20000
theorem trouble_Of_ok {x0 : Err} {r : Int} (H : trouble_Of x0 = some r) (σ : St) (hg : σ.gl = gls) : ACall Tryd.prog 16 [eErr x0] σ (fun a τ => a = eI r ∧ τ = σ) := by
  obtain rfl := Option.some.inj H
  refine ACall.pure (acall_start tk Tryd.func16 (by decide) rfl (Nat.le_of_ble_eq_true rfl) ?_)
  have hH := Holds.init σ
  refine awp_seq ?_
  refine awp_region rfl ?_
  refine wpo_mv (a := (eI (0 : Int))) rfl rfl rfl (o_as tk rfl (Wk.refl _)) ?_
  refine wpo_nil ?_
  refine awp_seq ?_
  refine awp_block ?_
  have hs := trouble_Of_l0 x0
  refine awp_cutx 0 (fun fr τ => codeOf x0 = 0 ∧ WkF fr (fm []) ∧ Holds σ [] [] τ) ?_ ?_
  · rintro fr τ ⟨h0, hfr, hH⟩
    refine AWP.fm [] hfr ?_
    refine awp_seq ?_
    refine awp_region rfl ?_
    refine wpo_mv (a := (eI 0)) rfl rfl rfl (o_as tk rfl (Wk.refl _)) ?_
    refine wpo_nil ?_
    refine awp_ret ?_
    rw [h0]
    exact ⟨_, (eI 0), rfl, (.of_eq rfl), .of_eq rfl, hH.noT⟩
  · refine awp_loopO (body := trouble_Of_b0) hs (fun (s : Err) fr τ => WkF fr (fm [(0, eErr s)]) ∧ Holds σ [] [] τ) ⟨(wkf_cons (.of_eq rfl) (wkf_nil _)), hH⟩ ?_
    rintro c1 fr τ y ⟨hfr, hH⟩ hb hy
    refine AWP.fm [(0, eErr c1)] hfr ?_
    cases c1 with
    | nil =>
      refine awp_seq ?_
      refine awp_seq ?_
      refine awp_region rfl ?_
      refine wpo_mv (a := eErr .nil) rfl rfl rfl (o_mv tk rfl (Wk.refl _)) ?_
      refine wpo_mv (a := eB false) rfl rfl rfl (o_err_neq (x := .nil) tk rfl rfl rfl) ?_
      refine wpo_nil ?_
      refine awp_false rfl ?_
      refine awp_exit ?_
      have hb : some (Sum.inr (Sum.inl ())) = some y := hb
      have hz := hy _ (Option.some.inj hb).symm
      refine ⟨⟨_, (Option.some.inj hb).symm⟩, ?_, (wkf_nil _), hH⟩
      split at hz
      · assumption
      · cases hz
    | fault o a c u =>
      refine awp_seq ?_
      refine awp_seq ?_
      refine awp_region rfl ?_
      refine wpo_mv (a := eErr (.fault o a c u)) rfl rfl rfl (o_mv tk rfl (Wk.refl _)) ?_
      refine wpo_mv (a := eB true) rfl rfl rfl (o_err_neq (x := .fault o a c u) tk rfl rfl rfl) ?_
      refine wpo_nil ?_
      refine awp_true rfl ?_
      refine awp_skip ?_
      refine awp_block ?_
      refine awp_seq ?_
      refine awp_region rfl ?_
      refine wpo_a (av := fun id => .ref id 0) rfl rfl rfl (h_alloc tk hH ty83 [.nilp] rfl) fun id τ ⟨hH, hn⟩ => ?_
      refine wpo_nil ?_
      refine awp_seq ?_
      refine awp_seq ?_
      refine awp_region rfl ?_
      refine wpo_mv (a := eErr (.fault o a c u)) rfl rfl rfl (o_mv tk rfl (Wk.refl _)) ?_
      refine wpo_mv (a := .iface 85 (.ref id 0)) rfl rfl rfl (o_c tk false rfl (fun _ => rfl)) ?_
      refine wpo_cb (α := Unit) (z := some ()) (k := fun _ => some ()) (r := ()) rfl (fun _ _ => eB true) rfl rfl rfl (fun v hv => h_call1 hH [(0, (id, [(Err.fault o a c u).ptr]))] ⟨⟨_, rfl⟩, trivial⟩ rfl rfl (.cons (.of_eq rfl) (.cons (.of_eq rfl) .nil)) (as_ok (x := .fault o a c u) rfl (hH.at_ 0 rfl) (hH.gl.trans hg))) fun _ _ τ _ _ hH => ?_
      refine wpo_mv (a := eB false) rfl rfl rfl (o_un tk rfl rfl) ?_
      refine wpo_nil ?_
      refine awp_false rfl ?_
      refine awp_skip ?_
      refine awp_seq ?_
      refine awp_seq ?_
      refine awp_region rfl ?_
      refine wpo_rd (a := (Err.fault o a c u).ptr) rfl rfl rfl (h_ld tk hH 0 rfl rfl rfl) ?_
      refine wpo_mv (a := (Err.fault o a c u).ptr) rfl rfl rfl (o_c tk false rfl (fun _ => rfl)) ?_
      refine wpo_mv (a := .fptr [eS o, eI a, eI c, eErr u] 2) rfl rfl rfl (o_c tk false rfl (fun _ => rfl)) ?_
      refine wpo_mv (a := eI c) rfl rfl rfl (o_ld tk rfl rfl) ?_
      refine wpo_mv (a := eB (c != 0)) rfl rfl rfl (o_ar tk rfl rfl rfl) ?_
      refine wpo_nil ?_
      have hb : (if (c != 0) = true then some (.inr (.inr c)) else some (.inl u)) = some y := hb
      refine awp_if hb rfl (fun hb => ?_) (fun hb => ?_)
      · refine awp_seq ?_
        refine awp_region rfl ?_
        refine wpo_rd (a := (Err.fault o a c u).ptr) rfl rfl rfl (h_ld tk hH 0 rfl rfl rfl) ?_
        refine wpo_mv (a := (Err.fault o a c u).ptr) rfl rfl rfl (o_c tk false rfl (fun _ => rfl)) ?_
        refine wpo_mv (a := .fptr [eS o, eI a, eI c, eErr u] 2) rfl rfl rfl (o_c tk false rfl (fun _ => rfl)) ?_
        refine wpo_mv (a := eI c) rfl rfl rfl (o_ld tk rfl rfl) ?_
        refine wpo_mv (a := eI c) rfl rfl rfl (o_as tk rfl (Wk.refl _)) ?_
        refine wpo_nil ?_
        refine awp_ret ?_
        have hz := hy _ (Option.some.inj hb).symm
        refine ⟨⟨_, (Option.some.inj hb).symm⟩, ?_⟩
        have hc : codeOf x0 = c := by
          split at hz
          · cases hz
          · exact Sum.inr.inj hz.symm
        rw [hc]
        exact ⟨_, (eI c), rfl, (.of_eq rfl), .of_eq rfl, (hH.noT.drop hn)⟩
      · refine awp_skip ?_
        refine awp_region rfl ?_
        refine wpo_rd (a := (Err.fault o a c u).ptr) rfl rfl rfl (h_ld tk hH 0 rfl rfl rfl) ?_
        refine wpo_mv (a := (Err.fault o a c u).ptr) rfl rfl rfl (o_c tk false rfl (fun _ => rfl)) ?_
        refine wpo_mv (a := .fptr [eS o, eI a, eI c, eErr u] 3) rfl rfl rfl (o_c tk false rfl (fun _ => rfl)) ?_
        refine wpo_mv (a := eErr u) rfl rfl rfl (o_ld tk rfl (by cases u <;> rfl)) ?_
        refine wpo_mv (a := eErr u) rfl rfl rfl (o_as tk rfl (Wk.refl _)) ?_
        refine wpo_nil ?_
        exact ⟨u, (Option.some.inj hb).symm, (wkf_cons (.of_eq rfl) (wkf_nil _)), hH.drop hn⟩
end Go.Proofs.YtgfedohhkbmobaaDoor
namespace Go.Proofs.YtgfedohhkbmobaaDoor
open Go Go.Va
set_option linter.unusedSimpArgs false
theorem stu90 : Tryd.prog.underlying 90 = some (.struct (Tryd.prog.fieldsOf 90)) := by simp only [Program.fieldsOf, Tryd.underlying90]
theorem sth90 : Tryd.prog.stoodInHeld 90 = false := by kernel_rfl
theorem stm90 : Tryd.prog.eqGuardType Tryd.prog.depth 90 = false := by kernel_rfl
theorem eqst90 (x y : leaf_head) : eqCells Tryd.prog (Tryd.prog.fieldsOf 90).toList (c_leaf_head x) (c_leaf_head y) = some (x == y) := by
  obtain ⟨x0, x1⟩ := x
  obtain ⟨y0, y1⟩ := y
  simp only [Program.fieldsOf, Tryd.underlying90]
  simp [eqCells, c_leaf_head, eU, eI, eB, eS, eK, mkB_inj, Tryd.underlying3]
  repeat' split
  all_goals simp_all
end Go.Proofs.YtgfedohhkbmobaaDoor
namespace Go.Proofs.YtgfedohhkbmobaaDoor
open Go Go.Va
set_option linter.unusedVariables false
set_option linter.unusedSimpArgs false
set_option maxRecDepth 20000
theorem leaf_Same_ok {x0 : api_Leaf} {x1 : api_Leaf} {r : Bool} (H : leaf_Same x0 x1 = some r) (σ : St)  : ACall Tryd.prog 19 [(e_api_Leaf x0), (e_api_Leaf x1)] σ (fun a τ => a = eB r ∧ τ = σ) := by
  unfold leaf_Same at H
  refine ACall.pure (acall_start tk Tryd.func19 (by decide) rfl (Nat.le_of_ble_eq_true rfl) ?_)
  have hH := Holds.init σ
  refine awp_seq ?_
  refine awp_region rfl ?_
  refine wpo_mv (a := (.fptr (c_api_Leaf x0) 0)) rfl rfl rfl (o_boxf tk rfl (.of_eq rfl) (b := (e_api_Leaf x0)) (enc24.flat _)) ?_
  refine wpo_mv (a := (.fptr (c_api_Leaf x1) 0)) rfl rfl rfl (o_boxf tk rfl (.of_eq rfl) (b := (e_api_Leaf x1)) (enc24.flat _)) ?_
  refine wpo_mv (a := (eB false)) rfl rfl rfl (o_as tk rfl (Wk.refl _)) ?_
  refine wpo_nil ?_
  refine awp_seq ?_
  refine awp_region rfl ?_
  refine wpo_mv (a := (.fptr (c_api_Leaf x0) 0)) rfl rfl rfl (o_c tk false rfl (fun _ => rfl)) ?_
  refine wpo_mv (a := (eI x0.Stamp)) rfl rfl rfl (o_ld tk rfl rfl) ?_
  refine wpo_mv (a := (.fptr (c_api_Leaf x0) 1)) rfl rfl rfl (o_c tk false rfl (fun _ => rfl)) ?_
  refine wpo_mv (a := (eI x0.Kind)) rfl rfl rfl (o_ld tk rfl rfl) ?_
  refine wpo_lt H e_leaf_head rfl rfl rfl (o_c tk false rfl (fun _ => rfl)) fun v2 H1 => ?_
  refine wpo_mv (a := (.fptr (c_api_Leaf x1) 0)) rfl rfl rfl (o_c tk false rfl (fun _ => rfl)) ?_
  refine wpo_mv (a := (eI x1.Stamp)) rfl rfl rfl (o_ld tk rfl rfl) ?_
  refine wpo_mv (a := (.fptr (c_api_Leaf x1) 1)) rfl rfl rfl (o_c tk false rfl (fun _ => rfl)) ?_
  refine wpo_mv (a := (eI x1.Kind)) rfl rfl rfl (o_ld tk rfl rfl) ?_
  refine wpo_lt H1 e_leaf_head rfl rfl rfl (o_c tk false rfl (fun _ => rfl)) fun v4 H3 => ?_
  refine wpo_lt H3 eB rfl rfl rfl (o_eql_st stu90 sth90 stm90 (eqst90 _ _) rfl rfl) fun v6 H5 => ?_
  refine wpo_mv (a := (eB v6)) rfl rfl rfl (o_mv tk rfl (Wk.refl _)) ?_
  refine if_split H5 (fun hb H7 => ?_) (fun hb H7 => ?_)
  · subst hb
    refine wpo_mv (a := (.fptr (c_api_Leaf x0) 2)) rfl rfl rfl (o_c tk false rfl (fun _ => rfl)) ?_
    refine wpo_mv (a := ((eL 1 (@eU .u8 8)) x0.Bytes)) rfl rfl rfl (o_ld tk rfl rfl) ?_
    refine wpo_mv (a := (eS x0.Bytes)) rfl rfl rfl (o_b2s tk td22 td9 td5 rfl) ?_
    refine wpo_mv (a := (.fptr (c_api_Leaf x1) 2)) rfl rfl rfl (o_c tk false rfl (fun _ => rfl)) ?_
    refine wpo_mv (a := ((eL 1 (@eU .u8 8)) x1.Bytes)) rfl rfl rfl (o_ld tk rfl rfl) ?_
    refine wpo_mv (a := (eS x1.Bytes)) rfl rfl rfl (o_b2s tk td22 td9 td5 rfl) ?_
    refine wpo_lt H7 eB rfl rfl rfl (o_eql_s tk rfl rfl) fun v9 H8 => ?_
    refine wpo_mv (a := (eB v9)) rfl rfl rfl (o_pick_t tk rfl rfl (Wk.refl _)) ?_
    refine wpo_mv (a := (eB v9)) rfl rfl rfl (o_as tk rfl (Wk.refl _)) ?_
    refine wpo_nil ?_
    refine awp_ret ?_
    obtain rfl := Option.some.inj H8
    exact ⟨_, (eB v9), rfl, (.of_eq rfl), .of_eq ((enc_b td4 sz4).cut _ _ _), hH.noT⟩
  · subst hb
    refine wpo_skip rfl rfl rfl ?_
    refine wpo_skip rfl rfl rfl ?_
    refine wpo_skip rfl rfl rfl ?_
    refine wpo_skip rfl rfl rfl ?_
    refine wpo_skip rfl rfl rfl ?_
    refine wpo_skip rfl rfl rfl ?_
    refine wpo_skip rfl rfl rfl ?_
    refine wpo_mv (a := (eB false)) rfl rfl rfl (o_pick_f tk rfl rfl (Wk.refl _)) ?_
    refine wpo_mv (a := (eB false)) rfl rfl rfl (o_as tk rfl (Wk.refl _)) ?_
    refine wpo_nil ?_
    refine awp_ret ?_
    obtain rfl := Option.some.inj H7
    exact ⟨_, (eB false), rfl, (.of_eq rfl), .of_eq ((enc_b td4 sz4).cut _ _ _), hH.noT⟩
end Go.Proofs.YtgfedohhkbmobaaDoor
namespace Go.Proofs.YtgfedohhkbmobaaDoor
open Go Go.Va
set_option linter.unusedVariables false
set_option linter.unusedSimpArgs false
set_option maxRecDepth 20000
theorem octets_Read_ok {x0 : List (BitVec 8)} {r : octets_Reader} (H : octets_Read x0 = some r) (σ : St)  : ACall Tryd.prog 34 [((eL 1 (@eU .u8 8)) x0)] σ (fun a τ => a = .ref σ.objs.length 0 ∧ τ = ⟨σ.objs ++ [(c_octets_Reader r)], σ.opn, σ.gl⟩) := by
  unfold octets_Read at H
  refine ACall.new (fun ρ κ => c_octets_Reader_cut ρ κ r) (acall_start tk Tryd.func34 (by decide) rfl (Nat.le_of_ble_eq_true rfl) ?_)
  have hH := Holds.init σ
  refine awp_seq ?_
  refine awp_region rfl ?_
  refine wpo_mv (a := .nilp) rfl rfl rfl (o_as tk rfl (Wk.refl _)) ?_
  refine wpo_nil ?_
  refine awp_seq ?_
  refine awp_region rfl ?_
  refine wpo_mv (a := (eF 1 (@eU .u8 8) ([] : List (BitVec 8)))) rfl rfl rfl (o_c tk false rfl (fun _ => rfl)) ?_
  refine wpo_mv (a := ((eL 1 (@eU .u8 8)) x0)) rfl rfl rfl (o_mv tk rfl (Wk.refl _)) ?_
  obtain ⟨v2, hv3, H1⟩ := Option.bind_eq_some_iff.1 H
  refine wpo_a (av := fun t => eT t 1 (@eU .u8 8) v2) rfl rfl rfl (h_app0 tk hH hv3 td22 ty5 rfl (by decide) (.inr rfl) (src_l td22 rfl)) fun tk4 τ hH => ?_
  refine wpo_lt H1 e_octets_Reader rfl rfl rfl (OpP.wk (wkf_up (t := 5) (a := ((eL 1 (@eU .u8 8)) v2)) wk_no) (o_c tk false rfl (fun _ => rfl))) fun v6 H5 => ?_
  refine wpo_a (av := fun id => .ref id 0) rfl rfl rfl (h_box tk hH rfl (.of_eq rfl) (b := (e_octets_Reader v6)) (enc98.flat _) (c_octets_Reader v6) rfl) fun id7 τ ⟨hH, n8⟩ => ?_
  refine wpo_mv (a := (.ref id7 0)) rfl rfl rfl (o_as tk rfl (Wk.refl _)) ?_
  refine wpo_nil ?_
  refine awp_ret ?_
  obtain rfl := Option.some.inj H5
  exact ⟨_, .ref id7 0, rfl, .of_eq rfl, id7, rfl, n8, hH.noT⟩
end Go.Proofs.YtgfedohhkbmobaaDoor
namespace Go.Proofs.YtgfedohhkbmobaaDoor
open Go Go.Va
set_option linter.unusedVariables false
set_option linter.unusedSimpArgs false
set_option maxRecDepth 20000
theorem octets_Reader_Left_ok {x0 : octets_Reader} {r : Int} (H : octets_Reader_Left x0 = some r) (σ : St) {p0 : Nat} (h0 : σ.objs[p0]? = some (c_octets_Reader x0)) : ACall Tryd.prog 40 [(.ref p0 0)] σ (fun a τ => a = eI r ∧ τ = σ) := by
  unfold octets_Reader_Left at H
  refine ACall.pure (acall_start tk Tryd.func40 (by decide) rfl (Nat.le_of_ble_eq_true rfl) ?_)
  have hH := Holds.init σ
  have hH := hH.bring h0 (fun _ h => by cases h)
  refine awp_seq ?_
  refine awp_region rfl ?_
  refine wpo_mv (a := (eI (0 : Int))) rfl rfl rfl (o_as tk rfl (Wk.refl _)) ?_
  refine wpo_nil ?_
  refine awp_seq ?_
  refine awp_drawS mixed [] rfl (by decide +kernel) rfl rfl ?_
  refine wpdS_mv (a := (.ref p0 0)) rfl rfl rfl (o_mv tk rfl (Wk.refl _)) ?_
  refine wpdS_mv (a := (.ref p0 0)) rfl rfl rfl (o_c tk false rfl (fun _ => rfl)) ?_
  refine wpdS_mv (a := (.ref p0 0)) rfl rfl rfl (o_c tk false rfl (fun _ => rfl)) ?_
  refine wpdS_rd (a := ((eL 1 (@eU .u8 8)) x0.b)) rfl (by decide +kernel) rfl rfl (h_ld tk hH 0 rfl rfl rfl) ?_
  refine wpdS_lt H eI rfl rfl rfl (o_len tk td22 rfl) fun v2 H1 => ?_
  refine wpdS_mv (a := (.ref p0 0)) rfl rfl rfl (o_mv tk rfl (Wk.refl _)) ?_
  refine wpdS_mv (a := (.ref p0 0)) rfl rfl rfl (o_c tk false rfl (fun _ => rfl)) ?_
  refine wpdS_mv (a := (.ref p0 1)) rfl rfl rfl (o_c tk false rfl (fun _ => rfl)) ?_
  refine wpdS_rd (a := (eI x0.at_)) rfl (by decide +kernel) rfl rfl (h_ld tk hH 0 rfl rfl rfl) ?_
  refine wpdS_lt H1 eI rfl rfl rfl (o_ar tk rfl rfl rfl) fun v4 H3 => ?_
  refine wpdS_mv (a := (eI v4)) rfl rfl rfl (o_as tk rfl (Wk.refl _)) ?_
  refine wpdS_nil ?_
  refine awp_ret ?_
  obtain rfl := Option.some.inj H3
  exact ⟨_, (eI v4), rfl, (.of_eq rfl), .of_eq ((enc_i64 td3 sz3).cut _ _ _), (hH.noT.unbring h0)⟩
end Go.Proofs.YtgfedohhkbmobaaDoor
namespace Go.Proofs.YtgfedohhkbmobaaDoor
open Go Go.Va
set_option linter.unusedVariables false
set_option linter.unusedSimpArgs false
set_option maxRecDepth 20000
theorem octets_Reader_Fail_ok {x0 : octets_Reader} {x1 : Int} {r : octets_Reader} (H : octets_Reader_Fail x0 x1 = some r) (σ : St) {p0 : Nat} (h0 : σ.objs[p0]? = some (c_octets_Reader x0)) : ACall Tryd.prog 68 [(.ref p0 0), (eI x1)] σ (fun a τ => a = .tup [] ∧ τ = σ.puts [(p0, (c_octets_Reader r))]) := by
  unfold octets_Reader_Fail at H
  refine ACall.out [(p0, (c_octets_Reader r))] (by simp only [List.mem_cons, List.not_mem_nil, or_false]; rintro _ (rfl) ρ κ <;> exact c_octets_Reader_cut ρ κ _) (acall_start tk Tryd.func68 (by decide) rfl (Nat.le_of_ble_eq_true rfl) ?_)
  have hH := Holds.init σ
  have hH := hH.bring h0 (fun _ h => by cases h)
  refine awp_seq ?_
  refine awp_region rfl ?_
  refine wpo_mv (a := (.ref p0 0)) rfl rfl rfl (o_mv tk rfl (Wk.refl _)) ?_
  refine wpo_mv (a := (.ref p0 0)) rfl rfl rfl (o_c tk false rfl (fun _ => rfl)) ?_
  refine wpo_mv (a := (.ref p0 2)) rfl rfl rfl (o_c tk false rfl (fun _ => rfl)) ?_
  refine wpo_rd (a := (eI x0.code)) rfl rfl rfl (h_ld tk hH 0 rfl rfl rfl) ?_
  refine wpo_lt H eB rfl rfl rfl (o_ar tk rfl rfl rfl) fun v2 H1 => ?_
  refine wpo_nil ?_
  refine awp_if H1 rfl (fun H3 => ?_) (fun H3 => ?_)
  · refine awp_region rfl ?_
    refine wpo_mv (a := (.ref p0 0)) rfl rfl rfl (o_mv tk rfl (Wk.refl _)) ?_
    refine wpo_mv (a := (eI x1)) rfl rfl rfl (o_mv tk rfl (Wk.refl _)) ?_
    refine wpo_mv (a := (.ref p0 0)) rfl rfl rfl (o_c tk false rfl (fun _ => rfl)) ?_
    refine wpo_mv (a := (.ref p0 2)) rfl rfl rfl (o_c tk false rfl (fun _ => rfl)) ?_
    obtain ⟨c5, hc6, H4⟩ := lt_ex H3
    refine wpo_z rfl rfl (h_st tk hH 0 rfl ty30 (by simp) rfl rfl (.of_eq rfl) (b := (eI x1)) rfl rfl (Nat.le_of_ble_eq_true rfl) (c_octets_Reader c5) (by rw [← hc6]; rfl)) fun τ hH => ?_
    refine wpo_nil ?_
    obtain rfl := Option.some.inj H4
    exact ⟨_, (.tup []), rfl, (.of_eq rfl), .of_eq rfl, hH.noT⟩
  · refine awp_skip ?_
    obtain rfl := Option.some.inj H3
    exact ⟨_, (.tup []), rfl, (.of_eq rfl), .of_eq rfl, hH.noT⟩
end Go.Proofs.YtgfedohhkbmobaaDoor
namespace Go.Proofs.YtgfedohhkbmobaaDoor
open Go Go.Va
set_option linter.unusedVariables false
set_option linter.unusedSimpArgs false
set_option maxRecDepth 20000
theorem octets_Reader_Word_ok {x0 : octets_Reader} {r : (BitVec 64) × octets_Reader} (H : octets_Reader_Word x0 = some r) (σ : St) {p0 : Nat} (h0 : σ.objs[p0]? = some (c_octets_Reader x0)) : ACall Tryd.prog 81 [(.ref p0 0)] σ (fun a τ => a = (@eU .u64 64) r.1 ∧ τ = σ.puts [(p0, (c_octets_Reader r.2))]) := by
  unfold octets_Reader_Word at H
  refine ACall.out [(p0, (c_octets_Reader r.2))] (by simp only [List.mem_cons, List.not_mem_nil, or_false]; rintro _ (rfl) ρ κ <;> exact c_octets_Reader_cut ρ κ _) (acall_start tk Tryd.func81 (by decide) rfl (Nat.le_of_ble_eq_true rfl) ?_)
  have hH := Holds.init σ
  have hH := hH.bring h0 (fun _ h => by cases h)
  refine awp_seq ?_
  refine awp_region rfl ?_
  refine wpo_mv (a := ((@eU .u64 64) 0#64)) rfl rfl rfl (o_as tk rfl (Wk.refl _)) ?_
  refine wpo_nil ?_
  refine awp_seq ?_
  refine awp_seq ?_
  obtain ⟨s1, hs3, hj4⟩ := Option.bind_eq_some_iff.1 H
  refine awp_cutn (fun fr τ => WkF fr (fm [(0, (.ref p0 0)), (15, (eB s1))]) ∧ Holds σ [(p0, (c_octets_Reader x0))] [] τ) ?_ ?_
  · rintro fr τ ⟨hfr, hH⟩
    have H12 := hj4
    refine AWP.fm [(0, (.ref p0 0)), (15, (eB s1))] hfr ?_
    obtain ⟨s13, hs15, hj16⟩ := Option.bind_eq_some_iff.1 H12
    refine awp_cutn (fun fr τ => WkF fr (fm [(0, (.ref p0 0))]) ∧ Holds σ [(p0, (c_octets_Reader s13))] [] τ) ?_ ?_
    · rintro fr τ ⟨hfr, hH⟩
      have H20 := hj16
      refine AWP.fm [(0, (.ref p0 0))] hfr ?_
      refine awp_seq ?_
      refine awp_seq ?_
      refine awp_region rfl ?_
      refine wpo_mv (a := (.ref p0 0)) rfl rfl rfl (o_mv tk rfl (Wk.refl _)) ?_
      refine wpo_mv (a := (.ref p0 0)) rfl rfl rfl (o_c tk false rfl (fun _ => rfl)) ?_
      refine wpo_mv (a := (.ref p0 2)) rfl rfl rfl (o_c tk false rfl (fun _ => rfl)) ?_
      refine wpo_rd (a := (eI s13.code)) rfl rfl rfl (h_ld tk hH 0 rfl rfl rfl) ?_
      refine wpo_lt H20 eB rfl rfl rfl (o_ar tk rfl rfl rfl) fun v22 H21 => ?_
      refine wpo_nil ?_
      refine awp_if H21 rfl (fun H23 => ?_) (fun H23 => ?_)
      · refine awp_seq ?_
        refine awp_region rfl ?_
        refine wpo_mv (a := ((@eU .u64 64) 0#64)) rfl rfl rfl (o_as tk rfl (Wk.refl _)) ?_
        refine wpo_nil ?_
        refine awp_ret ?_
        obtain rfl := Option.some.inj H23
        exact ⟨_, ((@eU .u64 64) 0#64), rfl, (.of_eq rfl), .of_eq ((enc_u td80 sz80).cut _ _ _), hH.noT⟩
      · refine awp_skip ?_
        refine awp_seq ?_
        refine awp_region rfl ?_
        refine wpo_mv (a := ((@eU .u64 64) 0#64)) rfl rfl rfl (o_as tk rfl (Wk.refl _)) ?_
        refine wpo_nil ?_
        refine awp_seq ?_
        refine awp_seq ?_
        refine awp_drawS mixed [] rfl (by decide +kernel) rfl rfl ?_
        refine wpdS_mv (a := (.ref p0 0)) rfl rfl rfl (o_mv tk rfl (Wk.refl _)) ?_
        refine wpdS_mv (a := (.ref p0 0)) rfl rfl rfl (o_c tk false rfl (fun _ => rfl)) ?_
        refine wpdS_mv (a := (.ref p0 0)) rfl rfl rfl (o_c tk false rfl (fun _ => rfl)) ?_
        refine wpdS_rd (a := ((eL 1 (@eU .u8 8)) s13.b)) rfl (by decide +kernel) rfl rfl (h_ld tk hH 0 rfl rfl rfl) ?_
        refine wpdS_mv (a := (.ref p0 0)) rfl rfl rfl (o_mv tk rfl (Wk.refl _)) ?_
        refine wpdS_mv (a := (.ref p0 0)) rfl rfl rfl (o_c tk false rfl (fun _ => rfl)) ?_
        refine wpdS_mv (a := (.ref p0 1)) rfl rfl rfl (o_c tk false rfl (fun _ => rfl)) ?_
        refine wpdS_rd (a := (eI s13.at_)) rfl (by decide +kernel) rfl rfl (h_ld tk hH 0 rfl rfl rfl) ?_
        refine wpdS_mv (a := (.ref p0 0)) rfl rfl rfl (o_mv tk rfl (Wk.refl _)) ?_
        refine wpdS_mv (a := (.ref p0 0)) rfl rfl rfl (o_c tk false rfl (fun _ => rfl)) ?_
        refine wpdS_mv (a := (.ref p0 1)) rfl rfl rfl (o_c tk false rfl (fun _ => rfl)) ?_
        refine wpdS_rd (a := (eI s13.at_)) rfl (by decide +kernel) rfl rfl (h_ld tk hH 0 rfl rfl rfl) ?_
        refine wpdS_lt H23 eI rfl rfl rfl (o_ar tk rfl rfl rfl) fun v25 H24 => ?_
        refine wpdS_bd H24 (eL 1 (@eU .u8 8)) rfl rfl rfl (fun v27 hv => o_cut tk hv td22 (enc_u td5 sz5) rfl rfl rfl) fun v27 hv27 H26 => ?_
        refine wpdS_lt H26 eI rfl rfl rfl (o_len tk td22 rfl) fun v29 H28 => ?_
        refine wpdS_mv (a := (eI (0 : Int))) rfl rfl rfl (o_mv tk rfl (Wk.refl _)) ?_
        refine wpdS_nil ?_
        refine awp_block ?_
        obtain ⟨s39, hs33, hj34⟩ := Option.bind_eq_some_iff.1 H28
        refine awp_cutx 0 (fun fr τ => WkF fr (fm [(0, (.ref p0 0)), (3, ((@eU .u64 64) s39))]) ∧ Holds σ [(p0, (c_octets_Reader s13))] [] τ) ?_ ?_
        · rintro fr τ ⟨hfr, hH⟩
          have H54 := hj34
          refine AWP.fm [(0, (.ref p0 0)), (3, ((@eU .u64 64) s39))] hfr ?_
          refine awp_seq ?_
          refine awp_region rfl ?_
          refine wpo_mv (a := (.ref p0 0)) rfl rfl rfl (o_mv tk rfl (Wk.refl _)) ?_
          refine wpo_mv (a := (.ref p0 0)) rfl rfl rfl (o_c tk false rfl (fun _ => rfl)) ?_
          refine wpo_mv (a := (.ref p0 1)) rfl rfl rfl (o_c tk false rfl (fun _ => rfl)) ?_
          refine wpo_rd (a := (eI s13.at_)) rfl rfl rfl (h_ld tk hH 0 rfl rfl rfl) ?_
          refine wpo_lt H54 eI rfl rfl rfl (o_ar tk rfl rfl rfl) fun v56 H55 => ?_
          refine wpo_mv (a := (.ref p0 0)) rfl rfl rfl (o_c tk false rfl (fun _ => rfl)) ?_
          refine wpo_mv (a := (.ref p0 1)) rfl rfl rfl (o_c tk false rfl (fun _ => rfl)) ?_
          obtain ⟨c58, hc59, H57⟩ := lt_ex H55
          refine wpo_z rfl rfl (h_st tk hH 0 rfl ty3 (by simp) rfl rfl (.of_eq rfl) (b := (eI v56)) rfl rfl (Nat.le_of_ble_eq_true rfl) (c_octets_Reader c58) (by rw [← hc59]; rfl)) fun τ hH => ?_
          refine wpo_nil ?_
          refine awp_seq ?_
          refine awp_region rfl ?_
          refine wpo_mv (a := ((@eU .u64 64) s39)) rfl rfl rfl (o_mv tk rfl (Wk.refl _)) ?_
          refine wpo_mv (a := ((@eU .u64 64) s39)) rfl rfl rfl (o_as tk rfl (Wk.refl _)) ?_
          refine wpo_nil ?_
          refine awp_ret ?_
          obtain rfl := Option.some.inj H57
          exact ⟨_, ((@eU .u64 64) s39), rfl, (.of_eq rfl), .of_eq ((enc_u td80 sz80).cut _ _ _), hH.noT⟩
        · refine awp_loopO (body := fun s => octets_Reader_Word_b0 s13 v27 v29 s.1 s.2) hs33 (fun (s : (BitVec 64) × Int) fr τ => WkF fr (fm [(0, (.ref p0 0)), (3, ((@eU .u64 64) s.1)), (36, ((eL 1 (@eU .u8 8)) v27)), (37, (eI v29)), (38, (eI s.2))]) ∧ Holds σ [(p0, (c_octets_Reader s13))] [] τ) ⟨(wkf_cons (.of_eq rfl) (wkf_cons (.of_eq rfl) (wkf_cons (.of_eq rfl) (wkf_cons (.of_eq rfl) (wkf_cons (.of_eq rfl) (wkf_nil _)))))), hH⟩ ?_
          rintro ⟨c30, c31⟩ fr τ y35 ⟨hfr, hH⟩ hb37 hy38
          have H40 : octets_Reader_Word_b0 s13 v27 v29 c30 c31 = some y35 := hb37
          unfold octets_Reader_Word_b0 at H40
          refine AWP.fm [(0, (.ref p0 0)), (3, ((@eU .u64 64) c30)), (36, ((eL 1 (@eU .u8 8)) v27)), (37, (eI v29)), (38, (eI c31))] hfr ?_
          have hH : Holds σ [(p0, (c_octets_Reader s13))] [] τ := hH
          refine awp_seq ?_
          refine awp_region rfl ?_
          refine wpo_lt H40 eB rfl rfl rfl (o_ar tk rfl rfl rfl) fun v42 H41 => ?_
          refine wpo_nil ?_
          refine awp_seq ?_
          refine awp_if H41 rfl (fun H43 => ?_) (fun H43 => ?_)
          · refine awp_skip ?_
            refine awp_seq ?_
            refine awp_block ?_
            refine awp_seq ?_
            refine awp_region rfl ?_
            refine wpo_bd H43 (fun y => .fptr ((@eU .u8 8) y).cells 0) rfl rfl rfl (fun v45 hv => o_ixa tk hv td22 (enc_u td5 sz5) rfl rfl) fun v45 hv45 H44 => ?_
            refine wpo_mv (a := ((@eU .u8 8) v45)) rfl rfl rfl (o_ld_e tk (enc_u td5 sz5) rfl rfl) ?_
            refine wpo_mv (a := ((@eU .u8 8) v45)) rfl rfl rfl (o_as tk rfl (Wk.refl _)) ?_
            refine wpo_nil ?_
            refine awp_region rfl ?_
            refine wpo_mv (a := ((@eU .u64 64) c30)) rfl rfl rfl (o_mv tk rfl (Wk.refl _)) ?_
            refine wpo_lt H44 (@eU .u64 64) rfl rfl rfl (o_shl_u tk rfl (y := (8 : Int)) rfl rfl rfl) fun v47 H46 => ?_
            refine wpo_mv (a := ((@eU .u8 8) v45)) rfl rfl rfl (o_mv tk rfl (Wk.refl _)) ?_
            refine wpo_lt H46 (@eU .u64 64) rfl rfl rfl (o_cv_uu tk td5 td80 rfl rfl) fun v49 H48 => ?_
            refine wpo_lt H48 (@eU .u64 64) rfl rfl rfl (o_or_u tk rfl rfl rfl) fun v51 H50 => ?_
            refine wpo_mv (a := ((@eU .u64 64) v51)) rfl rfl rfl (o_as tk rfl (Wk.refl _)) ?_
            refine wpo_nil ?_
            refine awp_region rfl ?_
            refine wpo_lt H50 eI rfl rfl rfl (o_ar tk rfl rfl rfl) fun v53 H52 => ?_
            refine wpo_mv (a := (eI v53)) rfl rfl rfl (o_mv tk rfl (Wk.refl _)) ?_
            refine wpo_nil ?_
            exact ⟨(v51, v53), inj_inl H52, (wkf_cons (.of_eq rfl) (wkf_cons (.of_eq rfl) (wkf_cons (.of_eq rfl) (wkf_cons (.of_eq rfl) (wkf_cons (.of_eq rfl) (wkf_nil _)))))), hH⟩
          · refine awp_exit ?_
            have hz := hy38 _ (inj_inr H43)
            subst hz
            exact ⟨⟨_, inj_inr H43⟩, (wkf_cons (.of_eq rfl) (wkf_cons (.of_eq rfl) (wkf_nil _))), hH⟩
    · refine awp_if hs15 rfl (fun H17 => ?_) (fun H17 => ?_)
      · refine awp_region rfl ?_
        refine wpo_mv (a := (.ref p0 0)) rfl rfl rfl (o_mv tk rfl (Wk.refl _)) ?_
        refine wpo_cb H17 (fun x _ => .tup []) rfl rfl rfl (fun v19 hv => h_call1 hH [(0, (p0, (c_octets_Reader v19)))] ⟨⟨_, rfl⟩, trivial⟩ rfl rfl (.cons (.of_eq rfl) (.cons (.of_eq rfl) .nil)) (octets_Reader_Fail_ok hv _ (hH.at_ 0 rfl))) fun v19 _ τ hv19 H18 hH => ?_
        refine wpo_nil ?_
        have e := Option.some.inj H18
        subst e
        exact ⟨(wkf_cons (.of_eq rfl) (wkf_nil _)), hH⟩
      · refine awp_skip ?_
        have e := Option.some.inj H17
        subst e
        exact ⟨(wkf_cons (.of_eq rfl) (wkf_nil _)), hH⟩
  · refine awp_region rfl ?_
    refine wpo_mv (a := (.ref p0 0)) rfl rfl rfl (o_mv tk rfl (Wk.refl _)) ?_
    refine wpo_mv (a := (.ref p0 0)) rfl rfl rfl (o_c tk false rfl (fun _ => rfl)) ?_
    refine wpo_mv (a := (.ref p0 2)) rfl rfl rfl (o_c tk false rfl (fun _ => rfl)) ?_
    refine wpo_rd (a := (eI x0.code)) rfl rfl rfl (h_ld tk hH 0 rfl rfl rfl) ?_
    refine wpo_lt hs3 eB rfl rfl rfl (o_ar tk rfl rfl rfl) fun v6 H5 => ?_
    refine wpo_mv (a := (eB v6)) rfl rfl rfl (o_mv tk rfl (Wk.refl _)) ?_
    refine if_split H5 (fun hb H7 => ?_) (fun hb H7 => ?_)
    · subst hb
      refine wpo_mv (a := (.ref p0 0)) rfl rfl rfl (o_mv tk rfl (Wk.refl _)) ?_
      refine wpo_bdr H7 eI rfl rfl rfl (fun v9 hv => h_callr rfl rfl (.cons (.of_eq rfl) .nil) (octets_Reader_Left_ok hv _ (hH.at_ 0 rfl))) fun v9 hv9 H8 => ?_
      refine wpo_lt H8 eB rfl rfl rfl (o_ar tk rfl rfl rfl) fun v11 H10 => ?_
      refine wpo_mv (a := (eB v11)) rfl rfl rfl (o_pick_t tk rfl rfl (Wk.refl _)) ?_
      refine wpo_nil ?_
      have e := Option.some.inj H10
      subst e
      exact ⟨(wkf_cons (.of_eq rfl) (wkf_cons (.of_eq rfl) (wkf_nil _))), hH⟩
    · subst hb
      refine wpo_skip rfl rfl rfl ?_
      refine wpo_skip rfl rfl rfl ?_
      refine wpo_skip rfl rfl rfl ?_
      refine wpo_mv (a := (eB false)) rfl rfl rfl (o_pick_f tk rfl rfl (Wk.refl _)) ?_
      refine wpo_nil ?_
      have e := Option.some.inj H7
      subst e
      exact ⟨(wkf_cons (.of_eq rfl) (wkf_cons (.of_eq rfl) (wkf_nil _))), hH⟩
end Go.Proofs.YtgfedohhkbmobaaDoor
namespace Go.Proofs.YtgfedohhkbmobaaDoor
open Go Go.Va
set_option linter.unusedVariables false
set_option linter.unusedSimpArgs false
set_option maxRecDepth 20000
theorem leaf_word_ok {x0 : List (BitVec 8)} {r : (BitVec 64)} (H : leaf_word x0 = some r) (σ : St)  : ACall Tryd.prog 55 [((eL 1 (@eU .u8 8)) x0)] σ (fun a τ => a = (@eU .u64 64) r ∧ τ = σ) := by
  unfold leaf_word at H
  refine ACall.pure (acall_start tk Tryd.func55 (by decide) rfl (Nat.le_of_ble_eq_true rfl) ?_)
  have hH := Holds.init σ
  refine awp_seq ?_
  refine awp_region rfl ?_
  refine wpo_mv (a := ((@eU .u64 64) 0#64)) rfl rfl rfl (o_as tk rfl (Wk.refl _)) ?_
  refine wpo_nil ?_
  refine awp_seq ?_
  refine awp_region rfl ?_
  refine wpo_mv (a := ((eL 1 (@eU .u8 8)) x0)) rfl rfl rfl (o_mv tk rfl (Wk.refl _)) ?_
  refine wpo_bd H (eL 1 (@eU .u8 8)) rfl rfl rfl (fun v2 hv => o_cutTo tk hv td22 (enc_u td5 sz5) rfl rfl) fun v2 hv2 H1 => ?_
  refine wpo_cb H1 (fun _ id => .ref id 0) rfl rfl rfl (fun v4 hv => h_calln hH (c_octets_Reader v4) rfl rfl (.cons (.of_eq rfl) .nil) (octets_Read_ok hv _)) fun v4 id5 τ hv4 H3 ⟨hH, n6⟩ => ?_
  refine wpo_cb H3 (fun x _ => (@eU .u64 64) x.1) rfl rfl rfl (fun v8 hv => h_call1 hH [(0, (id5, (c_octets_Reader v8.2)))] ⟨⟨_, rfl⟩, trivial⟩ rfl rfl (.cons (.of_eq rfl) .nil) (octets_Reader_Word_ok hv _ (hH.at_ 0 rfl))) fun v8 _ τ hv8 H7 hH => ?_
  refine wpo_mv (a := ((@eU .u64 64) v8.1)) rfl rfl rfl (o_as tk rfl (Wk.refl _)) ?_
  refine wpo_nil ?_
  refine awp_ret ?_
  obtain rfl := Option.some.inj H7
  exact ⟨_, ((@eU .u64 64) v8.1), rfl, (.of_eq rfl), .of_eq ((enc_u td80 sz80).cut _ _ _), (hH.noT.drop n6)⟩
end Go.Proofs.YtgfedohhkbmobaaDoor
namespace Go.Proofs.YtgfedohhkbmobaaDoor
open Go Go.Va
set_option linter.unusedVariables false
set_option linter.unusedSimpArgs false
set_option maxRecDepth 20000
theorem leaf_Stamps_1_ok {x0 : BitVec 64} {r : Int} (H : leaf_Stamps_1 x0 = some r) (σ : St)  : ACall Tryd.prog 60 [((@eU .u64 64) x0)] σ (fun a τ => a = eI r ∧ τ = σ) := by
  unfold leaf_Stamps_1 at H
  refine ACall.pure (acall_start tk Tryd.func60 (by decide) rfl (Nat.le_of_ble_eq_true rfl) ?_)
  have hH := Holds.init σ
  refine awp_seq ?_
  refine awp_region rfl ?_
  refine wpo_mv (a := (eI (0 : Int))) rfl rfl rfl (o_as tk rfl (Wk.refl _)) ?_
  refine wpo_nil ?_
  refine awp_seq ?_
  refine awp_seq ?_
  refine awp_region rfl ?_
  refine wpo_mv (a := ((@eU .u64 64) x0)) rfl rfl rfl (o_mv tk rfl (Wk.refl _)) ?_
  refine wpo_lt H eB rfl rfl rfl (o_gtr_u tk rfl rfl) fun v2 H1 => ?_
  refine wpo_nil ?_
  refine awp_if H1 rfl (fun H3 => ?_) (fun H3 => ?_)
  · refine awp_seq ?_
    refine awp_region rfl ?_
    refine wpo_mv (a := (eI (0 : Int))) rfl rfl rfl (o_as tk rfl (Wk.refl _)) ?_
    refine wpo_nil ?_
    refine awp_ret ?_
    obtain rfl := Option.some.inj H3
    exact ⟨_, (eI (0 : Int)), rfl, (.of_eq rfl), .of_eq ((enc_i64 td3 sz3).cut _ _ _), hH.noT⟩
  · refine awp_skip ?_
    refine awp_seq ?_
    refine awp_region rfl ?_
    refine wpo_mv (a := ((@eU .u64 64) x0)) rfl rfl rfl (o_mv tk rfl (Wk.refl _)) ?_
    refine wpo_lt H3 eI rfl rfl rfl (o_cv_64 tk td80 td3 rfl) fun v5 H4 => ?_
    refine wpo_mv (a := (eI v5)) rfl rfl rfl (o_as tk rfl (Wk.refl _)) ?_
    refine wpo_nil ?_
    refine awp_ret ?_
    obtain rfl := Option.some.inj H4
    exact ⟨_, (eI v5), rfl, (.of_eq rfl), .of_eq ((enc_i64 td3 sz3).cut _ _ _), hH.noT⟩
end Go.Proofs.YtgfedohhkbmobaaDoor
namespace Go.Proofs.YtgfedohhkbmobaaDoor
open Go Go.Va
set_option linter.unusedVariables false
set_option linter.unusedSimpArgs false
set_option maxRecDepth 20000
theorem leaf_Stamps_ok {x0 : List (BitVec 8)} {r : Int × Int} (H : leaf_Stamps x0 = some r) (σ : St)  : ACall Tryd.prog 23 [((eL 1 (@eU .u8 8)) x0)] σ (fun a τ => a = .tup [eI r.1, eI r.2] ∧ τ = σ) := by
  unfold leaf_Stamps at H
  refine ACall.pure (acall_start tk Tryd.func23 (by decide) rfl (Nat.le_of_ble_eq_true rfl) ?_)
  have hH := Holds.init σ
  refine awp_seq ?_
  refine awp_region rfl ?_
  refine wpo_mv (a := (eI (0 : Int))) rfl rfl rfl (o_as tk rfl (Wk.refl _)) ?_
  refine wpo_mv (a := (eI (0 : Int))) rfl rfl rfl (o_as tk rfl (Wk.refl _)) ?_
  refine wpo_nil ?_
  refine awp_seq ?_
  refine awp_seq ?_
  refine awp_region rfl ?_
  refine wpo_mv (a := ((eL 1 (@eU .u8 8)) x0)) rfl rfl rfl (o_mv tk rfl (Wk.refl _)) ?_
  refine wpo_lt H eI rfl rfl rfl (o_len tk td22 rfl) fun v2 H1 => ?_
  refine wpo_lt H1 eB rfl rfl rfl (o_ar tk rfl rfl rfl) fun v4 H3 => ?_
  refine wpo_nil ?_
  refine awp_if H3 rfl (fun H5 => ?_) (fun H5 => ?_)
  · refine awp_seq ?_
    refine awp_region rfl ?_
    refine wpo_mv (a := (eI (0 : Int))) rfl rfl rfl (o_as tk rfl (Wk.refl _)) ?_
    refine wpo_mv (a := (eI (0 : Int))) rfl rfl rfl (o_as tk rfl (Wk.refl _)) ?_
    refine wpo_nil ?_
    refine awp_ret ?_
    obtain rfl := Option.some.inj H5
    exact ⟨_, (.tup [(eI (0 : Int)), (eI (0 : Int))]), rfl, (wk_tup (.cons (.of_eq rfl) (.cons (.of_eq rfl) .nil))), .of_eq (by simp only [cutAV, cutL, (enc_i64 td3 sz3).cut _ _ _, (enc_i64 td3 sz3).cut _ _ _]), hH.noT⟩
  · refine awp_skip ?_
    refine awp_seq ?_
    refine awp_region rfl ?_
    refine wpo_mv (a := (.fn (.func 60) [] [])) rfl rfl rfl (o_as tk rfl (Wk.refl _)) ?_
    refine wpo_nil ?_
    refine awp_seq ?_
    refine awp_drawS mixed [] rfl (by decide +kernel) rfl rfl ?_
    refine wpdS_mv (a := (.fn (.func 60) [] [])) rfl rfl rfl (o_mv tk rfl (Wk.refl _)) ?_
    refine wpdS_mv (a := ((eL 1 (@eU .u8 8)) x0)) rfl rfl rfl (o_mv tk rfl (Wk.refl _)) ?_
    refine wpdS_bd H5 (@eU .u64 64) rfl rfl rfl (fun v7 hv => OpP.of_call rfl rfl (.cons (.of_eq rfl) .nil) (leaf_word_ok hv)) fun v7 hv7 H6 => ?_
    refine wpdS_bd H6 eI rfl rfl rfl (fun v9 hv => OpP.of_call rfl rfl (.cons (.of_eq rfl) .nil) (leaf_Stamps_1_ok hv)) fun v9 hv9 H8 => ?_
    refine wpdS_mv (a := (.fn (.func 60) [] [])) rfl rfl rfl (o_mv tk rfl (Wk.refl _)) ?_
    refine wpdS_mv (a := ((eL 1 (@eU .u8 8)) x0)) rfl rfl rfl (o_mv tk rfl (Wk.refl _)) ?_
    refine wpdS_bd H8 (eL 1 (@eU .u8 8)) rfl rfl rfl (fun v11 hv => o_cutFrom tk hv td22 (enc_u td5 sz5) rfl rfl) fun v11 hv11 H10 => ?_
    refine wpdS_bd H10 (@eU .u64 64) rfl rfl rfl (fun v13 hv => OpP.of_call rfl rfl (.cons (.of_eq rfl) .nil) (leaf_word_ok hv)) fun v13 hv13 H12 => ?_
    refine wpdS_bd H12 eI rfl rfl rfl (fun v15 hv => OpP.of_call rfl rfl (.cons (.of_eq rfl) .nil) (leaf_Stamps_1_ok hv)) fun v15 hv15 H14 => ?_
    refine wpdS_mv (a := (eI v9)) rfl rfl rfl (o_as tk rfl (Wk.refl _)) ?_
    refine wpdS_mv (a := (eI v15)) rfl rfl rfl (o_as tk rfl (Wk.refl _)) ?_
    refine wpdS_nil ?_
    refine awp_ret ?_
    obtain rfl := Option.some.inj H14
    exact ⟨_, (.tup [(eI v9), (eI v15)]), rfl, (wk_tup (.cons (.of_eq rfl) (.cons (.of_eq rfl) .nil))), .of_eq (by simp only [cutAV, cutL, (enc_i64 td3 sz3).cut _ _ _, (enc_i64 td3 sz3).cut _ _ _]), hH.noT⟩
end Go.Proofs.YtgfedohhkbmobaaDoor
namespace Go.Proofs.YtgfedohhkbmobaaDoor
open Go Go.Va
set_option linter.unusedVariables false
set_option linter.unusedSimpArgs false
set_option maxRecDepth 20000
theorem checksum_Fits_ok {x0 : List (BitVec 8)} {r : Bool} (H : checksum_Fits x0 = some r) (σ : St)  : ACall Tryd.prog 56 [((eL 1 (@eU .u8 8)) x0)] σ (fun a τ => a = eB r ∧ τ = σ) := by
  unfold checksum_Fits at H
  refine ACall.pure (acall_start tk Tryd.func56 (by decide) rfl (Nat.le_of_ble_eq_true rfl) ?_)
  have hH := Holds.init σ
  refine awp_seq ?_
  refine awp_region rfl ?_
  refine wpo_mv (a := (eB false)) rfl rfl rfl (o_as tk rfl (Wk.refl _)) ?_
  refine wpo_nil ?_
  refine awp_seq ?_
  refine awp_region rfl ?_
  refine wpo_mv (a := ((eL 1 (@eU .u8 8)) x0)) rfl rfl rfl (o_mv tk rfl (Wk.refl _)) ?_
  refine wpo_lt H eI rfl rfl rfl (o_len tk td22 rfl) fun v2 H1 => ?_
  refine wpo_lt H1 eI rfl rfl rfl (o_ar tk rfl rfl rfl) fun v4 H3 => ?_
  refine wpo_mv (a := (eI v4)) rfl rfl rfl (o_as tk rfl (Wk.refl _)) ?_
  refine wpo_nil ?_
  refine awp_seq ?_
  refine awp_seq ?_
  refine awp_region rfl ?_
  refine wpo_mv (a := (eI v4)) rfl rfl rfl (o_mv tk rfl (Wk.refl _)) ?_
  refine wpo_lt H3 eB rfl rfl rfl (o_ar tk rfl rfl rfl) fun v6 H5 => ?_
  refine wpo_nil ?_
  refine awp_if H5 rfl (fun H7 => ?_) (fun H7 => ?_)
  · refine awp_seq ?_
    refine awp_region rfl ?_
    refine wpo_mv (a := (eB false)) rfl rfl rfl (o_as tk rfl (Wk.refl _)) ?_
    refine wpo_nil ?_
    refine awp_ret ?_
    obtain rfl := Option.some.inj H7
    exact ⟨_, (eB false), rfl, (.of_eq rfl), .of_eq ((enc_b td4 sz4).cut _ _ _), hH.noT⟩
  · refine awp_skip ?_
    refine awp_seq ?_
    refine awp_drawS mixed [] rfl (by decide +kernel) rfl rfl ?_
    refine wpdS_mv (a := ((eL 1 (@eU .u8 8)) x0)) rfl rfl rfl (o_mv tk rfl (Wk.refl _)) ?_
    refine wpdS_mv (a := (eI v4)) rfl rfl rfl (o_mv tk rfl (Wk.refl _)) ?_
    refine wpdS_bd H7 (eL 1 (@eU .u8 8)) rfl rfl rfl (fun v9 hv => o_cutTo tk hv td22 (enc_u td5 sz5) rfl rfl) fun v9 hv9 H8 => ?_
    refine wpdS_bd H8 (@eU .u32 32) rfl rfl rfl (fun v11 hv => OpP.of_call rfl rfl (.cons (.of_eq rfl) .nil) (checksum_Sum_ok hv)) fun v11 hv11 H10 => ?_
    refine wpdS_bd H10 (eA (@eU .u8 8)) rfl rfl rfl (fun v13 hv => OpP.of_call rfl rfl (.cons (.of_eq rfl) .nil) (checksum_Four_ok hv)) fun v13 hv13 H12 => ?_
    refine wpdS_mv (a := ((eL 1 (@eU .u8 8)) x0)) rfl rfl rfl (o_mv tk rfl (Wk.refl _)) ?_
    refine wpdS_mv (a := (eI v4)) rfl rfl rfl (o_mv tk rfl (Wk.refl _)) ?_
    refine wpdS_bd H12 (eL 1 (@eU .u8 8)) rfl rfl rfl (fun v15 hv => o_cutFrom tk hv td22 (enc_u td5 sz5) rfl rfl) fun v15 hv15 H14 => ?_
    refine wpdS_bd H14 (fun z => .fptr (cL (@eU .u8 8) z) 0) rfl rfl rfl (fun v17 hv => o_arr tk hv td110 (enc_u td5 sz5) (by decide) rfl) fun v17 hv17 H16 => ?_
    refine wpdS_bd H16 (eA (@eU .u8 8)) rfl rfl rfl (fun v19 hv => o_ldw tk hv (enc_u td5 sz5) td110 sz110 rfl rfl) fun v19 hv19 H18 => ?_
    refine wpdS_bd H18 eB rfl rfl rfl (fun v21 hv => om_eql_a tk hv td110 td5 sz5 rfl rfl) fun v21 hv21 H20 => ?_
    refine wpdS_mv (a := (eB v21)) rfl rfl rfl (o_as tk rfl (Wk.refl _)) ?_
    refine wpdS_nil ?_
    refine awp_ret ?_
    obtain rfl := Option.some.inj H20
    exact ⟨_, (eB v21), rfl, (.of_eq rfl), .of_eq ((enc_b td4 sz4).cut _ _ _), hH.noT⟩
end Go.Proofs.YtgfedohhkbmobaaDoor
namespace Go.Proofs.YtgfedohhkbmobaaDoor
open Go Go.Va
set_option linter.unusedVariables false
set_option linter.unusedSimpArgs false
set_option maxRecDepth 20000
theorem trouble_Wrap_ok {x0 : List (BitVec 8)} {x1 : Int} {x2 : Err} {r : Err} (H : trouble_Wrap x0 x1 x2 = some r) (σ : St)  : ACall Tryd.prog 57 [(eS x0), (eI x1), (eErr x2)] σ (fun a τ => a = eErr r ∧ τ = σ) := by
  unfold trouble_Wrap at H
  refine ACall.pure (acall_start tk Tryd.func57 (by decide) rfl (Nat.le_of_ble_eq_true rfl) ?_)
  have hH := Holds.init σ
  refine awp_seq ?_
  refine awp_region rfl ?_
  refine wpo_mv (a := (eErr Err.nil)) rfl rfl rfl (o_as tk rfl (Wk.refl _)) ?_
  refine wpo_nil ?_
  refine awp_seq ?_
  refine awp_seq ?_
  refine awp_region rfl ?_
  refine wpo_mv (a := (eErr x2)) rfl rfl rfl (o_mv tk rfl (Wk.refl _)) ?_
  refine wpo_lt H eB rfl rfl rfl (o_err_eql tk rfl rfl rfl) fun v2 H1 => ?_
  refine wpo_nil ?_
  refine awp_if H1 rfl (fun H3 => ?_) (fun H3 => ?_)
  · refine awp_seq ?_
    refine awp_region rfl ?_
    refine wpo_mv (a := (eErr Err.nil)) rfl rfl rfl (o_as tk rfl (Wk.refl _)) ?_
    refine wpo_nil ?_
    refine awp_ret ?_
    obtain rfl := Option.some.inj H3
    exact ⟨_, (eErr Err.nil), rfl, (.of_eq rfl), .of_eq (encErr.cut _ _ _), hH.noT⟩
  · refine awp_skip ?_
    refine awp_seq ?_
    refine awp_region rfl ?_
    refine wpo_mv (a := (eS x0)) rfl rfl rfl (o_mv tk rfl (Wk.refl _)) ?_
    refine wpo_mv (a := (eI x1)) rfl rfl rfl (o_mv tk rfl (Wk.refl _)) ?_
    refine wpo_mv (a := (eErr x2)) rfl rfl rfl (o_mv tk rfl (Wk.refl _)) ?_
    refine wpo_lt H3 e_trouble_fault rfl rfl rfl (o_c tk false rfl (fun _ => by generalize x2 = z0; cases z0 <;> rfl)) fun v5 H4 => ?_
    refine wpo_mv (a := (.fptr (c_trouble_fault v5) 0)) rfl rfl rfl (o_boxf tk rfl (.of_eq rfl) (b := (e_trouble_fault v5)) (enc87.flat _)) ?_
    refine wpo_mv (a := (eErr (Err.fault v5.op v5.at_ v5.code v5.under))) rfl rfl rfl (o_c tk false rfl (fun _ => rfl)) ?_
    refine wpo_mv (a := (eErr (Err.fault v5.op v5.at_ v5.code v5.under))) rfl rfl rfl (o_as tk rfl (Wk.refl _)) ?_
    refine wpo_nil ?_
    refine awp_ret ?_
    obtain rfl := Option.some.inj H4
    exact ⟨_, (eErr (Err.fault v5.op v5.at_ v5.code v5.under)), rfl, (.of_eq rfl), .of_eq (encErr.cut _ _ _), hH.noT⟩
end Go.Proofs.YtgfedohhkbmobaaDoor
namespace Go.Proofs.YtgfedohhkbmobaaDoor
open Go Go.Va
set_option linter.unusedVariables false
set_option linter.unusedSimpArgs false
set_option maxRecDepth 20000
theorem leaf_Get_ok {x0 : List (BitVec 8)} {r : api_Leaf × Err} (H : leaf_Get x0 = some r) (σ : St)  : ACall Tryd.prog 21 [((eL 1 (@eU .u8 8)) x0)] σ (fun a τ => a = .tup [e_api_Leaf r.1, eErr r.2] ∧ τ = σ) := by
  unfold leaf_Get at H
  refine ACall.pure (acall_start tk Tryd.func21 (by decide) rfl (Nat.le_of_ble_eq_true rfl) ?_)
  have hH := Holds.init σ
  refine awp_seq ?_
  refine awp_region rfl ?_
  refine wpo_a (av := fun id => .ref id 0) rfl rfl rfl (h_alloc tk hH ty24 [(eI z_api_Leaf.Stamp), (eI z_api_Leaf.Kind), AV.nils] rfl) fun id1 τ ⟨hH, n2⟩ => ?_
  refine wpo_mv (a := (eErr Err.nil)) rfl rfl rfl (o_as tk rfl (Wk.refl _)) ?_
  refine wpo_nil ?_
  refine awp_seq ?_
  refine awp_seq ?_
  refine awp_region rfl ?_
  refine wpo_mv (a := ((eL 1 (@eU .u8 8)) x0)) rfl rfl rfl (o_mv tk rfl (Wk.refl _)) ?_
  refine wpo_lt H eI rfl rfl rfl (o_len tk td22 rfl) fun v4 H3 => ?_
  refine wpo_lt H3 eB rfl rfl rfl (o_ar tk rfl rfl rfl) fun v6 H5 => ?_
  refine wpo_nil ?_
  refine awp_if H5 rfl (fun H7 => ?_) (fun H7 => ?_)
  · refine awp_seq ?_
    refine awp_region rfl ?_
    refine wpo_mv (a := (.agg [(eI (⟨(0 : Int), (0 : Int), ([] : List (BitVec 8))⟩ : api_Leaf).Stamp), (eI (⟨(0 : Int), (0 : Int), ([] : List (BitVec 8))⟩ : api_Leaf).Kind), AV.nils])) rfl rfl rfl (o_c tk false rfl (fun _ => rfl)) ?_
    refine wpo_mv (a := ((eL 1 (@eU .u8 8)) x0)) rfl rfl rfl (o_mv tk rfl (Wk.refl _)) ?_
    refine wpo_lt H7 eI rfl rfl rfl (o_len tk td22 rfl) fun v9 H8 => ?_
    refine wpo_bd H8 eErr rfl rfl rfl (fun v11 hv => OpP.of_call rfl rfl (.cons (.of_eq rfl) (.cons (.of_eq rfl) (.cons (.of_eq rfl) .nil))) (trouble_New_ok hv)) fun v11 hv11 H10 => ?_
    refine wpo_z rfl rfl (h_st tk hH 0 rfl ty24 (by simp) rfl rfl (.of_eq rfl) (b := (.agg [(eI (⟨(0 : Int), (0 : Int), ([] : List (BitVec 8))⟩ : api_Leaf).Stamp), (eI (⟨(0 : Int), (0 : Int), ([] : List (BitVec 8))⟩ : api_Leaf).Kind), AV.nils])) rfl rfl (Nat.le_of_ble_eq_true rfl) [(eI ((⟨(0 : Int), (0 : Int), ([] : List (BitVec 8))⟩ : api_Leaf) : api_Leaf).Stamp), (eI ((⟨(0 : Int), (0 : Int), ([] : List (BitVec 8))⟩ : api_Leaf) : api_Leaf).Kind), AV.nils] rfl) fun τ hH => ?_
    refine wpo_mv (a := (eErr v11)) rfl rfl rfl (o_as tk rfl (Wk.refl _)) ?_
    refine wpo_nil ?_
    refine awp_ret ?_
    obtain rfl := Option.some.inj H10
    exact ⟨_, (.tup [(e_api_Leaf ((⟨(0 : Int), (0 : Int), ([] : List (BitVec 8))⟩ : api_Leaf) : api_Leaf)), (eErr v11)]), (ares_2 (ares_cell hH 0 rfl rfl rfl) rfl), (wk_tup (.cons (wk_agg (.cons (.of_eq rfl) (.cons (.of_eq rfl) (.cons (wk_nils _) .nil)))) (.cons (.of_eq rfl) .nil))), .of_eq (by simp only [cutAV, cutL, enc24.cut _ _ _, encErr.cut _ _ _]), (hH.noT.drop n2)⟩
  · refine awp_skip ?_
    refine awp_seq ?_
    refine awp_region rfl ?_
    refine wpo_mv (a := ((eL 1 (@eU .u8 8)) x0)) rfl rfl rfl (o_mv tk rfl (Wk.refl _)) ?_
    refine wpo_bd H7 (fun r => .tup [eI r.1, eI r.2]) rfl rfl rfl (fun v14 hv => OpP.of_call rfl rfl (.cons (.of_eq rfl) .nil) (leaf_Stamps_ok hv)) fun v14 hv14 H13 => ?_
    refine wpo_mv (a := (.tup [(eI v14.1), (eI v14.2)])) rfl rfl rfl (o_mv tk rfl (Wk.refl _)) ?_
    refine wpo_mv (a := (eI v14.1)) rfl rfl rfl (o_ext tk rfl rfl) ?_
    refine wpo_mv (a := (eI v14.2)) rfl rfl rfl (o_ext tk rfl rfl) ?_
    refine wpo_mv (a := (eI v14.1)) rfl rfl rfl (o_as tk rfl (Wk.refl _)) ?_
    refine wpo_mv (a := (eI v14.2)) rfl rfl rfl (o_as tk rfl (Wk.refl _)) ?_
    refine wpo_nil ?_
    refine awp_seq ?_
    refine awp_drawS mixed [] rfl (by decide +kernel) rfl rfl ?_
    refine wpdS_mv (a := ((eL 1 (@eU .u8 8)) x0)) rfl rfl rfl (o_mv tk rfl (Wk.refl _)) ?_
    refine wpdS_bd H13 (fun y => .fptr ((@eU .u8 8) y).cells 0) rfl rfl rfl (fun v16 hv => o_ixa tk hv td22 (enc_u td5 sz5) rfl rfl) fun v16 hv16 H15 => ?_
    refine wpdS_mv (a := ((@eU .u8 8) v16)) rfl rfl rfl (o_ld_e tk (enc_u td5 sz5) rfl rfl) ?_
    refine wpdS_lt H15 eI rfl rfl rfl (o_cv_ui tk td5 td3 (by decide) rfl) fun v18 H17 => ?_
    refine wpdS_lt H17 eI rfl rfl rfl (o_shl tk (y := (8 : Int)) rfl rfl rfl) fun v20 H19 => ?_
    refine wpdS_mv (a := ((eL 1 (@eU .u8 8)) x0)) rfl rfl rfl (o_mv tk rfl (Wk.refl _)) ?_
    refine wpdS_bd H19 (fun y => .fptr ((@eU .u8 8) y).cells 0) rfl rfl rfl (fun v22 hv => o_ixa tk hv td22 (enc_u td5 sz5) rfl rfl) fun v22 hv22 H21 => ?_
    refine wpdS_mv (a := ((@eU .u8 8) v22)) rfl rfl rfl (o_ld_e tk (enc_u td5 sz5) rfl rfl) ?_
    refine wpdS_lt H21 eI rfl rfl rfl (o_cv_ui tk td5 td3 (by decide) rfl) fun v24 H23 => ?_
    refine wpdS_lt H23 eI rfl rfl rfl (o_ar tk rfl rfl rfl) fun v26 H25 => ?_
    refine wpdS_mv (a := (eI v26)) rfl rfl rfl (o_as tk rfl (Wk.refl _)) ?_
    refine wpdS_nil ?_
    refine awp_seq ?_
    refine awp_block ?_
    refine awp_seq ?_
    refine awp_drawS mixed [] rfl (by decide +kernel) rfl rfl ?_
    refine wpdS_mv (a := ((eL 1 (@eU .u8 8)) x0)) rfl rfl rfl (o_mv tk rfl (Wk.refl _)) ?_
    refine wpdS_bd H25 (@eU .u64 64) rfl rfl rfl (fun v28 hv => OpP.of_call rfl rfl (.cons (.of_eq rfl) .nil) (leaf_word_ok hv)) fun v28 hv28 H27 => ?_
    refine wpdS_mv (a := ((eL 1 (@eU .u8 8)) x0)) rfl rfl rfl (o_mv tk rfl (Wk.refl _)) ?_
    refine wpdS_bd H27 (eL 1 (@eU .u8 8)) rfl rfl rfl (fun v30 hv => o_cutFrom tk hv td22 (enc_u td5 sz5) rfl rfl) fun v30 hv30 H29 => ?_
    refine wpdS_bd H29 (@eU .u64 64) rfl rfl rfl (fun v32 hv => OpP.of_call rfl rfl (.cons (.of_eq rfl) .nil) (leaf_word_ok hv)) fun v32 hv32 H31 => ?_
    refine wpdS_lt H31 eB rfl rfl rfl (o_neq_u tk rfl rfl) fun v34 H33 => ?_
    refine wpdS_mv (a := (eB v34)) rfl rfl rfl (o_as tk rfl (Wk.refl _)) ?_
    refine wpdS_nil ?_
    refine awp_if H33 rfl (fun H35 => ?_) (fun H35 => ?_)
    · refine awp_seq ?_
      refine awp_region rfl ?_
      refine wpo_mv (a := (.agg [(eI (⟨(0 : Int), (0 : Int), ([] : List (BitVec 8))⟩ : api_Leaf).Stamp), (eI (⟨(0 : Int), (0 : Int), ([] : List (BitVec 8))⟩ : api_Leaf).Kind), AV.nils])) rfl rfl rfl (o_c tk false rfl (fun _ => rfl)) ?_
      refine wpo_bd H35 eErr rfl rfl rfl (fun v37 hv => OpP.of_call rfl rfl (.cons (.of_eq rfl) (.cons (.of_eq rfl) (.cons (.of_eq rfl) .nil))) (trouble_New_ok hv)) fun v37 hv37 H36 => ?_
      refine wpo_z rfl rfl (h_st tk hH 0 rfl ty24 (by simp) rfl rfl (.of_eq rfl) (b := (.agg [(eI (⟨(0 : Int), (0 : Int), ([] : List (BitVec 8))⟩ : api_Leaf).Stamp), (eI (⟨(0 : Int), (0 : Int), ([] : List (BitVec 8))⟩ : api_Leaf).Kind), AV.nils])) rfl rfl (Nat.le_of_ble_eq_true rfl) [(eI ((⟨(0 : Int), (0 : Int), ([] : List (BitVec 8))⟩ : api_Leaf) : api_Leaf).Stamp), (eI ((⟨(0 : Int), (0 : Int), ([] : List (BitVec 8))⟩ : api_Leaf) : api_Leaf).Kind), AV.nils] rfl) fun τ hH => ?_
      refine wpo_mv (a := (eErr v37)) rfl rfl rfl (o_as tk rfl (Wk.refl _)) ?_
      refine wpo_nil ?_
      refine awp_ret ?_
      obtain rfl := Option.some.inj H36
      exact ⟨_, (.tup [(e_api_Leaf ((⟨(0 : Int), (0 : Int), ([] : List (BitVec 8))⟩ : api_Leaf) : api_Leaf)), (eErr v37)]), (ares_2 (ares_cell hH 0 rfl rfl rfl) rfl), (wk_tup (.cons (wk_agg (.cons (.of_eq rfl) (.cons (.of_eq rfl) (.cons (wk_nils _) .nil)))) (.cons (.of_eq rfl) .nil))), .of_eq (by simp only [cutAV, cutL, enc24.cut _ _ _, encErr.cut _ _ _]), (hH.noT.drop n2)⟩
    · refine awp_seq ?_
      obtain ⟨s39, hs41, hj42⟩ := Option.bind_eq_some_iff.1 H35
      refine awp_cutn (fun fr τ => WkF fr (fm [(0, ((eL 1 (@eU .u8 8)) x0)), (2, (.ref id1 0)), (4, (eI v14.1)), (6, (eI v26)), (42, (eB s39))]) ∧ Holds σ [(id1, [(eI z_api_Leaf.Stamp), (eI z_api_Leaf.Kind), AV.nils])] [] τ) ?_ ?_
      · rintro fr τ ⟨hfr, hH⟩
        have H48 := hj42
        refine AWP.fm [(0, ((eL 1 (@eU .u8 8)) x0)), (2, (.ref id1 0)), (4, (eI v14.1)), (6, (eI v26)), (42, (eB s39))] hfr ?_
        refine awp_if H48 rfl (fun H49 => ?_) (fun H49 => ?_)
        · refine awp_seq ?_
          refine awp_region rfl ?_
          refine wpo_mv (a := (.agg [(eI (⟨(0 : Int), (0 : Int), ([] : List (BitVec 8))⟩ : api_Leaf).Stamp), (eI (⟨(0 : Int), (0 : Int), ([] : List (BitVec 8))⟩ : api_Leaf).Kind), AV.nils])) rfl rfl rfl (o_c tk false rfl (fun _ => rfl)) ?_
          refine wpo_bd H49 eErr rfl rfl rfl (fun v51 hv => OpP.of_call rfl rfl (.cons (.of_eq rfl) (.cons (.of_eq rfl) (.cons (.of_eq rfl) .nil))) (trouble_New_ok hv)) fun v51 hv51 H50 => ?_
          refine wpo_z rfl rfl (h_st tk hH 0 rfl ty24 (by simp) rfl rfl (.of_eq rfl) (b := (.agg [(eI (⟨(0 : Int), (0 : Int), ([] : List (BitVec 8))⟩ : api_Leaf).Stamp), (eI (⟨(0 : Int), (0 : Int), ([] : List (BitVec 8))⟩ : api_Leaf).Kind), AV.nils])) rfl rfl (Nat.le_of_ble_eq_true rfl) [(eI ((⟨(0 : Int), (0 : Int), ([] : List (BitVec 8))⟩ : api_Leaf) : api_Leaf).Stamp), (eI ((⟨(0 : Int), (0 : Int), ([] : List (BitVec 8))⟩ : api_Leaf) : api_Leaf).Kind), AV.nils] rfl) fun τ hH => ?_
          refine wpo_mv (a := (eErr v51)) rfl rfl rfl (o_as tk rfl (Wk.refl _)) ?_
          refine wpo_nil ?_
          refine awp_ret ?_
          obtain rfl := Option.some.inj H50
          exact ⟨_, (.tup [(e_api_Leaf ((⟨(0 : Int), (0 : Int), ([] : List (BitVec 8))⟩ : api_Leaf) : api_Leaf)), (eErr v51)]), (ares_2 (ares_cell hH 0 rfl rfl rfl) rfl), (wk_tup (.cons (wk_agg (.cons (.of_eq rfl) (.cons (.of_eq rfl) (.cons (wk_nils _) .nil)))) (.cons (.of_eq rfl) .nil))), .of_eq (by simp only [cutAV, cutL, enc24.cut _ _ _, encErr.cut _ _ _]), (hH.noT.drop n2)⟩
        · refine awp_seq ?_
          refine awp_region rfl ?_
          refine wpo_mv (a := ((eL 1 (@eU .u8 8)) x0)) rfl rfl rfl (o_mv tk rfl (Wk.refl _)) ?_
          refine wpo_bd H49 (eL 1 (@eU .u8 8)) rfl rfl rfl (fun v54 hv => o_cutTo tk hv td22 (enc_u td5 sz5) rfl rfl) fun v54 hv54 H53 => ?_
          refine wpo_bd H53 eB rfl rfl rfl (fun v56 hv => OpP.of_call rfl rfl (.cons (.of_eq rfl) .nil) (checksum_Fits_ok hv)) fun v56 hv56 H55 => ?_
          refine wpo_lt H55 eB rfl rfl rfl (o_un tk rfl rfl) fun v58 H57 => ?_
          refine wpo_mv (a := (eB v58)) rfl rfl rfl (o_as tk rfl (Wk.refl _)) ?_
          refine wpo_nil ?_
          refine awp_if H57 rfl (fun H59 => ?_) (fun H59 => ?_)
          · refine awp_seq ?_
            refine awp_region rfl ?_
            refine wpo_mv (a := (.agg [(eI (⟨(0 : Int), (0 : Int), ([] : List (BitVec 8))⟩ : api_Leaf).Stamp), (eI (⟨(0 : Int), (0 : Int), ([] : List (BitVec 8))⟩ : api_Leaf).Kind), AV.nils])) rfl rfl rfl (o_c tk false rfl (fun _ => rfl)) ?_
            refine wpo_mv (a := (eI v14.1)) rfl rfl rfl (o_mv tk rfl (Wk.refl _)) ?_
            refine wpo_bd H59 eErr rfl rfl rfl (fun v61 hv => OpP.of_call rfl rfl (.cons (.of_eq rfl) (.cons (.of_eq rfl) (.cons (.of_eq rfl) .nil))) (trouble_New_ok hv)) fun v61 hv61 H60 => ?_
            refine wpo_z rfl rfl (h_st tk hH 0 rfl ty24 (by simp) rfl rfl (.of_eq rfl) (b := (.agg [(eI (⟨(0 : Int), (0 : Int), ([] : List (BitVec 8))⟩ : api_Leaf).Stamp), (eI (⟨(0 : Int), (0 : Int), ([] : List (BitVec 8))⟩ : api_Leaf).Kind), AV.nils])) rfl rfl (Nat.le_of_ble_eq_true rfl) [(eI ((⟨(0 : Int), (0 : Int), ([] : List (BitVec 8))⟩ : api_Leaf) : api_Leaf).Stamp), (eI ((⟨(0 : Int), (0 : Int), ([] : List (BitVec 8))⟩ : api_Leaf) : api_Leaf).Kind), AV.nils] rfl) fun τ hH => ?_
            refine wpo_mv (a := (eErr v61)) rfl rfl rfl (o_as tk rfl (Wk.refl _)) ?_
            refine wpo_nil ?_
            refine awp_ret ?_
            obtain rfl := Option.some.inj H60
            exact ⟨_, (.tup [(e_api_Leaf ((⟨(0 : Int), (0 : Int), ([] : List (BitVec 8))⟩ : api_Leaf) : api_Leaf)), (eErr v61)]), (ares_2 (ares_cell hH 0 rfl rfl rfl) rfl), (wk_tup (.cons (wk_agg (.cons (.of_eq rfl) (.cons (.of_eq rfl) (.cons (wk_nils _) .nil)))) (.cons (.of_eq rfl) .nil))), .of_eq (by simp only [cutAV, cutL, enc24.cut _ _ _, encErr.cut _ _ _]), (hH.noT.drop n2)⟩
          · refine awp_seq ?_
            refine awp_region rfl ?_
            refine wpo_mv (a := (eI v26)) rfl rfl rfl (o_mv tk rfl (Wk.refl _)) ?_
            refine wpo_lt H59 eB rfl rfl rfl (o_ar tk rfl rfl rfl) fun v64 H63 => ?_
            refine wpo_mv (a := (eB v64)) rfl rfl rfl (o_as tk rfl (Wk.refl _)) ?_
            refine wpo_nil ?_
            refine awp_if H63 rfl (fun H65 => ?_) (fun H65 => ?_)
            · refine awp_seq ?_
              refine awp_region rfl ?_
              refine wpo_mv (a := (.agg [(eI (⟨(0 : Int), (0 : Int), ([] : List (BitVec 8))⟩ : api_Leaf).Stamp), (eI (⟨(0 : Int), (0 : Int), ([] : List (BitVec 8))⟩ : api_Leaf).Kind), AV.nils])) rfl rfl rfl (o_c tk false rfl (fun _ => rfl)) ?_
              refine wpo_mv (a := (eI v14.1)) rfl rfl rfl (o_mv tk rfl (Wk.refl _)) ?_
              refine wpo_bd H65 eErr rfl rfl rfl (fun v67 hv => OpP.of_call rfl rfl (.cons (.of_eq rfl) (.cons (.of_eq rfl) (.cons (.of_eq rfl) .nil))) (trouble_New_ok hv)) fun v67 hv67 H66 => ?_
              refine wpo_z rfl rfl (h_st tk hH 0 rfl ty24 (by simp) rfl rfl (.of_eq rfl) (b := (.agg [(eI (⟨(0 : Int), (0 : Int), ([] : List (BitVec 8))⟩ : api_Leaf).Stamp), (eI (⟨(0 : Int), (0 : Int), ([] : List (BitVec 8))⟩ : api_Leaf).Kind), AV.nils])) rfl rfl (Nat.le_of_ble_eq_true rfl) [(eI ((⟨(0 : Int), (0 : Int), ([] : List (BitVec 8))⟩ : api_Leaf) : api_Leaf).Stamp), (eI ((⟨(0 : Int), (0 : Int), ([] : List (BitVec 8))⟩ : api_Leaf) : api_Leaf).Kind), AV.nils] rfl) fun τ hH => ?_
              refine wpo_mv (a := (eErr v67)) rfl rfl rfl (o_as tk rfl (Wk.refl _)) ?_
              refine wpo_nil ?_
              refine awp_ret ?_
              obtain rfl := Option.some.inj H66
              exact ⟨_, (.tup [(e_api_Leaf ((⟨(0 : Int), (0 : Int), ([] : List (BitVec 8))⟩ : api_Leaf) : api_Leaf)), (eErr v67)]), (ares_2 (ares_cell hH 0 rfl rfl rfl) rfl), (wk_tup (.cons (wk_agg (.cons (.of_eq rfl) (.cons (.of_eq rfl) (.cons (wk_nils _) .nil)))) (.cons (.of_eq rfl) .nil))), .of_eq (by simp only [cutAV, cutL, enc24.cut _ _ _, encErr.cut _ _ _]), (hH.noT.drop n2)⟩
            · refine awp_skip ?_
              refine awp_seq ?_
              refine awp_drawS mixed [12, 13] rfl (by decide +kernel) rfl rfl ?_
              refine wpdS_mv (a := (eI v14.1)) rfl rfl rfl (o_mv tk rfl (Wk.refl _)) ?_
              refine wpdS_mv (a := ((eL 1 (@eU .u8 8)) x0)) rfl rfl rfl (o_mv tk rfl (Wk.refl _)) ?_
              refine wpdS_bd H65 (fun y => .fptr ((@eU .u8 8) y).cells 0) rfl rfl rfl (fun v70 hv => o_ixa tk hv td22 (enc_u td5 sz5) rfl rfl) fun v70 hv70 H69 => ?_
              refine wpdS_mv (a := ((@eU .u8 8) v70)) rfl rfl rfl (o_ld_e tk (enc_u td5 sz5) rfl rfl) ?_
              refine wpdS_lt H69 eI rfl rfl rfl (o_cv_ui tk td5 td3 (by decide) rfl) fun v72 H71 => ?_
              refine wpdS_mv (a := (eF 1 (@eU .u8 8) ([] : List (BitVec 8)))) rfl rfl rfl (o_c tk false rfl (fun _ => rfl)) ?_
              refine wpdS_mv (a := ((eL 1 (@eU .u8 8)) x0)) rfl rfl rfl (o_mv tk rfl (Wk.refl _)) ?_
              refine wpdS_mv (a := (eI v26)) rfl rfl rfl (o_mv tk rfl (Wk.refl _)) ?_
              refine wpdS_lt H71 eI rfl rfl rfl (o_ar tk rfl rfl rfl) fun v74 H73 => ?_
              refine wpdS_bd H73 (eL 1 (@eU .u8 8)) rfl rfl rfl (fun v76 hv => o_cut tk hv td22 (enc_u td5 sz5) rfl rfl rfl) fun v76 hv76 H75 => ?_
              refine wpdS_bd H75 (eL 1 (@eU .u8 8)) rfl rfl rfl (fun v78 hv => o_app1 tk hv td22 td22 ty5 rfl (by decide) (.inr rfl) rfl) fun v78 hv78 H77 => ?_
              refine wpdS_lt H77 e_api_Leaf rfl rfl rfl (o_c tk false rfl (fun _ => rfl)) fun v80 H79 => ?_
              refine wpdS_a (av := fun id => .ref id 0) rfl rfl rfl (h_alloc tk hH ty24 [(eI z_api_Leaf.Stamp), (eI z_api_Leaf.Kind), AV.nils] rfl) fun id81 τ ⟨hH, n82⟩ => ?_
              refine wpdS_z rfl rfl rfl (h_st tk hH 0 rfl ty24 (by simp) rfl rfl (.of_eq rfl) (b := (e_api_Leaf v80)) (enc24.flat _) rfl (Nat.le_of_ble_eq_true rfl) (c_api_Leaf (v80 : api_Leaf)) rfl) fun τ hH => ?_
              refine wpdS_nil ?_
              refine awp_seq ?_
              refine awp_seq ?_
              refine awp_region rfl ?_
              refine wpo_rd (a := (e_api_Leaf (v80 : api_Leaf))) rfl rfl rfl (h_ld tk hH 0 rfl rfl rfl) ?_
              refine wpo_bd H79 eErr rfl rfl rfl (fun v85 hv => OpP.of_call rfl rfl (.cons (.of_eq rfl) .nil) (leaf_Check_ok hv)) fun v85 hv85 H84 => ?_
              refine wpo_mv (a := (eErr v85)) rfl rfl rfl (o_as tk rfl (Wk.refl _)) ?_
              refine wpo_nil ?_
              refine awp_seq ?_
              refine awp_region rfl ?_
              refine wpo_mv (a := (eErr v85)) rfl rfl rfl (o_mv tk rfl (Wk.refl _)) ?_
              refine wpo_lt H84 eB rfl rfl rfl (o_err_neq tk rfl rfl rfl) fun v87 H86 => ?_
              refine wpo_nil ?_
              refine awp_if H86 rfl (fun H88 => ?_) (fun H88 => ?_)
              · refine awp_seq ?_
                refine awp_region rfl ?_
                refine wpo_mv (a := (.agg [(eI (⟨(0 : Int), (0 : Int), ([] : List (BitVec 8))⟩ : api_Leaf).Stamp), (eI (⟨(0 : Int), (0 : Int), ([] : List (BitVec 8))⟩ : api_Leaf).Kind), AV.nils])) rfl rfl rfl (o_c tk false rfl (fun _ => rfl)) ?_
                refine wpo_mv (a := (eI v14.1)) rfl rfl rfl (o_mv tk rfl (Wk.refl _)) ?_
                refine wpo_mv (a := (eErr v85)) rfl rfl rfl (o_mv tk rfl (Wk.refl _)) ?_
                refine wpo_bd H88 eErr rfl rfl rfl (fun v90 hv => OpP.of_call rfl rfl (.cons (.of_eq rfl) (.cons (.of_eq rfl) (.cons (.of_eq rfl) .nil))) (trouble_Wrap_ok hv)) fun v90 hv90 H89 => ?_
                refine wpo_z rfl rfl (h_st tk hH 1 rfl ty24 (by simp) rfl rfl (.of_eq rfl) (b := (.agg [(eI (⟨(0 : Int), (0 : Int), ([] : List (BitVec 8))⟩ : api_Leaf).Stamp), (eI (⟨(0 : Int), (0 : Int), ([] : List (BitVec 8))⟩ : api_Leaf).Kind), AV.nils])) rfl rfl (Nat.le_of_ble_eq_true rfl) [(eI ((⟨(0 : Int), (0 : Int), ([] : List (BitVec 8))⟩ : api_Leaf) : api_Leaf).Stamp), (eI ((⟨(0 : Int), (0 : Int), ([] : List (BitVec 8))⟩ : api_Leaf) : api_Leaf).Kind), AV.nils] rfl) fun τ hH => ?_
                refine wpo_mv (a := (eErr v90)) rfl rfl rfl (o_as tk rfl (Wk.refl _)) ?_
                refine wpo_nil ?_
                refine awp_ret ?_
                obtain rfl := Option.some.inj H89
                exact ⟨_, (.tup [(e_api_Leaf ((⟨(0 : Int), (0 : Int), ([] : List (BitVec 8))⟩ : api_Leaf) : api_Leaf)), (eErr v90)]), (ares_2 (ares_cell hH 1 rfl rfl rfl) rfl), (wk_tup (.cons (wk_agg (.cons (.of_eq rfl) (.cons (.of_eq rfl) (.cons (wk_nils _) .nil)))) (.cons (.of_eq rfl) .nil))), .of_eq (by simp only [cutAV, cutL, enc24.cut _ _ _, encErr.cut _ _ _]), ((hH.noT.drop n82).drop n2)⟩
              · refine awp_skip ?_
                refine awp_seq ?_
                refine awp_seq ?_
                refine awp_region rfl ?_
                refine wpo_mv (a := ((eL 1 (@eU .u8 8)) x0)) rfl rfl rfl (o_mv tk rfl (Wk.refl _)) ?_
                refine wpo_mv (a := (eI v26)) rfl rfl rfl (o_mv tk rfl (Wk.refl _)) ?_
                refine wpo_lt H88 eI rfl rfl rfl (o_ar tk rfl rfl rfl) fun v93 H92 => ?_
                refine wpo_bd H92 (eL 1 (@eU .u8 8)) rfl rfl rfl (fun v95 hv => o_cut tk hv td22 (enc_u td5 sz5) rfl rfl rfl) fun v95 hv95 H94 => ?_
                refine wpo_lt H94 eI rfl rfl rfl (o_len tk td22 rfl) fun v97 H96 => ?_
                refine wpo_mv (a := (eI (0 : Int))) rfl rfl rfl (o_mv tk rfl (Wk.refl _)) ?_
                refine wpo_nil ?_
                refine awp_block ?_
                obtain ⟨o99, hs100, hj101⟩ := Option.bind_eq_some_iff.1 H96
                refine awp_cutx 1 (fun fr τ => ∃ s106 : Unit, o99 = .inl s106 ∧ WkF fr (fm [(2, (.ref id1 0)), (7, (.ref id81 0))]) ∧ Holds σ [(id81, (c_api_Leaf (v80 : api_Leaf))), (id1, [(eI z_api_Leaf.Stamp), (eI z_api_Leaf.Kind), AV.nils])] [] τ) ?_ ?_
                · rintro fr τ ⟨s106, rfl, hfr, hH⟩
                  have H122 := hj101
                  simp only [Sum.elim_inl] at H122
                  refine AWP.fm [(2, (.ref id1 0)), (7, (.ref id81 0))] hfr ?_
                  refine awp_seq ?_
                  refine awp_region rfl ?_
                  refine wpo_rd (a := (e_api_Leaf (v80 : api_Leaf))) rfl rfl rfl (h_ld tk hH 0 rfl rfl rfl) ?_
                  refine wpo_z rfl rfl (h_st tk hH 1 rfl ty24 (by simp) rfl rfl (.of_eq rfl) (b := (e_api_Leaf (v80 : api_Leaf))) (enc24.flat _) rfl (Nat.le_of_ble_eq_true rfl) (c_api_Leaf ((v80 : api_Leaf) : api_Leaf)) rfl) fun τ hH => ?_
                  refine wpo_mv (a := (eErr Err.nil)) rfl rfl rfl (o_as tk rfl (Wk.refl _)) ?_
                  refine wpo_nil ?_
                  refine awp_ret ?_
                  obtain rfl := Option.some.inj H122
                  exact ⟨_, (.tup [(e_api_Leaf ((v80 : api_Leaf) : api_Leaf)), (eErr Err.nil)]), (ares_2 (ares_cell hH 1 rfl rfl rfl) rfl), (wk_tup (.cons (.of_eq rfl) (.cons (.of_eq rfl) .nil))), .of_eq (by simp only [cutAV, cutL, enc24.cut _ _ _, encErr.cut _ _ _]), ((hH.noT.drop n82).drop n2)⟩
                · refine awp_loopO (body := fun s => leaf_Get_b0 v14 v80 v95 v97 s) hs100 (fun (s : Int) fr τ => WkF fr (fm [(2, (.ref id1 0)), (4, (eI v14.1)), (7, (.ref id81 0)), (88, ((eL 1 (@eU .u8 8)) v95)), (89, (eI v97)), (90, (eI s))]) ∧ Holds σ [(id81, (c_api_Leaf (v80 : api_Leaf))), (id1, [(eI z_api_Leaf.Stamp), (eI z_api_Leaf.Kind), AV.nils])] [] τ) ⟨(wkf_cons (.of_eq rfl) (wkf_cons (.of_eq rfl) (wkf_cons (.of_eq rfl) (wkf_cons (.of_eq rfl) (wkf_cons (.of_eq rfl) (wkf_cons (.of_eq rfl) (wkf_nil _))))))), hH⟩ ?_
                  rintro c98 fr τ y102 ⟨hfr, hH⟩ hb104 hy105
                  have H107 : leaf_Get_b0 v14 v80 v95 v97 c98 = some y102 := hb104
                  unfold leaf_Get_b0 at H107
                  refine AWP.fm [(2, (.ref id1 0)), (4, (eI v14.1)), (7, (.ref id81 0)), (88, ((eL 1 (@eU .u8 8)) v95)), (89, (eI v97)), (90, (eI c98))] hfr ?_
                  have hH : Holds σ [(id81, (c_api_Leaf (v80 : api_Leaf))), (id1, [(eI z_api_Leaf.Stamp), (eI z_api_Leaf.Kind), AV.nils])] [] τ := hH
                  refine awp_seq ?_
                  refine awp_region rfl ?_
                  refine wpo_lt H107 eB rfl rfl rfl (o_ar tk rfl rfl rfl) fun v109 H108 => ?_
                  refine wpo_nil ?_
                  refine awp_seq ?_
                  refine awp_if H108 rfl (fun H110 => ?_) (fun H110 => ?_)
                  · refine awp_skip ?_
                    refine awp_seq ?_
                    refine awp_block ?_
                    refine awp_seq ?_
                    refine awp_region rfl ?_
                    refine wpo_bd H110 (fun y => .fptr ((@eU .u8 8) y).cells 0) rfl rfl rfl (fun v112 hv => o_ixa tk hv td22 (enc_u td5 sz5) rfl rfl) fun v112 hv112 H111 => ?_
                    refine wpo_mv (a := ((@eU .u8 8) v112)) rfl rfl rfl (o_ld_e tk (enc_u td5 sz5) rfl rfl) ?_
                    refine wpo_mv (a := ((@eU .u8 8) v112)) rfl rfl rfl (o_as tk rfl (Wk.refl _)) ?_
                    refine wpo_nil ?_
                    refine awp_seq ?_
                    refine awp_region rfl ?_
                    refine wpo_mv (a := ((@eU .u8 8) v112)) rfl rfl rfl (o_mv tk rfl (Wk.refl _)) ?_
                    refine wpo_lt H111 eB rfl rfl rfl (o_neq_u tk rfl rfl) fun v114 H113 => ?_
                    refine wpo_nil ?_
                    refine awp_if H113 rfl (fun H115 => ?_) (fun H115 => ?_)
                    · refine awp_seq ?_
                      refine awp_region rfl ?_
                      refine wpo_mv (a := (.agg [(eI (⟨(0 : Int), (0 : Int), ([] : List (BitVec 8))⟩ : api_Leaf).Stamp), (eI (⟨(0 : Int), (0 : Int), ([] : List (BitVec 8))⟩ : api_Leaf).Kind), AV.nils])) rfl rfl rfl (o_c tk false rfl (fun _ => rfl)) ?_
                      refine wpo_mv (a := (eI v14.1)) rfl rfl rfl (o_mv tk rfl (Wk.refl _)) ?_
                      refine wpo_bd H115 eErr rfl rfl rfl (fun v117 hv => OpP.of_call rfl rfl (.cons (.of_eq rfl) (.cons (.of_eq rfl) (.cons (.of_eq rfl) .nil))) (trouble_New_ok hv)) fun v117 hv117 H116 => ?_
                      refine wpo_z rfl rfl (h_st tk hH 1 rfl ty24 (by simp) rfl rfl (.of_eq rfl) (b := (.agg [(eI (⟨(0 : Int), (0 : Int), ([] : List (BitVec 8))⟩ : api_Leaf).Stamp), (eI (⟨(0 : Int), (0 : Int), ([] : List (BitVec 8))⟩ : api_Leaf).Kind), AV.nils])) rfl rfl (Nat.le_of_ble_eq_true rfl) [(eI ((⟨(0 : Int), (0 : Int), ([] : List (BitVec 8))⟩ : api_Leaf) : api_Leaf).Stamp), (eI ((⟨(0 : Int), (0 : Int), ([] : List (BitVec 8))⟩ : api_Leaf) : api_Leaf).Kind), AV.nils] rfl) fun τ hH => ?_
                      refine wpo_mv (a := (eErr v117)) rfl rfl rfl (o_as tk rfl (Wk.refl _)) ?_
                      refine wpo_nil ?_
                      refine awp_ret ?_
                      have hz := hy105 _ (inj_inr H116)
                      refine ⟨⟨_, inj_inr H116⟩, ?_⟩
                      rw [← hz] at hj101
                      have H119 := (show some _ = some _ from hj101)
                      obtain rfl := Option.some.inj H119
                      exact ⟨_, (.tup [(e_api_Leaf ((⟨(0 : Int), (0 : Int), ([] : List (BitVec 8))⟩ : api_Leaf) : api_Leaf)), (eErr v117)]), (ares_2 (ares_cell hH 1 rfl rfl rfl) rfl), (wk_tup (.cons (wk_agg (.cons (.of_eq rfl) (.cons (.of_eq rfl) (.cons (wk_nils _) .nil)))) (.cons (.of_eq rfl) .nil))), .of_eq (by simp only [cutAV, cutL, enc24.cut _ _ _, encErr.cut _ _ _]), ((hH.noT.drop n82).drop n2)⟩
                    · refine awp_skip ?_
                      refine awp_region rfl ?_
                      refine wpo_lt H115 eI rfl rfl rfl (o_ar tk rfl rfl rfl) fun v121 H120 => ?_
                      refine wpo_mv (a := (eI v121)) rfl rfl rfl (o_mv tk rfl (Wk.refl _)) ?_
                      refine wpo_nil ?_
                      exact ⟨v121, inj_inl H120, (wkf_cons (.of_eq rfl) (wkf_cons (.of_eq rfl) (wkf_cons (.of_eq rfl) (wkf_cons (.of_eq rfl) (wkf_cons (.of_eq rfl) (wkf_cons (.of_eq rfl) (wkf_nil _))))))), hH⟩
                  · refine awp_exit ?_
                    have hz := hy105 _ (inj_inr H110)
                    exact ⟨⟨_, inj_inr H110⟩, (), hz.symm, (wkf_cons (.of_eq rfl) (wkf_cons (.of_eq rfl) (wkf_nil _))), hH⟩
      · refine awp_region rfl ?_
        refine wpo_mv (a := (eI v14.1)) rfl rfl rfl (o_mv tk rfl (Wk.refl _)) ?_
        refine wpo_lt hs41 eB rfl rfl rfl (o_ar tk rfl rfl rfl) fun v44 H43 => ?_
        refine wpo_mv (a := (eB v44)) rfl rfl rfl (o_mv tk rfl (Wk.refl _)) ?_
        refine if_split H43 (fun hb H45 => ?_) (fun hb H45 => ?_)
        · subst hb
          refine wpo_skip rfl rfl rfl ?_
          refine wpo_skip rfl rfl rfl ?_
          refine wpo_mv (a := (eB true)) rfl rfl rfl (o_pick_t tk rfl rfl (Wk.refl _)) ?_
          refine wpo_mv (a := (eB true)) rfl rfl rfl (o_as tk rfl (Wk.refl _)) ?_
          refine wpo_nil ?_
          have e := Option.some.inj H45
          subst e
          exact ⟨(wkf_cons (.of_eq rfl) (wkf_cons (.of_eq rfl) (wkf_cons (.of_eq rfl) (wkf_cons (.of_eq rfl) (wkf_cons (.of_eq rfl) (wkf_nil _)))))), hH⟩
        · subst hb
          refine wpo_mv (a := (eI v14.2)) rfl rfl rfl (o_mv tk rfl (Wk.refl _)) ?_
          refine wpo_lt H45 eB rfl rfl rfl (o_ar tk rfl rfl rfl) fun v47 H46 => ?_
          refine wpo_mv (a := (eB v47)) rfl rfl rfl (o_pick_f tk rfl rfl (Wk.refl _)) ?_
          refine wpo_mv (a := (eB v47)) rfl rfl rfl (o_as tk rfl (Wk.refl _)) ?_
          refine wpo_nil ?_
          have e := Option.some.inj H46
          subst e
          exact ⟨(wkf_cons (.of_eq rfl) (wkf_cons (.of_eq rfl) (wkf_cons (.of_eq rfl) (wkf_cons (.of_eq rfl) (wkf_cons (.of_eq rfl) (wkf_nil _)))))), hH⟩
end Go.Proofs.YtgfedohhkbmobaaDoor
namespace Go.Proofs.YtgfedohhkbmobaaDoor
open Go Go.Va
set_option linter.unusedVariables false
set_option linter.unusedSimpArgs false
set_option maxRecDepth 20000
theorem leaf_GetP_ok {x0 : List (BitVec 8)} {r : api_Leaf × Err} (H : leaf_GetP x0 = some r) (σ : St) {p0 : Nat} (h0 : σ.objs[p0]? = some (cL (@eU .u8 8) x0)) : ACall Tryd.prog 21 [(.vec p0 1 (x0).length)] σ (fun a τ => a = .tup [e_api_Leaf r.1, eErr r.2] ∧ τ = σ) := by
  by_cases hz : 0 < x0.length
  case neg =>
    obtain rfl : x0 = [] := List.eq_nil_of_length_eq_zero (by omega)
    exact ACall.wk (leaf_Get_ok (by unfold leaf_GetP at H; unfold leaf_Get; exact H) σ) (.cons (wk_vecno _ _) .nil)
  refine ACall.room hz fun c0 hc0 => ?_
  unfold leaf_GetP at H
  refine ACall.pure (acall_start tk Tryd.func21 (by decide) rfl (Nat.le_of_ble_eq_true rfl) ?_)
  have hH := Holds.init σ
  have hH := hH.bring h0 (fun _ h => by cases h)
  have hp0 : PartV (@eU .u8 8) 1 (cL (@eU .u8 8) x0) 0 c0 x0 := .all (enc_u td5 sz5) hc0
  refine awp_seq ?_
  refine awp_region rfl ?_
  refine wpo_a (av := fun id => .ref id 0) rfl rfl rfl (h_alloc tk hH ty24 [(eI z_api_Leaf.Stamp), (eI z_api_Leaf.Kind), AV.nils] rfl) fun id1 τ ⟨hH, n2⟩ => ?_
  refine wpo_mv (a := (eErr Err.nil)) rfl rfl rfl (o_as tk rfl (Wk.refl _)) ?_
  refine wpo_nil ?_
  refine awp_seq ?_
  refine awp_seq ?_
  refine awp_region rfl ?_
  refine wpo_mv (a := (.vc p0 1 0 (x0).length c0)) rfl rfl rfl (o_mv tk rfl (Wk.refl _)) ?_
  refine wpo_lt H eI rfl rfl rfl (o_vclen tk td22 rfl) fun v4 H3 => ?_
  refine wpo_lt H3 eB rfl rfl rfl (o_ar tk rfl rfl rfl) fun v6 H5 => ?_
  refine wpo_nil ?_
  refine awp_if H5 rfl (fun H7 => ?_) (fun H7 => ?_)
  · refine awp_seq ?_
    refine awp_region rfl ?_
    refine wpo_mv (a := (.agg [(eI (⟨(0 : Int), (0 : Int), ([] : List (BitVec 8))⟩ : api_Leaf).Stamp), (eI (⟨(0 : Int), (0 : Int), ([] : List (BitVec 8))⟩ : api_Leaf).Kind), AV.nils])) rfl rfl rfl (o_c tk false rfl (fun _ => rfl)) ?_
    refine wpo_mv (a := (.vc p0 1 0 (x0).length c0)) rfl rfl rfl (o_mv tk rfl (Wk.refl _)) ?_
    refine wpo_lt H7 eI rfl rfl rfl (o_vclen tk td22 rfl) fun v9 H8 => ?_
    refine wpo_bd H8 eErr rfl rfl rfl (fun v11 hv => OpP.of_call rfl rfl (.cons (.of_eq rfl) (.cons (.of_eq rfl) (.cons (.of_eq rfl) .nil))) (trouble_New_ok hv)) fun v11 hv11 H10 => ?_
    refine wpo_z rfl rfl (h_st tk hH 0 rfl ty24 (by simp) rfl rfl (.of_eq rfl) (b := (.agg [(eI (⟨(0 : Int), (0 : Int), ([] : List (BitVec 8))⟩ : api_Leaf).Stamp), (eI (⟨(0 : Int), (0 : Int), ([] : List (BitVec 8))⟩ : api_Leaf).Kind), AV.nils])) rfl rfl (Nat.le_of_ble_eq_true rfl) [(eI ((⟨(0 : Int), (0 : Int), ([] : List (BitVec 8))⟩ : api_Leaf) : api_Leaf).Stamp), (eI ((⟨(0 : Int), (0 : Int), ([] : List (BitVec 8))⟩ : api_Leaf) : api_Leaf).Kind), AV.nils] rfl) fun τ hH => ?_
    refine wpo_mv (a := (eErr v11)) rfl rfl rfl (o_as tk rfl (Wk.refl _)) ?_
    refine wpo_nil ?_
    refine awp_ret ?_
    obtain rfl := Option.some.inj H10
    exact ⟨_, (.tup [(e_api_Leaf ((⟨(0 : Int), (0 : Int), ([] : List (BitVec 8))⟩ : api_Leaf) : api_Leaf)), (eErr v11)]), (ares_2 (ares_cell hH 0 rfl rfl rfl) rfl), (wk_tup (.cons (wk_agg (.cons (.of_eq rfl) (.cons (.of_eq rfl) (.cons (wk_nils _) .nil)))) (.cons (.of_eq rfl) .nil))), .of_eq (by simp only [cutAV, cutL, enc24.cut _ _ _, encErr.cut _ _ _]), ((hH.noT.drop n2).unbring h0)⟩
  · refine awp_skip ?_
    refine awp_seq ?_
    refine awp_region rfl ?_
    refine wpo_mv (a := (.vc p0 1 0 (x0).length c0)) rfl rfl rfl (o_mv tk rfl (Wk.refl _)) ?_
    refine wpo_bdr H7 (fun r => .tup [eI r.1, eI r.2]) rfl rfl rfl (fun v14 hv => OpS.borrow rfl rfl (.cons (.vcl hH 1 rfl hp0 (enc_u td5 sz5) (fun _ => rfl)) .nil) rfl (leaf_Stamps_ok hv _)) fun v14 hv14 H13 => ?_
    refine wpo_mv (a := (.tup [(eI v14.1), (eI v14.2)])) rfl rfl rfl (o_mv tk rfl (Wk.refl _)) ?_
    refine wpo_mv (a := (eI v14.1)) rfl rfl rfl (o_ext tk rfl rfl) ?_
    refine wpo_mv (a := (eI v14.2)) rfl rfl rfl (o_ext tk rfl rfl) ?_
    refine wpo_mv (a := (eI v14.1)) rfl rfl rfl (o_as tk rfl (Wk.refl _)) ?_
    refine wpo_mv (a := (eI v14.2)) rfl rfl rfl (o_as tk rfl (Wk.refl _)) ?_
    refine wpo_nil ?_
    refine awp_seq ?_
    refine awp_drawS mixed [] rfl (by decide +kernel) rfl rfl ?_
    refine wpdS_mv (a := (.vc p0 1 0 (x0).length c0)) rfl rfl rfl (o_mv tk rfl (Wk.refl _)) ?_
    refine wpdS_bd H13 (fun _ => .ref p0 (0 + ((9 : Int) : Int).toNat * 1)) rfl rfl rfl (fun v16 hv => o_pix tk hv td22 (enc_u td5 sz5) rfl rfl) fun v16 hv16 H15 => ?_
    refine wpdS_rd (a := ((@eU .u8 8) v16)) rfl (by decide +kernel) rfl rfl (h_pld tk hH 1 rfl hp0 hv16 (enc_u td5 sz5) rfl rfl) ?_
    refine wpdS_lt H15 eI rfl rfl rfl (o_cv_ui tk td5 td3 (by decide) rfl) fun v18 H17 => ?_
    refine wpdS_lt H17 eI rfl rfl rfl (o_shl tk (y := (8 : Int)) rfl rfl rfl) fun v20 H19 => ?_
    refine wpdS_mv (a := (.vc p0 1 0 (x0).length c0)) rfl rfl rfl (o_mv tk rfl (Wk.refl _)) ?_
    refine wpdS_bd H19 (fun _ => .ref p0 (0 + ((10 : Int) : Int).toNat * 1)) rfl rfl rfl (fun v22 hv => o_pix tk hv td22 (enc_u td5 sz5) rfl rfl) fun v22 hv22 H21 => ?_
    refine wpdS_rd (a := ((@eU .u8 8) v22)) rfl (by decide +kernel) rfl rfl (h_pld tk hH 1 rfl hp0 hv22 (enc_u td5 sz5) rfl rfl) ?_
    refine wpdS_lt H21 eI rfl rfl rfl (o_cv_ui tk td5 td3 (by decide) rfl) fun v24 H23 => ?_
    refine wpdS_lt H23 eI rfl rfl rfl (o_ar tk rfl rfl rfl) fun v26 H25 => ?_
    refine wpdS_mv (a := (eI v26)) rfl rfl rfl (o_as tk rfl (Wk.refl _)) ?_
    refine wpdS_nil ?_
    refine awp_seq ?_
    refine awp_block ?_
    refine awp_seq ?_
    refine awp_drawS mixed [] rfl (by decide +kernel) rfl rfl ?_
    refine wpdS_mv (a := (.vc p0 1 0 (x0).length c0)) rfl rfl rfl (o_mv tk rfl (Wk.refl _)) ?_
    refine wpdS_bdr H25 (@eU .u64 64) rfl (by decide +kernel) rfl rfl (fun v28 hv => OpS.borrow rfl rfl (.cons (.vcl hH 1 rfl hp0 (enc_u td5 sz5) (fun _ => rfl)) .nil) rfl (leaf_word_ok hv _)) fun v28 hv28 H27 => ?_
    refine wpdS_mv (a := (.vc p0 1 0 (x0).length c0)) rfl rfl rfl (o_mv tk rfl (Wk.refl _)) ?_
    refine wpdS_bd H27 (fun z => .vc p0 1 (vco 1 0 c0 ((248 : Int) : Int).toNat) (z : List (BitVec 8)).length (c0 - ((248 : Int) : Int).toNat)) rfl rfl rfl (fun v30 hv => o_pcutFrom tk hv hp0.room td22 (enc_u td5 sz5) rfl rfl) fun v30 hv30 H29 => ?_
    refine wpdS_bdr H29 (@eU .u64 64) rfl (by decide +kernel) rfl rfl (fun v32 hv => OpS.borrow rfl rfl (.cons (.vcl hH 1 rfl (hp0.cutFrom (enc_u td5 sz5) hv30) (enc_u td5 sz5) (fun _ => rfl)) .nil) rfl (leaf_word_ok hv _)) fun v32 hv32 H31 => ?_
    refine wpdS_lt H31 eB rfl rfl rfl (o_neq_u tk rfl rfl) fun v34 H33 => ?_
    refine wpdS_mv (a := (eB v34)) rfl rfl rfl (o_as tk rfl (Wk.refl _)) ?_
    refine wpdS_nil ?_
    refine awp_if H33 rfl (fun H35 => ?_) (fun H35 => ?_)
    · refine awp_seq ?_
      refine awp_region rfl ?_
      refine wpo_mv (a := (.agg [(eI (⟨(0 : Int), (0 : Int), ([] : List (BitVec 8))⟩ : api_Leaf).Stamp), (eI (⟨(0 : Int), (0 : Int), ([] : List (BitVec 8))⟩ : api_Leaf).Kind), AV.nils])) rfl rfl rfl (o_c tk false rfl (fun _ => rfl)) ?_
      refine wpo_bd H35 eErr rfl rfl rfl (fun v37 hv => OpP.of_call rfl rfl (.cons (.of_eq rfl) (.cons (.of_eq rfl) (.cons (.of_eq rfl) .nil))) (trouble_New_ok hv)) fun v37 hv37 H36 => ?_
      refine wpo_z rfl rfl (h_st tk hH 0 rfl ty24 (by simp) rfl rfl (.of_eq rfl) (b := (.agg [(eI (⟨(0 : Int), (0 : Int), ([] : List (BitVec 8))⟩ : api_Leaf).Stamp), (eI (⟨(0 : Int), (0 : Int), ([] : List (BitVec 8))⟩ : api_Leaf).Kind), AV.nils])) rfl rfl (Nat.le_of_ble_eq_true rfl) [(eI ((⟨(0 : Int), (0 : Int), ([] : List (BitVec 8))⟩ : api_Leaf) : api_Leaf).Stamp), (eI ((⟨(0 : Int), (0 : Int), ([] : List (BitVec 8))⟩ : api_Leaf) : api_Leaf).Kind), AV.nils] rfl) fun τ hH => ?_
      refine wpo_mv (a := (eErr v37)) rfl rfl rfl (o_as tk rfl (Wk.refl _)) ?_
      refine wpo_nil ?_
      refine awp_ret ?_
      obtain rfl := Option.some.inj H36
      exact ⟨_, (.tup [(e_api_Leaf ((⟨(0 : Int), (0 : Int), ([] : List (BitVec 8))⟩ : api_Leaf) : api_Leaf)), (eErr v37)]), (ares_2 (ares_cell hH 0 rfl rfl rfl) rfl), (wk_tup (.cons (wk_agg (.cons (.of_eq rfl) (.cons (.of_eq rfl) (.cons (wk_nils _) .nil)))) (.cons (.of_eq rfl) .nil))), .of_eq (by simp only [cutAV, cutL, enc24.cut _ _ _, encErr.cut _ _ _]), ((hH.noT.drop n2).unbring h0)⟩
    · refine awp_seq ?_
      obtain ⟨s39, hs41, hj42⟩ := Option.bind_eq_some_iff.1 H35
      refine awp_cutn (fun fr τ => WkF fr (fm [(0, (.vc p0 1 0 (x0).length c0)), (2, (.ref id1 0)), (4, (eI v14.1)), (6, (eI v26)), (42, (eB s39))]) ∧ Holds σ [(id1, [(eI z_api_Leaf.Stamp), (eI z_api_Leaf.Kind), AV.nils]), (p0, (cL (@eU .u8 8) x0))] [] τ) ?_ ?_
      · rintro fr τ ⟨hfr, hH⟩
        have H48 := hj42
        refine AWP.fm [(0, (.vc p0 1 0 (x0).length c0)), (2, (.ref id1 0)), (4, (eI v14.1)), (6, (eI v26)), (42, (eB s39))] hfr ?_
        refine awp_if H48 rfl (fun H49 => ?_) (fun H49 => ?_)
        · refine awp_seq ?_
          refine awp_region rfl ?_
          refine wpo_mv (a := (.agg [(eI (⟨(0 : Int), (0 : Int), ([] : List (BitVec 8))⟩ : api_Leaf).Stamp), (eI (⟨(0 : Int), (0 : Int), ([] : List (BitVec 8))⟩ : api_Leaf).Kind), AV.nils])) rfl rfl rfl (o_c tk false rfl (fun _ => rfl)) ?_
          refine wpo_bd H49 eErr rfl rfl rfl (fun v51 hv => OpP.of_call rfl rfl (.cons (.of_eq rfl) (.cons (.of_eq rfl) (.cons (.of_eq rfl) .nil))) (trouble_New_ok hv)) fun v51 hv51 H50 => ?_
          refine wpo_z rfl rfl (h_st tk hH 0 rfl ty24 (by simp) rfl rfl (.of_eq rfl) (b := (.agg [(eI (⟨(0 : Int), (0 : Int), ([] : List (BitVec 8))⟩ : api_Leaf).Stamp), (eI (⟨(0 : Int), (0 : Int), ([] : List (BitVec 8))⟩ : api_Leaf).Kind), AV.nils])) rfl rfl (Nat.le_of_ble_eq_true rfl) [(eI ((⟨(0 : Int), (0 : Int), ([] : List (BitVec 8))⟩ : api_Leaf) : api_Leaf).Stamp), (eI ((⟨(0 : Int), (0 : Int), ([] : List (BitVec 8))⟩ : api_Leaf) : api_Leaf).Kind), AV.nils] rfl) fun τ hH => ?_
          refine wpo_mv (a := (eErr v51)) rfl rfl rfl (o_as tk rfl (Wk.refl _)) ?_
          refine wpo_nil ?_
          refine awp_ret ?_
          obtain rfl := Option.some.inj H50
          exact ⟨_, (.tup [(e_api_Leaf ((⟨(0 : Int), (0 : Int), ([] : List (BitVec 8))⟩ : api_Leaf) : api_Leaf)), (eErr v51)]), (ares_2 (ares_cell hH 0 rfl rfl rfl) rfl), (wk_tup (.cons (wk_agg (.cons (.of_eq rfl) (.cons (.of_eq rfl) (.cons (wk_nils _) .nil)))) (.cons (.of_eq rfl) .nil))), .of_eq (by simp only [cutAV, cutL, enc24.cut _ _ _, encErr.cut _ _ _]), ((hH.noT.drop n2).unbring h0)⟩
        · refine awp_seq ?_
          refine awp_region rfl ?_
          refine wpo_mv (a := (.vc p0 1 0 (x0).length c0)) rfl rfl rfl (o_mv tk rfl (Wk.refl _)) ?_
          refine wpo_bd H49 (fun z => .vc p0 1 (vco 1 0 c0 0) (z : List (BitVec 8)).length (c0 - 0)) rfl rfl rfl (fun v54 hv => o_pcutTo tk hv hp0.room td22 (enc_u td5 sz5) rfl rfl) fun v54 hv54 H53 => ?_
          refine wpo_bdr H53 eB rfl rfl rfl (fun v56 hv => OpS.borrow rfl rfl (.cons (.vcl hH 1 rfl (hp0.cutTo (enc_u td5 sz5) hv54) (enc_u td5 sz5) (fun _ => rfl)) .nil) rfl (checksum_Fits_ok hv _)) fun v56 hv56 H55 => ?_
          refine wpo_lt H55 eB rfl rfl rfl (o_un tk rfl rfl) fun v58 H57 => ?_
          refine wpo_mv (a := (eB v58)) rfl rfl rfl (o_as tk rfl (Wk.refl _)) ?_
          refine wpo_nil ?_
          refine awp_if H57 rfl (fun H59 => ?_) (fun H59 => ?_)
          · refine awp_seq ?_
            refine awp_region rfl ?_
            refine wpo_mv (a := (.agg [(eI (⟨(0 : Int), (0 : Int), ([] : List (BitVec 8))⟩ : api_Leaf).Stamp), (eI (⟨(0 : Int), (0 : Int), ([] : List (BitVec 8))⟩ : api_Leaf).Kind), AV.nils])) rfl rfl rfl (o_c tk false rfl (fun _ => rfl)) ?_
            refine wpo_mv (a := (eI v14.1)) rfl rfl rfl (o_mv tk rfl (Wk.refl _)) ?_
            refine wpo_bd H59 eErr rfl rfl rfl (fun v61 hv => OpP.of_call rfl rfl (.cons (.of_eq rfl) (.cons (.of_eq rfl) (.cons (.of_eq rfl) .nil))) (trouble_New_ok hv)) fun v61 hv61 H60 => ?_
            refine wpo_z rfl rfl (h_st tk hH 0 rfl ty24 (by simp) rfl rfl (.of_eq rfl) (b := (.agg [(eI (⟨(0 : Int), (0 : Int), ([] : List (BitVec 8))⟩ : api_Leaf).Stamp), (eI (⟨(0 : Int), (0 : Int), ([] : List (BitVec 8))⟩ : api_Leaf).Kind), AV.nils])) rfl rfl (Nat.le_of_ble_eq_true rfl) [(eI ((⟨(0 : Int), (0 : Int), ([] : List (BitVec 8))⟩ : api_Leaf) : api_Leaf).Stamp), (eI ((⟨(0 : Int), (0 : Int), ([] : List (BitVec 8))⟩ : api_Leaf) : api_Leaf).Kind), AV.nils] rfl) fun τ hH => ?_
            refine wpo_mv (a := (eErr v61)) rfl rfl rfl (o_as tk rfl (Wk.refl _)) ?_
            refine wpo_nil ?_
            refine awp_ret ?_
            obtain rfl := Option.some.inj H60
            exact ⟨_, (.tup [(e_api_Leaf ((⟨(0 : Int), (0 : Int), ([] : List (BitVec 8))⟩ : api_Leaf) : api_Leaf)), (eErr v61)]), (ares_2 (ares_cell hH 0 rfl rfl rfl) rfl), (wk_tup (.cons (wk_agg (.cons (.of_eq rfl) (.cons (.of_eq rfl) (.cons (wk_nils _) .nil)))) (.cons (.of_eq rfl) .nil))), .of_eq (by simp only [cutAV, cutL, enc24.cut _ _ _, encErr.cut _ _ _]), ((hH.noT.drop n2).unbring h0)⟩
          · refine awp_seq ?_
            refine awp_region rfl ?_
            refine wpo_mv (a := (eI v26)) rfl rfl rfl (o_mv tk rfl (Wk.refl _)) ?_
            refine wpo_lt H59 eB rfl rfl rfl (o_ar tk rfl rfl rfl) fun v64 H63 => ?_
            refine wpo_mv (a := (eB v64)) rfl rfl rfl (o_as tk rfl (Wk.refl _)) ?_
            refine wpo_nil ?_
            refine awp_if H63 rfl (fun H65 => ?_) (fun H65 => ?_)
            · refine awp_seq ?_
              refine awp_region rfl ?_
              refine wpo_mv (a := (.agg [(eI (⟨(0 : Int), (0 : Int), ([] : List (BitVec 8))⟩ : api_Leaf).Stamp), (eI (⟨(0 : Int), (0 : Int), ([] : List (BitVec 8))⟩ : api_Leaf).Kind), AV.nils])) rfl rfl rfl (o_c tk false rfl (fun _ => rfl)) ?_
              refine wpo_mv (a := (eI v14.1)) rfl rfl rfl (o_mv tk rfl (Wk.refl _)) ?_
              refine wpo_bd H65 eErr rfl rfl rfl (fun v67 hv => OpP.of_call rfl rfl (.cons (.of_eq rfl) (.cons (.of_eq rfl) (.cons (.of_eq rfl) .nil))) (trouble_New_ok hv)) fun v67 hv67 H66 => ?_
              refine wpo_z rfl rfl (h_st tk hH 0 rfl ty24 (by simp) rfl rfl (.of_eq rfl) (b := (.agg [(eI (⟨(0 : Int), (0 : Int), ([] : List (BitVec 8))⟩ : api_Leaf).Stamp), (eI (⟨(0 : Int), (0 : Int), ([] : List (BitVec 8))⟩ : api_Leaf).Kind), AV.nils])) rfl rfl (Nat.le_of_ble_eq_true rfl) [(eI ((⟨(0 : Int), (0 : Int), ([] : List (BitVec 8))⟩ : api_Leaf) : api_Leaf).Stamp), (eI ((⟨(0 : Int), (0 : Int), ([] : List (BitVec 8))⟩ : api_Leaf) : api_Leaf).Kind), AV.nils] rfl) fun τ hH => ?_
              refine wpo_mv (a := (eErr v67)) rfl rfl rfl (o_as tk rfl (Wk.refl _)) ?_
              refine wpo_nil ?_
              refine awp_ret ?_
              obtain rfl := Option.some.inj H66
              exact ⟨_, (.tup [(e_api_Leaf ((⟨(0 : Int), (0 : Int), ([] : List (BitVec 8))⟩ : api_Leaf) : api_Leaf)), (eErr v67)]), (ares_2 (ares_cell hH 0 rfl rfl rfl) rfl), (wk_tup (.cons (wk_agg (.cons (.of_eq rfl) (.cons (.of_eq rfl) (.cons (wk_nils _) .nil)))) (.cons (.of_eq rfl) .nil))), .of_eq (by simp only [cutAV, cutL, enc24.cut _ _ _, encErr.cut _ _ _]), ((hH.noT.drop n2).unbring h0)⟩
            · refine awp_skip ?_
              refine awp_seq ?_
              refine awp_drawR mixed [12, 13] rfl (by decide +kernel) rfl rfl (fun σ => σ.objs[p0]? = some (cL (@eU .u8 8) x0)) (hH.at_ 1 rfl) ?_
              refine wpdR_mv (a := (eI v14.1)) rfl rfl rfl (o_mv tk rfl (Wk.refl _)) ?_
              refine wpdR_mv (a := (.vc p0 1 0 (x0).length c0)) rfl rfl rfl (o_mv tk rfl (Wk.refl _)) ?_
              refine wpdR_bd H65 (fun _ => .ref p0 (0 + ((8 : Int) : Int).toNat * 1)) rfl rfl rfl (fun v70 hv => o_pix tk hv td22 (enc_u td5 sz5) rfl rfl) fun v70 hv70 H69 => ?_
              refine wpdR_rdp (a := ((@eU .u8 8) v70)) rfl rfl rfl (fun σ hF => (h_pld tk (Holds.one hF) 0 rfl hp0 hv70 (enc_u td5 sz5) rfl rfl)) ?_
              refine wpdR_lt H69 eI rfl rfl rfl (o_cv_ui tk td5 td3 (by decide) rfl) fun v72 H71 => ?_
              refine wpdR_mv (a := (eF 1 (@eU .u8 8) ([] : List (BitVec 8)))) rfl rfl rfl (o_c tk false rfl (fun _ => rfl)) ?_
              refine wpdR_mv (a := (.vc p0 1 0 (x0).length c0)) rfl rfl rfl (o_mv tk rfl (Wk.refl _)) ?_
              refine wpdR_mv (a := (eI v26)) rfl rfl rfl (o_mv tk rfl (Wk.refl _)) ?_
              refine wpdR_lt H71 eI rfl rfl rfl (o_ar tk rfl rfl rfl) fun v74 H73 => ?_
              refine wpdR_bd H73 (fun z => .vc p0 1 (vco 1 0 c0 ((11 : Int) : Int).toNat) (z : List (BitVec 8)).length (c0 - ((11 : Int) : Int).toNat)) rfl rfl rfl (fun v76 hv => o_pcut tk hv hp0.room td22 (enc_u td5 sz5) rfl rfl rfl) fun v76 hv76 H75 => ?_
              refine wpdR_bdrp H75 (eL 1 (@eU .u8 8)) rfl rfl rfl (fun v78 hv σ hF => h_app1p tk (Holds.one hF) 0 hv rfl (hp0.cut (enc_u td5 sz5) hv76) (enc_u td5 sz5) rfl td22 td22 ty5 rfl (by decide) (by simp) (.inr rfl) rfl) fun v78 hv78 H77 => ?_
              refine wpdR_lt H77 e_api_Leaf rfl rfl rfl (o_c tk false rfl (fun _ => rfl)) fun v80 H79 => ?_
              refine wpdR_a (av := fun id => .ref id 0) rfl rfl rfl (h_alloc tk hH ty24 [(eI z_api_Leaf.Stamp), (eI z_api_Leaf.Kind), AV.nils] rfl) fun id81 τ ⟨hH, n82⟩ => ⟨(hH.at_ 2 rfl), ?_⟩
              refine wpdR_z rfl rfl rfl (h_st tk hH 0 rfl ty24 (by simp) rfl rfl (.of_eq rfl) (b := (e_api_Leaf v80)) (enc24.flat _) rfl (Nat.le_of_ble_eq_true rfl) (c_api_Leaf (v80 : api_Leaf)) rfl) fun τ hH => ⟨(hH.at_ 2 rfl), ?_⟩
              refine wpdR_nil ?_
              refine awp_seq ?_
              refine awp_seq ?_
              refine awp_region rfl ?_
              refine wpo_rd (a := (e_api_Leaf (v80 : api_Leaf))) rfl rfl rfl (h_ld tk hH 0 rfl rfl rfl) ?_
              refine wpo_bd H79 eErr rfl rfl rfl (fun v85 hv => OpP.of_call rfl rfl (.cons (.of_eq rfl) .nil) (leaf_Check_ok hv)) fun v85 hv85 H84 => ?_
              refine wpo_mv (a := (eErr v85)) rfl rfl rfl (o_as tk rfl (Wk.refl _)) ?_
              refine wpo_nil ?_
              refine awp_seq ?_
              refine awp_region rfl ?_
              refine wpo_mv (a := (eErr v85)) rfl rfl rfl (o_mv tk rfl (Wk.refl _)) ?_
              refine wpo_lt H84 eB rfl rfl rfl (o_err_neq tk rfl rfl rfl) fun v87 H86 => ?_
              refine wpo_nil ?_
              refine awp_if H86 rfl (fun H88 => ?_) (fun H88 => ?_)
              · refine awp_seq ?_
                refine awp_region rfl ?_
                refine wpo_mv (a := (.agg [(eI (⟨(0 : Int), (0 : Int), ([] : List (BitVec 8))⟩ : api_Leaf).Stamp), (eI (⟨(0 : Int), (0 : Int), ([] : List (BitVec 8))⟩ : api_Leaf).Kind), AV.nils])) rfl rfl rfl (o_c tk false rfl (fun _ => rfl)) ?_
                refine wpo_mv (a := (eI v14.1)) rfl rfl rfl (o_mv tk rfl (Wk.refl _)) ?_
                refine wpo_mv (a := (eErr v85)) rfl rfl rfl (o_mv tk rfl (Wk.refl _)) ?_
                refine wpo_bd H88 eErr rfl rfl rfl (fun v90 hv => OpP.of_call rfl rfl (.cons (.of_eq rfl) (.cons (.of_eq rfl) (.cons (.of_eq rfl) .nil))) (trouble_Wrap_ok hv)) fun v90 hv90 H89 => ?_
                refine wpo_z rfl rfl (h_st tk hH 1 rfl ty24 (by simp) rfl rfl (.of_eq rfl) (b := (.agg [(eI (⟨(0 : Int), (0 : Int), ([] : List (BitVec 8))⟩ : api_Leaf).Stamp), (eI (⟨(0 : Int), (0 : Int), ([] : List (BitVec 8))⟩ : api_Leaf).Kind), AV.nils])) rfl rfl (Nat.le_of_ble_eq_true rfl) [(eI ((⟨(0 : Int), (0 : Int), ([] : List (BitVec 8))⟩ : api_Leaf) : api_Leaf).Stamp), (eI ((⟨(0 : Int), (0 : Int), ([] : List (BitVec 8))⟩ : api_Leaf) : api_Leaf).Kind), AV.nils] rfl) fun τ hH => ?_
                refine wpo_mv (a := (eErr v90)) rfl rfl rfl (o_as tk rfl (Wk.refl _)) ?_
                refine wpo_nil ?_
                refine awp_ret ?_
                obtain rfl := Option.some.inj H89
                exact ⟨_, (.tup [(e_api_Leaf ((⟨(0 : Int), (0 : Int), ([] : List (BitVec 8))⟩ : api_Leaf) : api_Leaf)), (eErr v90)]), (ares_2 (ares_cell hH 1 rfl rfl rfl) rfl), (wk_tup (.cons (wk_agg (.cons (.of_eq rfl) (.cons (.of_eq rfl) (.cons (wk_nils _) .nil)))) (.cons (.of_eq rfl) .nil))), .of_eq (by simp only [cutAV, cutL, enc24.cut _ _ _, encErr.cut _ _ _]), (((hH.noT.drop n82).drop n2).unbring h0)⟩
              · refine awp_skip ?_
                refine awp_seq ?_
                refine awp_seq ?_
                refine awp_region rfl ?_
                refine wpo_mv (a := (.vc p0 1 0 (x0).length c0)) rfl rfl rfl (o_mv tk rfl (Wk.refl _)) ?_
                refine wpo_mv (a := (eI v26)) rfl rfl rfl (o_mv tk rfl (Wk.refl _)) ?_
                refine wpo_lt H88 eI rfl rfl rfl (o_ar tk rfl rfl rfl) fun v93 H92 => ?_
                refine wpo_bd H92 (fun z => .vc p0 1 (vco 1 0 c0 (v93 : Int).toNat) (z : List (BitVec 8)).length (c0 - (v93 : Int).toNat)) rfl rfl rfl (fun v95 hv => o_pcut tk hv hp0.room td22 (enc_u td5 sz5) rfl rfl rfl) fun v95 hv95 H94 => ?_
                refine wpo_lt H94 eI rfl rfl rfl (o_vclen tk td22 rfl) fun v97 H96 => ?_
                refine wpo_mv (a := (eI (0 : Int))) rfl rfl rfl (o_mv tk rfl (Wk.refl _)) ?_
                refine wpo_nil ?_
                refine awp_block ?_
                obtain ⟨o99, hs100, hj101⟩ := Option.bind_eq_some_iff.1 H96
                refine awp_cutx 1 (fun fr τ => ∃ s106 : Unit, o99 = .inl s106 ∧ WkF fr (fm [(2, (.ref id1 0)), (7, (.ref id81 0))]) ∧ Holds σ [(id81, (c_api_Leaf (v80 : api_Leaf))), (id1, [(eI z_api_Leaf.Stamp), (eI z_api_Leaf.Kind), AV.nils]), (p0, (cL (@eU .u8 8) x0))] [] τ) ?_ ?_
                · rintro fr τ ⟨s106, rfl, hfr, hH⟩
                  have H122 := hj101
                  simp only [Sum.elim_inl] at H122
                  refine AWP.fm [(2, (.ref id1 0)), (7, (.ref id81 0))] hfr ?_
                  refine awp_seq ?_
                  refine awp_region rfl ?_
                  refine wpo_rd (a := (e_api_Leaf (v80 : api_Leaf))) rfl rfl rfl (h_ld tk hH 0 rfl rfl rfl) ?_
                  refine wpo_z rfl rfl (h_st tk hH 1 rfl ty24 (by simp) rfl rfl (.of_eq rfl) (b := (e_api_Leaf (v80 : api_Leaf))) (enc24.flat _) rfl (Nat.le_of_ble_eq_true rfl) (c_api_Leaf ((v80 : api_Leaf) : api_Leaf)) rfl) fun τ hH => ?_
                  refine wpo_mv (a := (eErr Err.nil)) rfl rfl rfl (o_as tk rfl (Wk.refl _)) ?_
                  refine wpo_nil ?_
                  refine awp_ret ?_
                  obtain rfl := Option.some.inj H122
                  exact ⟨_, (.tup [(e_api_Leaf ((v80 : api_Leaf) : api_Leaf)), (eErr Err.nil)]), (ares_2 (ares_cell hH 1 rfl rfl rfl) rfl), (wk_tup (.cons (.of_eq rfl) (.cons (.of_eq rfl) .nil))), .of_eq (by simp only [cutAV, cutL, enc24.cut _ _ _, encErr.cut _ _ _]), (((hH.noT.drop n82).drop n2).unbring h0)⟩
                · refine awp_loopO (body := fun s => leaf_GetP_b0 x0 v14 v80 v93 v95 v97 s) hs100 (fun (s : Int) fr τ => WkF fr (fm [(2, (.ref id1 0)), (4, (eI v14.1)), (7, (.ref id81 0)), (88, (.vc p0 1 (vco 1 0 c0 (v93 : Int).toNat) (v95).length (c0 - (v93 : Int).toNat))), (89, (eI v97)), (90, (eI s))]) ∧ Holds σ [(id81, (c_api_Leaf (v80 : api_Leaf))), (id1, [(eI z_api_Leaf.Stamp), (eI z_api_Leaf.Kind), AV.nils]), (p0, (cL (@eU .u8 8) x0))] [] τ) ⟨(wkf_cons (.of_eq rfl) (wkf_cons (.of_eq rfl) (wkf_cons (.of_eq rfl) (wkf_cons (.of_eq rfl) (wkf_cons (.of_eq rfl) (wkf_cons (.of_eq rfl) (wkf_nil _))))))), hH⟩ ?_
                  rintro c98 fr τ y102 ⟨hfr, hH⟩ hb104 hy105
                  have H107 : leaf_GetP_b0 x0 v14 v80 v93 v95 v97 c98 = some y102 := hb104
                  unfold leaf_GetP_b0 at H107
                  refine AWP.fm [(2, (.ref id1 0)), (4, (eI v14.1)), (7, (.ref id81 0)), (88, (.vc p0 1 (vco 1 0 c0 (v93 : Int).toNat) (v95).length (c0 - (v93 : Int).toNat))), (89, (eI v97)), (90, (eI c98))] hfr ?_
                  have hH : Holds σ [(id81, (c_api_Leaf (v80 : api_Leaf))), (id1, [(eI z_api_Leaf.Stamp), (eI z_api_Leaf.Kind), AV.nils]), (p0, (cL (@eU .u8 8) x0))] [] τ := hH
                  refine awp_seq ?_
                  refine awp_region rfl ?_
                  refine wpo_lt H107 eB rfl rfl rfl (o_ar tk rfl rfl rfl) fun v109 H108 => ?_
                  refine wpo_nil ?_
                  refine awp_seq ?_
                  refine awp_if H108 rfl (fun H110 => ?_) (fun H110 => ?_)
                  · refine awp_skip ?_
                    refine awp_seq ?_
                    refine awp_block ?_
                    refine awp_seq ?_
                    refine awp_region rfl ?_
                    refine wpo_bd H110 (fun _ => .ref p0 ((vco 1 0 c0 (v93 : Int).toNat) + (c98 : Int).toNat * 1)) rfl rfl rfl (fun v112 hv => o_pix tk hv td22 (enc_u td5 sz5) rfl rfl) fun v112 hv112 H111 => ?_
                    refine wpo_rd (a := ((@eU .u8 8) v112)) rfl rfl rfl (h_pld tk hH 2 rfl (hp0.cut (enc_u td5 sz5) hv95) hv112 (enc_u td5 sz5) rfl rfl) ?_
                    refine wpo_mv (a := ((@eU .u8 8) v112)) rfl rfl rfl (o_as tk rfl (Wk.refl _)) ?_
                    refine wpo_nil ?_
                    refine awp_seq ?_
                    refine awp_region rfl ?_
                    refine wpo_mv (a := ((@eU .u8 8) v112)) rfl rfl rfl (o_mv tk rfl (Wk.refl _)) ?_
                    refine wpo_lt H111 eB rfl rfl rfl (o_neq_u tk rfl rfl) fun v114 H113 => ?_
                    refine wpo_nil ?_
                    refine awp_if H113 rfl (fun H115 => ?_) (fun H115 => ?_)
                    · refine awp_seq ?_
                      refine awp_region rfl ?_
                      refine wpo_mv (a := (.agg [(eI (⟨(0 : Int), (0 : Int), ([] : List (BitVec 8))⟩ : api_Leaf).Stamp), (eI (⟨(0 : Int), (0 : Int), ([] : List (BitVec 8))⟩ : api_Leaf).Kind), AV.nils])) rfl rfl rfl (o_c tk false rfl (fun _ => rfl)) ?_
                      refine wpo_mv (a := (eI v14.1)) rfl rfl rfl (o_mv tk rfl (Wk.refl _)) ?_
                      refine wpo_bd H115 eErr rfl rfl rfl (fun v117 hv => OpP.of_call rfl rfl (.cons (.of_eq rfl) (.cons (.of_eq rfl) (.cons (.of_eq rfl) .nil))) (trouble_New_ok hv)) fun v117 hv117 H116 => ?_
                      refine wpo_z rfl rfl (h_st tk hH 1 rfl ty24 (by simp) rfl rfl (.of_eq rfl) (b := (.agg [(eI (⟨(0 : Int), (0 : Int), ([] : List (BitVec 8))⟩ : api_Leaf).Stamp), (eI (⟨(0 : Int), (0 : Int), ([] : List (BitVec 8))⟩ : api_Leaf).Kind), AV.nils])) rfl rfl (Nat.le_of_ble_eq_true rfl) [(eI ((⟨(0 : Int), (0 : Int), ([] : List (BitVec 8))⟩ : api_Leaf) : api_Leaf).Stamp), (eI ((⟨(0 : Int), (0 : Int), ([] : List (BitVec 8))⟩ : api_Leaf) : api_Leaf).Kind), AV.nils] rfl) fun τ hH => ?_
                      refine wpo_mv (a := (eErr v117)) rfl rfl rfl (o_as tk rfl (Wk.refl _)) ?_
                      refine wpo_nil ?_
                      refine awp_ret ?_
                      have hz := hy105 _ (inj_inr H116)
                      refine ⟨⟨_, inj_inr H116⟩, ?_⟩
                      rw [← hz] at hj101
                      have H119 := (show some _ = some _ from hj101)
                      obtain rfl := Option.some.inj H119
                      exact ⟨_, (.tup [(e_api_Leaf ((⟨(0 : Int), (0 : Int), ([] : List (BitVec 8))⟩ : api_Leaf) : api_Leaf)), (eErr v117)]), (ares_2 (ares_cell hH 1 rfl rfl rfl) rfl), (wk_tup (.cons (wk_agg (.cons (.of_eq rfl) (.cons (.of_eq rfl) (.cons (wk_nils _) .nil)))) (.cons (.of_eq rfl) .nil))), .of_eq (by simp only [cutAV, cutL, enc24.cut _ _ _, encErr.cut _ _ _]), (((hH.noT.drop n82).drop n2).unbring h0)⟩
                    · refine awp_skip ?_
                      refine awp_region rfl ?_
                      refine wpo_lt H115 eI rfl rfl rfl (o_ar tk rfl rfl rfl) fun v121 H120 => ?_
                      refine wpo_mv (a := (eI v121)) rfl rfl rfl (o_mv tk rfl (Wk.refl _)) ?_
                      refine wpo_nil ?_
                      exact ⟨v121, inj_inl H120, (wkf_cons (.of_eq rfl) (wkf_cons (.of_eq rfl) (wkf_cons (.of_eq rfl) (wkf_cons (.of_eq rfl) (wkf_cons (.of_eq rfl) (wkf_cons (.of_eq rfl) (wkf_nil _))))))), hH⟩
                  · refine awp_exit ?_
                    have hz := hy105 _ (inj_inr H110)
                    exact ⟨⟨_, inj_inr H110⟩, (), hz.symm, (wkf_cons (.of_eq rfl) (wkf_cons (.of_eq rfl) (wkf_nil _))), hH⟩
      · refine awp_region rfl ?_
        refine wpo_mv (a := (eI v14.1)) rfl rfl rfl (o_mv tk rfl (Wk.refl _)) ?_
        refine wpo_lt hs41 eB rfl rfl rfl (o_ar tk rfl rfl rfl) fun v44 H43 => ?_
        refine wpo_mv (a := (eB v44)) rfl rfl rfl (o_mv tk rfl (Wk.refl _)) ?_
        refine if_split H43 (fun hb H45 => ?_) (fun hb H45 => ?_)
        · subst hb
          refine wpo_skip rfl rfl rfl ?_
          refine wpo_skip rfl rfl rfl ?_
          refine wpo_mv (a := (eB true)) rfl rfl rfl (o_pick_t tk rfl rfl (Wk.refl _)) ?_
          refine wpo_mv (a := (eB true)) rfl rfl rfl (o_as tk rfl (Wk.refl _)) ?_
          refine wpo_nil ?_
          have e := Option.some.inj H45
          subst e
          exact ⟨(wkf_cons (.of_eq rfl) (wkf_cons (.of_eq rfl) (wkf_cons (.of_eq rfl) (wkf_cons (.of_eq rfl) (wkf_cons (.of_eq rfl) (wkf_nil _)))))), hH⟩
        · subst hb
          refine wpo_mv (a := (eI v14.2)) rfl rfl rfl (o_mv tk rfl (Wk.refl _)) ?_
          refine wpo_lt H45 eB rfl rfl rfl (o_ar tk rfl rfl rfl) fun v47 H46 => ?_
          refine wpo_mv (a := (eB v47)) rfl rfl rfl (o_pick_f tk rfl rfl (Wk.refl _)) ?_
          refine wpo_mv (a := (eB v47)) rfl rfl rfl (o_as tk rfl (Wk.refl _)) ?_
          refine wpo_nil ?_
          have e := Option.some.inj H46
          subst e
          exact ⟨(wkf_cons (.of_eq rfl) (wkf_cons (.of_eq rfl) (wkf_cons (.of_eq rfl) (wkf_cons (.of_eq rfl) (wkf_cons (.of_eq rfl) (wkf_nil _)))))), hH⟩
end Go.Proofs.YtgfedohhkbmobaaDoor
namespace Go.Proofs.YtgfedohhkbmobaaDoor
open Go Go.Va
set_option linter.unusedVariables false
set_option linter.unusedSimpArgs false
set_option maxRecDepth 20000
theorem butterylaw05_works_ok  {r : Bool} (H : butterylaw05_works = some r) (σ : St)  (hg : σ.gl = gls) : ACall Tryd.prog 12 [] σ (fun a τ => a = eB r ∧ τ = σ) := by
  unfold butterylaw05_works at H
  refine ACall.pure (acall_start tk Tryd.func12 (by decide) rfl (Nat.le_of_ble_eq_true rfl) ?_)
  have hH := Holds.init σ
  refine awp_seq ?_
  refine awp_region rfl ?_
  refine wpo_mv (a := (eB false)) rfl rfl rfl (o_as tk rfl (Wk.refl _)) ?_
  refine wpo_nil ?_
  refine awp_seq ?_
  refine awp_region rfl ?_
  refine wpo_mv (a := (eF 1 (@eU .u8 8) ([97#8, 98#8, 99#8] : List (BitVec 8)))) rfl rfl rfl (o_c tk false rfl (fun _ => rfl)) ?_
  refine wpo_mv (a := (eF 1 (@eU .u8 8) ([97#8, 98#8, 99#8] : List (BitVec 8)))) rfl rfl rfl (o_bconst tk td22 td5 rfl) ?_
  refine wpo_lt H e_api_Leaf rfl rfl rfl (OpP.wk (wkf_up (t := 13) (a := ((eL 1 (@eU .u8 8)) ([97#8, 98#8, 99#8] : List (BitVec 8)))) wk_no) (o_c tk false rfl (fun _ => rfl))) fun v2 H1 => ?_
  refine wpo_a (av := fun id => .ref id 0) rfl rfl rfl (h_alloc tk hH ty24 [(eI z_api_Leaf.Stamp), (eI z_api_Leaf.Kind), AV.nils] rfl) fun id3 τ ⟨hH, n4⟩ => ?_
  refine wpo_z rfl rfl (h_st tk hH 0 rfl ty24 (by simp) rfl rfl (.of_eq rfl) (b := (e_api_Leaf v2)) (enc24.flat _) rfl (Nat.le_of_ble_eq_true rfl) (c_api_Leaf (v2 : api_Leaf)) rfl) fun τ hH => ?_
  refine wpo_nil ?_
  refine awp_seq ?_
  refine awp_region rfl ?_
  refine wpo_rd (a := (e_api_Leaf (v2 : api_Leaf))) rfl rfl rfl (h_ld tk hH 0 rfl rfl rfl) ?_
  obtain ⟨v7, hv8, H6⟩ := Option.bind_eq_some_iff.1 H1
  refine wpo_a (av := fun b => .tup (.vec b 1 (v7.1).length :: [(eErr v7.2)])) rfl rfl rfl (h_callvs hH (cL (@eU .u8 8) v7.1) rfl rfl (.cons (.of_eq rfl) .nil) (leaf_PutV_vec hv8 _)) fun id9 τ ⟨hH, n10⟩ => ?_
  refine wpo_mv (a := (.tup [(.vec id9 1 (v7.1).length), (eErr v7.2)])) rfl rfl rfl (o_mv tk rfl (Wk.refl _)) ?_
  refine wpo_mv (a := (.vec id9 1 (v7.1).length)) rfl rfl rfl (o_ext tk rfl rfl) ?_
  refine wpo_mv (a := (eErr v7.2)) rfl rfl rfl (o_ext tk rfl rfl) ?_
  refine wpo_mv (a := (.vec id9 1 (v7.1).length)) rfl rfl rfl (o_as tk rfl (Wk.refl _)) ?_
  refine wpo_mv (a := (eErr v7.2)) rfl rfl rfl (o_as tk rfl (Wk.refl _)) ?_
  refine wpo_nil ?_
  refine awp_seq ?_
  refine awp_seq ?_
  refine awp_region rfl ?_
  refine wpo_mv (a := (.vec id9 1 (v7.1).length)) rfl rfl rfl (o_mv tk rfl (Wk.refl _)) ?_
  refine wpo_lt H6 eI rfl rfl rfl (o_vlen tk td22 rfl) fun v12 H11 => ?_
  refine wpo_lt H11 eB rfl rfl rfl (o_ar tk rfl rfl rfl) fun v14 H13 => ?_
  refine wpo_nil ?_
  refine awp_if H13 rfl (fun H15 => ?_) (fun H15 => ?_)
  · refine awp_seq ?_
    refine awp_region rfl ?_
    refine wpo_mv (a := (eB false)) rfl rfl rfl (o_as tk rfl (Wk.refl _)) ?_
    refine wpo_nil ?_
    refine awp_ret ?_
    obtain rfl := Option.some.inj H15
    exact ⟨_, (eB false), rfl, (.of_eq rfl), .of_eq ((enc_b td4 sz4).cut _ _ _), ((hH.noT.drop n10).drop n4)⟩
  · refine awp_skip ?_
    refine awp_seq ?_
    refine awp_region rfl ?_
    refine wpo_mv (a := (.vec id9 1 (v7.1).length)) rfl rfl rfl (o_mv tk rfl (Wk.refl _)) ?_
    refine wpo_bdr H15 (fun r => .tup [e_api_Leaf r.1, eErr r.2]) rfl rfl rfl (fun v17 hv => h_callr rfl rfl (.cons (.of_eq rfl) .nil) (leaf_GetP_ok hv _ (hH.at_ 0 rfl))) fun v17 hv17 H16 => ?_
    refine wpo_mv (a := (.tup [(e_api_Leaf v17.1), (eErr v17.2)])) rfl rfl rfl (o_mv tk rfl (Wk.refl _)) ?_
    refine wpo_mv (a := (e_api_Leaf v17.1)) rfl rfl rfl (o_ext tk rfl rfl) ?_
    refine wpo_mv (a := (eErr v17.2)) rfl rfl rfl (o_ext tk rfl rfl) ?_
    refine wpo_a (av := fun id => .ref id 0) rfl rfl rfl (h_alloc tk hH ty24 [(eI z_api_Leaf.Stamp), (eI z_api_Leaf.Kind), AV.nils] rfl) fun id18 τ ⟨hH, n19⟩ => ?_
    refine wpo_z rfl rfl (h_st tk hH 0 rfl ty24 (by simp) rfl rfl (.of_eq rfl) (b := (e_api_Leaf v17.1)) (enc24.flat _) rfl (Nat.le_of_ble_eq_true rfl) (c_api_Leaf (v17.1 : api_Leaf)) rfl) fun τ hH => ?_
    refine wpo_mv (a := (eErr v17.2)) rfl rfl rfl (o_as tk rfl (Wk.refl _)) ?_
    refine wpo_nil ?_
    refine awp_seq ?_
    refine awp_region rfl ?_
    refine wpo_mv (a := (.agg [(eI (⟨(1 : Int), (6 : Int), ([] : List (BitVec 8))⟩ : api_Leaf).Stamp), (eI (⟨(1 : Int), (6 : Int), ([] : List (BitVec 8))⟩ : api_Leaf).Kind), AV.nils])) rfl rfl rfl (o_c tk false rfl (fun _ => rfl)) ?_
    refine wpo_bd H16 (fun r => .tup [(eL 1 (@eU .u8 8)) r.1, eErr r.2]) rfl rfl rfl (fun v22 hv => OpP.of_call rfl rfl (.cons (wk_agg (.cons (.of_eq rfl) (.cons (.of_eq rfl) (.cons (wk_nils _) .nil)))) .nil) (leaf_Put_ok hv)) fun v22 hv22 H21 => ?_
    refine wpo_mv (a := (.tup [((eL 1 (@eU .u8 8)) v22.1), (eErr v22.2)])) rfl rfl rfl (o_mv tk rfl (Wk.refl _)) ?_
    refine wpo_mv (a := ((eL 1 (@eU .u8 8)) v22.1)) rfl rfl rfl (o_ext tk rfl rfl) ?_
    refine wpo_mv (a := (eErr v22.2)) rfl rfl rfl (o_ext tk rfl rfl) ?_
    refine wpo_mv (a := ((eL 1 (@eU .u8 8)) v22.1)) rfl rfl rfl (o_as tk rfl (Wk.refl _)) ?_
    refine wpo_mv (a := (eErr v22.2)) rfl rfl rfl (o_as tk rfl (Wk.refl _)) ?_
    refine wpo_nil ?_
    refine awp_seq ?_
    refine awp_region rfl ?_
    refine wpo_mv (a := (.vec id9 1 (v7.1).length)) rfl rfl rfl (o_mv tk rfl (Wk.refl _)) ?_
    refine wpo_bdr H21 (fun r => .tup [eI r.1, eI r.2]) rfl rfl rfl (fun v24 hv => OpS.borrow rfl rfl (.cons (.vecl hH 1 rfl rfl (enc_u td5 sz5) (fun _ => rfl)) .nil) rfl (leaf_Stamps_ok hv _)) fun v24 hv24 H23 => ?_
    refine wpo_mv (a := (.tup [(eI v24.1), (eI v24.2)])) rfl rfl rfl (o_mv tk rfl (Wk.refl _)) ?_
    refine wpo_mv (a := (eI v24.1)) rfl rfl rfl (o_ext tk rfl rfl) ?_
    refine wpo_mv (a := (eI v24.2)) rfl rfl rfl (o_ext tk rfl rfl) ?_
    refine wpo_mv (a := (eI v24.1)) rfl rfl rfl (o_as tk rfl (Wk.refl _)) ?_
    refine wpo_mv (a := (eI v24.2)) rfl rfl rfl (o_as tk rfl (Wk.refl _)) ?_
    refine wpo_nil ?_
    refine awp_seq ?_
    refine awp_region rfl ?_
    refine wpo_mv (a := (.vec id9 1 (v7.1).length)) rfl rfl rfl (o_mv tk rfl (Wk.refl _)) ?_
    refine wpo_mv (a := (.vec id9 1 (v7.1).length)) rfl rfl rfl (o_mv tk rfl (Wk.refl _)) ?_
    refine wpo_bd H23 (fun _ => .ref id9 (0 + ((255 : Int) : Int).toNat * 1 + 0)) rfl rfl rfl (fun v26 hv => o_vecx tk hv td22 sz5 (by decide) rfl rfl) fun v26 hv26 H25 => ?_
    refine wpo_bdr H25 (fun y => (@eU .u8 8) y) rfl rfl rfl (fun v28 hv => h_ldx tk hH 1 hv rfl (enc_u td5 sz5) (acut_enc (enc_u td5 sz5) rfl _) (by decide) rfl) fun v28 hv28 H27 => ?_
    refine wpo_lt H27 (@eU .u8 8) rfl rfl rfl (o_xor_u tk rfl rfl rfl) fun v30 H29 => ?_
    refine wpo_bd H29 (fun _ => .ref id9 (0 + ((255 : Int) : Int).toNat * 1 + 0)) rfl rfl rfl (fun v32 hv => o_vecx tk hv td22 sz5 (by decide) rfl rfl) fun v32 hv32 H31 => ?_
    obtain ⟨c34, hc35, H33⟩ := Option.bind_eq_some_iff.1 H31
    refine wpo_z rfl rfl (h_stx tk hH 1 hc35 rfl (enc_u td5 sz5) ty5 (by simp) rfl rfl (.of_eq rfl) (b := ((@eU .u8 8) v30)) rfl rfl (by decide) (fun _ => rfl)) fun τ hH => ?_
    refine wpo_nil ?_
    refine awp_seq ?_
    refine awp_region rfl ?_
    refine wpo_mv (a := (.vec id9 1 (v7.1).length)) rfl rfl rfl (o_mv tk rfl (Wk.refl _)) ?_
    refine wpo_bdr H33 (fun r => .tup [e_api_Leaf r.1, eErr r.2]) rfl rfl rfl (fun v37 hv => h_callr rfl rfl (.cons (.of_eq (congrArg (AV.vec _ _) ((updA_len hc35)).symm)) .nil) (leaf_GetP_ok hv _ (hH.at_ 1 rfl))) fun v37 hv37 H36 => ?_
    refine wpo_mv (a := (.tup [(e_api_Leaf v37.1), (eErr v37.2)])) rfl rfl rfl (o_mv tk rfl (Wk.refl _)) ?_
    refine wpo_mv (a := (e_api_Leaf v37.1)) rfl rfl rfl (o_ext tk rfl rfl) ?_
    refine wpo_mv (a := (eErr v37.2)) rfl rfl rfl (o_ext tk rfl rfl) ?_
    refine wpo_a (av := fun id => .ref id 0) rfl rfl rfl (h_alloc tk hH ty24 [(eI z_api_Leaf.Stamp), (eI z_api_Leaf.Kind), AV.nils] rfl) fun id38 τ ⟨hH, n39⟩ => ?_
    refine wpo_z rfl rfl (h_st tk hH 0 rfl ty24 (by simp) rfl rfl (.of_eq rfl) (b := (e_api_Leaf v37.1)) (enc24.flat _) rfl (Nat.le_of_ble_eq_true rfl) (c_api_Leaf (v37.1 : api_Leaf)) rfl) fun τ hH => ?_
    refine wpo_mv (a := (eErr v37.2)) rfl rfl rfl (o_as tk rfl (Wk.refl _)) ?_
    refine wpo_nil ?_
    refine awp_seq ?_
    refine awp_region rfl ?_
    refine wpo_mv (a := (eErr v7.2)) rfl rfl rfl (o_mv tk rfl (Wk.refl _)) ?_
    refine wpo_lt H36 eB rfl rfl rfl (o_err_eql tk rfl rfl rfl) fun v42 H41 => ?_
    refine wpo_mv (a := (eB v42)) rfl rfl rfl (o_mv tk rfl (Wk.refl _)) ?_
    refine if_split H41 (fun hb H43 => ?_) (fun hb H43 => ?_)
    · subst hb
      refine wpo_mv (a := (eErr v17.2)) rfl rfl rfl (o_mv tk rfl (Wk.refl _)) ?_
      refine wpo_lt H43 eB rfl rfl rfl (o_err_eql tk rfl rfl rfl) fun v45 H44 => ?_
      refine wpo_mv (a := (eB v45)) rfl rfl rfl (o_pick_t tk rfl rfl (Wk.refl _)) ?_
      refine wpo_mv (a := (eB v45)) rfl rfl rfl (o_mv tk rfl (Wk.refl _)) ?_
      refine if_split H44 (fun hb H46 => ?_) (fun hb H46 => ?_)
      · subst hb
        refine wpo_rd (a := (e_api_Leaf (v2 : api_Leaf))) rfl rfl rfl (h_ld tk hH 3 rfl rfl rfl) ?_
        refine wpo_rd (a := (e_api_Leaf (v17.1 : api_Leaf))) rfl rfl rfl (h_ld tk hH 1 rfl rfl rfl) ?_
        refine wpo_bd H46 eB rfl rfl rfl (fun v48 hv => OpP.of_call rfl rfl (.cons (.of_eq rfl) (.cons (.of_eq rfl) .nil)) (leaf_Same_ok hv)) fun v48 hv48 H47 => ?_
        refine wpo_mv (a := (eB v48)) rfl rfl rfl (o_pick_t tk rfl rfl (Wk.refl _)) ?_
        refine wpo_mv (a := (eB v48)) rfl rfl rfl (o_mv tk rfl (Wk.refl _)) ?_
        refine if_split H47 (fun hb H49 => ?_) (fun hb H49 => ?_)
        · subst hb
          refine wpo_mv (a := (eErr v22.2)) rfl rfl rfl (o_mv tk rfl (Wk.refl _)) ?_
          refine wpo_bdr H49 eI rfl rfl rfl (fun v51 hv => h_callr rfl rfl (.cons (.of_eq rfl) .nil) (trouble_Of_ok hv _ (hH.gl.trans hg))) fun v51 hv51 H50 => ?_
          refine wpo_lt H50 eB rfl rfl rfl (o_ar tk rfl rfl rfl) fun v53 H52 => ?_
          refine wpo_mv (a := (eB v53)) rfl rfl rfl (o_pick_t tk rfl rfl (Wk.refl _)) ?_
          refine wpo_mv (a := (eB v53)) rfl rfl rfl (o_mv tk rfl (Wk.refl _)) ?_
          refine if_split H52 (fun hb H54 => ?_) (fun hb H54 => ?_)
          · subst hb
            refine wpo_mv (a := (eI v24.1)) rfl rfl rfl (o_mv tk rfl (Wk.refl _)) ?_
            refine wpo_lt H54 eB rfl rfl rfl (o_ar tk rfl rfl rfl) fun v56 H55 => ?_
            refine wpo_mv (a := (eB v56)) rfl rfl rfl (o_pick_t tk rfl rfl (Wk.refl _)) ?_
            refine wpo_mv (a := (eB v56)) rfl rfl rfl (o_mv tk rfl (Wk.refl _)) ?_
            refine if_split H55 (fun hb H57 => ?_) (fun hb H57 => ?_)
            · subst hb
              refine wpo_mv (a := (eI v24.2)) rfl rfl rfl (o_mv tk rfl (Wk.refl _)) ?_
              refine wpo_lt H57 eB rfl rfl rfl (o_ar tk rfl rfl rfl) fun v59 H58 => ?_
              refine wpo_mv (a := (eB v59)) rfl rfl rfl (o_pick_t tk rfl rfl (Wk.refl _)) ?_
              refine wpo_mv (a := (eB v59)) rfl rfl rfl (o_mv tk rfl (Wk.refl _)) ?_
              refine if_split H58 (fun hb H60 => ?_) (fun hb H60 => ?_)
              · subst hb
                refine wpo_mv (a := (eErr v37.2)) rfl rfl rfl (o_mv tk rfl (Wk.refl _)) ?_
                refine wpo_bdr H60 eI rfl rfl rfl (fun v62 hv => h_callr rfl rfl (.cons (.of_eq rfl) .nil) (trouble_Of_ok hv _ (hH.gl.trans hg))) fun v62 hv62 H61 => ?_
                refine wpo_lt H61 eB rfl rfl rfl (o_ar tk rfl rfl rfl) fun v64 H63 => ?_
                refine wpo_mv (a := (eB v64)) rfl rfl rfl (o_pick_t tk rfl rfl (Wk.refl _)) ?_
                refine wpo_mv (a := (eB v64)) rfl rfl rfl (o_mv tk rfl (Wk.refl _)) ?_
                refine if_split H63 (fun hb H65 => ?_) (fun hb H65 => ?_)
                · subst hb
                  refine wpo_rd (a := (e_api_Leaf (v2 : api_Leaf))) rfl rfl rfl (h_ld tk hH 3 rfl rfl rfl) ?_
                  refine wpo_bd H65 eErr rfl rfl rfl (fun v67 hv => OpP.of_call rfl rfl (.cons (.of_eq rfl) .nil) (leaf_Check_ok hv)) fun v67 hv67 H66 => ?_
                  refine wpo_lt H66 eB rfl rfl rfl (o_err_eql tk rfl rfl rfl) fun v69 H68 => ?_
                  refine wpo_mv (a := (eB v69)) rfl rfl rfl (o_pick_t tk rfl rfl (Wk.refl _)) ?_
                  refine wpo_mv (a := (eB v69)) rfl rfl rfl (o_as tk rfl (Wk.refl _)) ?_
                  refine wpo_nil ?_
                  refine awp_ret ?_
                  obtain rfl := Option.some.inj H68
                  exact ⟨_, (eB v69), rfl, (.of_eq rfl), .of_eq ((enc_b td4 sz4).cut _ _ _), ((((hH.noT.drop n39).drop n19).drop n10).drop n4)⟩
                · subst hb
                  refine wpo_skip rfl rfl rfl ?_
                  refine wpo_skip rfl rfl rfl ?_
                  refine wpo_skip rfl rfl rfl ?_
                  refine wpo_mv (a := (eB false)) rfl rfl rfl (o_pick_f tk rfl rfl (Wk.refl _)) ?_
                  refine wpo_mv (a := (eB false)) rfl rfl rfl (o_as tk rfl (Wk.refl _)) ?_
                  refine wpo_nil ?_
                  refine awp_ret ?_
                  obtain rfl := Option.some.inj H65
                  exact ⟨_, (eB false), rfl, (.of_eq rfl), .of_eq ((enc_b td4 sz4).cut _ _ _), ((((hH.noT.drop n39).drop n19).drop n10).drop n4)⟩
              · subst hb
                refine wpo_skip rfl rfl rfl ?_
                refine wpo_skip rfl rfl rfl ?_
                refine wpo_skip rfl rfl rfl ?_
                refine wpo_mv (a := (eB false)) rfl rfl rfl (o_pick_f tk rfl rfl (Wk.refl _)) ?_
                refine wpo_mv (a := (eB false)) rfl rfl rfl (o_mv tk rfl (Wk.refl _)) ?_
                refine wpo_skip rfl rfl rfl ?_
                refine wpo_skip rfl rfl rfl ?_
                refine wpo_skip rfl rfl rfl ?_
                refine wpo_mv (a := (eB false)) rfl rfl rfl (o_pick_f tk rfl rfl (Wk.refl _)) ?_
                refine wpo_mv (a := (eB false)) rfl rfl rfl (o_as tk rfl (Wk.refl _)) ?_
                refine wpo_nil ?_
                refine awp_ret ?_
                obtain rfl := Option.some.inj H60
                exact ⟨_, (eB false), rfl, (.of_eq rfl), .of_eq ((enc_b td4 sz4).cut _ _ _), ((((hH.noT.drop n39).drop n19).drop n10).drop n4)⟩
            · subst hb
              refine wpo_skip rfl rfl rfl ?_
              refine wpo_skip rfl rfl rfl ?_
              refine wpo_mv (a := (eB false)) rfl rfl rfl (o_pick_f tk rfl rfl (Wk.refl _)) ?_
              refine wpo_mv (a := (eB false)) rfl rfl rfl (o_mv tk rfl (Wk.refl _)) ?_
              refine wpo_skip rfl rfl rfl ?_
              refine wpo_skip rfl rfl rfl ?_
              refine wpo_skip rfl rfl rfl ?_
              refine wpo_mv (a := (eB false)) rfl rfl rfl (o_pick_f tk rfl rfl (Wk.refl _)) ?_
              refine wpo_mv (a := (eB false)) rfl rfl rfl (o_mv tk rfl (Wk.refl _)) ?_
              refine wpo_skip rfl rfl rfl ?_
              refine wpo_skip rfl rfl rfl ?_
              refine wpo_skip rfl rfl rfl ?_
              refine wpo_mv (a := (eB false)) rfl rfl rfl (o_pick_f tk rfl rfl (Wk.refl _)) ?_
              refine wpo_mv (a := (eB false)) rfl rfl rfl (o_as tk rfl (Wk.refl _)) ?_
              refine wpo_nil ?_
              refine awp_ret ?_
              obtain rfl := Option.some.inj H57
              exact ⟨_, (eB false), rfl, (.of_eq rfl), .of_eq ((enc_b td4 sz4).cut _ _ _), ((((hH.noT.drop n39).drop n19).drop n10).drop n4)⟩
          · subst hb
            refine wpo_skip rfl rfl rfl ?_
            refine wpo_skip rfl rfl rfl ?_
            refine wpo_mv (a := (eB false)) rfl rfl rfl (o_pick_f tk rfl rfl (Wk.refl _)) ?_
            refine wpo_mv (a := (eB false)) rfl rfl rfl (o_mv tk rfl (Wk.refl _)) ?_
            refine wpo_skip rfl rfl rfl ?_
            refine wpo_skip rfl rfl rfl ?_
            refine wpo_mv (a := (eB false)) rfl rfl rfl (o_pick_f tk rfl rfl (Wk.refl _)) ?_
            refine wpo_mv (a := (eB false)) rfl rfl rfl (o_mv tk rfl (Wk.refl _)) ?_
            refine wpo_skip rfl rfl rfl ?_
            refine wpo_skip rfl rfl rfl ?_
            refine wpo_skip rfl rfl rfl ?_
            refine wpo_mv (a := (eB false)) rfl rfl rfl (o_pick_f tk rfl rfl (Wk.refl _)) ?_
            refine wpo_mv (a := (eB false)) rfl rfl rfl (o_mv tk rfl (Wk.refl _)) ?_
            refine wpo_skip rfl rfl rfl ?_
            refine wpo_skip rfl rfl rfl ?_
            refine wpo_skip rfl rfl rfl ?_
            refine wpo_mv (a := (eB false)) rfl rfl rfl (o_pick_f tk rfl rfl (Wk.refl _)) ?_
            refine wpo_mv (a := (eB false)) rfl rfl rfl (o_as tk rfl (Wk.refl _)) ?_
            refine wpo_nil ?_
            refine awp_ret ?_
            obtain rfl := Option.some.inj H54
            exact ⟨_, (eB false), rfl, (.of_eq rfl), .of_eq ((enc_b td4 sz4).cut _ _ _), ((((hH.noT.drop n39).drop n19).drop n10).drop n4)⟩
        · subst hb
          refine wpo_skip rfl rfl rfl ?_
          refine wpo_skip rfl rfl rfl ?_
          refine wpo_skip rfl rfl rfl ?_
          refine wpo_mv (a := (eB false)) rfl rfl rfl (o_pick_f tk rfl rfl (Wk.refl _)) ?_
          refine wpo_mv (a := (eB false)) rfl rfl rfl (o_mv tk rfl (Wk.refl _)) ?_
          refine wpo_skip rfl rfl rfl ?_
          refine wpo_skip rfl rfl rfl ?_
          refine wpo_mv (a := (eB false)) rfl rfl rfl (o_pick_f tk rfl rfl (Wk.refl _)) ?_
          refine wpo_mv (a := (eB false)) rfl rfl rfl (o_mv tk rfl (Wk.refl _)) ?_
          refine wpo_skip rfl rfl rfl ?_
          refine wpo_skip rfl rfl rfl ?_
          refine wpo_mv (a := (eB false)) rfl rfl rfl (o_pick_f tk rfl rfl (Wk.refl _)) ?_
          refine wpo_mv (a := (eB false)) rfl rfl rfl (o_mv tk rfl (Wk.refl _)) ?_
          refine wpo_skip rfl rfl rfl ?_
          refine wpo_skip rfl rfl rfl ?_
          refine wpo_skip rfl rfl rfl ?_
          refine wpo_mv (a := (eB false)) rfl rfl rfl (o_pick_f tk rfl rfl (Wk.refl _)) ?_
          refine wpo_mv (a := (eB false)) rfl rfl rfl (o_mv tk rfl (Wk.refl _)) ?_
          refine wpo_skip rfl rfl rfl ?_
          refine wpo_skip rfl rfl rfl ?_
          refine wpo_skip rfl rfl rfl ?_
          refine wpo_mv (a := (eB false)) rfl rfl rfl (o_pick_f tk rfl rfl (Wk.refl _)) ?_
          refine wpo_mv (a := (eB false)) rfl rfl rfl (o_as tk rfl (Wk.refl _)) ?_
          refine wpo_nil ?_
          refine awp_ret ?_
          obtain rfl := Option.some.inj H49
          exact ⟨_, (eB false), rfl, (.of_eq rfl), .of_eq ((enc_b td4 sz4).cut _ _ _), ((((hH.noT.drop n39).drop n19).drop n10).drop n4)⟩
      · subst hb
        refine wpo_skip rfl rfl rfl ?_
        refine wpo_skip rfl rfl rfl ?_
        refine wpo_skip rfl rfl rfl ?_
        refine wpo_mv (a := (eB false)) rfl rfl rfl (o_pick_f tk rfl rfl (Wk.refl _)) ?_
        refine wpo_mv (a := (eB false)) rfl rfl rfl (o_mv tk rfl (Wk.refl _)) ?_
        refine wpo_skip rfl rfl rfl ?_
        refine wpo_skip rfl rfl rfl ?_
        refine wpo_skip rfl rfl rfl ?_
        refine wpo_mv (a := (eB false)) rfl rfl rfl (o_pick_f tk rfl rfl (Wk.refl _)) ?_
        refine wpo_mv (a := (eB false)) rfl rfl rfl (o_mv tk rfl (Wk.refl _)) ?_
        refine wpo_skip rfl rfl rfl ?_
        refine wpo_skip rfl rfl rfl ?_
        refine wpo_mv (a := (eB false)) rfl rfl rfl (o_pick_f tk rfl rfl (Wk.refl _)) ?_
        refine wpo_mv (a := (eB false)) rfl rfl rfl (o_mv tk rfl (Wk.refl _)) ?_
        refine wpo_skip rfl rfl rfl ?_
        refine wpo_skip rfl rfl rfl ?_
        refine wpo_mv (a := (eB false)) rfl rfl rfl (o_pick_f tk rfl rfl (Wk.refl _)) ?_
        refine wpo_mv (a := (eB false)) rfl rfl rfl (o_mv tk rfl (Wk.refl _)) ?_
        refine wpo_skip rfl rfl rfl ?_
        refine wpo_skip rfl rfl rfl ?_
        refine wpo_skip rfl rfl rfl ?_
        refine wpo_mv (a := (eB false)) rfl rfl rfl (o_pick_f tk rfl rfl (Wk.refl _)) ?_
        refine wpo_mv (a := (eB false)) rfl rfl rfl (o_mv tk rfl (Wk.refl _)) ?_
        refine wpo_skip rfl rfl rfl ?_
        refine wpo_skip rfl rfl rfl ?_
        refine wpo_skip rfl rfl rfl ?_
        refine wpo_mv (a := (eB false)) rfl rfl rfl (o_pick_f tk rfl rfl (Wk.refl _)) ?_
        refine wpo_mv (a := (eB false)) rfl rfl rfl (o_as tk rfl (Wk.refl _)) ?_
        refine wpo_nil ?_
        refine awp_ret ?_
        obtain rfl := Option.some.inj H46
        exact ⟨_, (eB false), rfl, (.of_eq rfl), .of_eq ((enc_b td4 sz4).cut _ _ _), ((((hH.noT.drop n39).drop n19).drop n10).drop n4)⟩
    · subst hb
      refine wpo_skip rfl rfl rfl ?_
      refine wpo_skip rfl rfl rfl ?_
      refine wpo_mv (a := (eB false)) rfl rfl rfl (o_pick_f tk rfl rfl (Wk.refl _)) ?_
      refine wpo_mv (a := (eB false)) rfl rfl rfl (o_mv tk rfl (Wk.refl _)) ?_
      refine wpo_skip rfl rfl rfl ?_
      refine wpo_skip rfl rfl rfl ?_
      refine wpo_skip rfl rfl rfl ?_
      refine wpo_mv (a := (eB false)) rfl rfl rfl (o_pick_f tk rfl rfl (Wk.refl _)) ?_
      refine wpo_mv (a := (eB false)) rfl rfl rfl (o_mv tk rfl (Wk.refl _)) ?_
      refine wpo_skip rfl rfl rfl ?_
      refine wpo_skip rfl rfl rfl ?_
      refine wpo_skip rfl rfl rfl ?_
      refine wpo_mv (a := (eB false)) rfl rfl rfl (o_pick_f tk rfl rfl (Wk.refl _)) ?_
      refine wpo_mv (a := (eB false)) rfl rfl rfl (o_mv tk rfl (Wk.refl _)) ?_
      refine wpo_skip rfl rfl rfl ?_
      refine wpo_skip rfl rfl rfl ?_
      refine wpo_mv (a := (eB false)) rfl rfl rfl (o_pick_f tk rfl rfl (Wk.refl _)) ?_
      refine wpo_mv (a := (eB false)) rfl rfl rfl (o_mv tk rfl (Wk.refl _)) ?_
      refine wpo_skip rfl rfl rfl ?_
      refine wpo_skip rfl rfl rfl ?_
      refine wpo_mv (a := (eB false)) rfl rfl rfl (o_pick_f tk rfl rfl (Wk.refl _)) ?_
      refine wpo_mv (a := (eB false)) rfl rfl rfl (o_mv tk rfl (Wk.refl _)) ?_
      refine wpo_skip rfl rfl rfl ?_
      refine wpo_skip rfl rfl rfl ?_
      refine wpo_skip rfl rfl rfl ?_
      refine wpo_mv (a := (eB false)) rfl rfl rfl (o_pick_f tk rfl rfl (Wk.refl _)) ?_
      refine wpo_mv (a := (eB false)) rfl rfl rfl (o_mv tk rfl (Wk.refl _)) ?_
      refine wpo_skip rfl rfl rfl ?_
      refine wpo_skip rfl rfl rfl ?_
      refine wpo_skip rfl rfl rfl ?_
      refine wpo_mv (a := (eB false)) rfl rfl rfl (o_pick_f tk rfl rfl (Wk.refl _)) ?_
      refine wpo_mv (a := (eB false)) rfl rfl rfl (o_as tk rfl (Wk.refl _)) ?_
      refine wpo_nil ?_
      refine awp_ret ?_
      obtain rfl := Option.some.inj H43
      exact ⟨_, (eB false), rfl, (.of_eq rfl), .of_eq ((enc_b td4 sz4).cut _ _ _), ((((hH.noT.drop n39).drop n19).drop n10).drop n4)⟩
end Go.Proofs.YtgfedohhkbmobaaDoor
namespace Go.Proofs.YtgfedohhkbmobaaDoor
open Go Go.Va
set_option linter.unusedVariables false
set_option linter.unusedSimpArgs false
set_option maxRecDepth 20000
theorem butteryref02_Same_ok {x0 : List (BitVec 8)} {x1 : List (BitVec 8)} {r : Bool} (H : butteryref02_Same x0 x1 = some r) (σ : St)  : ACall Tryd.prog 15 [((eL 1 (@eU .u8 8)) x0), ((eL 1 (@eU .u8 8)) x1)] σ (fun a τ => a = eB r ∧ τ = σ) := by
  unfold butteryref02_Same at H
  refine ACall.pure (acall_start tk Tryd.func15 (by decide) rfl (Nat.le_of_ble_eq_true rfl) ?_)
  have hH := Holds.init σ
  refine awp_seq ?_
  refine awp_region rfl ?_
  refine wpo_mv (a := (eB false)) rfl rfl rfl (o_as tk rfl (Wk.refl _)) ?_
  refine wpo_nil ?_
  refine awp_seq ?_
  refine awp_seq ?_
  refine awp_region rfl ?_
  refine wpo_mv (a := ((eL 1 (@eU .u8 8)) x0)) rfl rfl rfl (o_mv tk rfl (Wk.refl _)) ?_
  refine wpo_lt H eI rfl rfl rfl (o_len tk td22 rfl) fun v2 H1 => ?_
  refine wpo_mv (a := ((eL 1 (@eU .u8 8)) x1)) rfl rfl rfl (o_mv tk rfl (Wk.refl _)) ?_
  refine wpo_lt H1 eI rfl rfl rfl (o_len tk td22 rfl) fun v4 H3 => ?_
  refine wpo_lt H3 eB rfl rfl rfl (o_ar tk rfl rfl rfl) fun v6 H5 => ?_
  refine wpo_nil ?_
  refine awp_if H5 rfl (fun H7 => ?_) (fun H7 => ?_)
  · refine awp_seq ?_
    refine awp_region rfl ?_
    refine wpo_mv (a := (eB false)) rfl rfl rfl (o_as tk rfl (Wk.refl _)) ?_
    refine wpo_nil ?_
    refine awp_ret ?_
    obtain rfl := Option.some.inj H7
    exact ⟨_, (eB false), rfl, (.of_eq rfl), .of_eq ((enc_b td4 sz4).cut _ _ _), hH.noT⟩
  · refine awp_skip ?_
    refine awp_seq ?_
    refine awp_seq ?_
    refine awp_region rfl ?_
    refine wpo_mv (a := (eI (0 : Int))) rfl rfl rfl (o_as tk rfl (Wk.refl _)) ?_
    refine wpo_nil ?_
    refine awp_block ?_
    obtain ⟨o9, hs10, hj11⟩ := Option.bind_eq_some_iff.1 H7
    refine awp_cutx 0 (fun fr τ => ∃ s16 : Unit, o9 = .inl s16 ∧ WkF fr (fm []) ∧ Holds σ [] [] τ) ?_ ?_
    · rintro fr τ ⟨s16, rfl, hfr, hH⟩
      have H33 := hj11
      simp only [Sum.elim_inl] at H33
      refine AWP.fm [] hfr ?_
      refine awp_seq ?_
      refine awp_region rfl ?_
      refine wpo_mv (a := (eB true)) rfl rfl rfl (o_as tk rfl (Wk.refl _)) ?_
      refine wpo_nil ?_
      refine awp_ret ?_
      obtain rfl := Option.some.inj H33
      exact ⟨_, (eB true), rfl, (.of_eq rfl), .of_eq ((enc_b td4 sz4).cut _ _ _), hH.noT⟩
    · refine awp_loopO (body := fun s => butteryref02_Same_b0 x0 x1 s) hs10 (fun (s : Int) fr τ => WkF fr (fm [(0, ((eL 1 (@eU .u8 8)) x0)), (1, ((eL 1 (@eU .u8 8)) x1)), (5, (eI s))]) ∧ Holds σ [] [] τ) ⟨(wkf_cons (.of_eq rfl) (wkf_cons (.of_eq rfl) (wkf_cons (.of_eq rfl) (wkf_nil _)))), hH⟩ ?_
      rintro c8 fr τ y12 ⟨hfr, hH⟩ hb14 hy15
      have H17 : butteryref02_Same_b0 x0 x1 c8 = some y12 := hb14
      unfold butteryref02_Same_b0 at H17
      refine AWP.fm [(0, ((eL 1 (@eU .u8 8)) x0)), (1, ((eL 1 (@eU .u8 8)) x1)), (5, (eI c8))] hfr ?_
      have hH : Holds σ [] [] τ := hH
      refine awp_seq ?_
      refine awp_seq ?_
      refine awp_region rfl ?_
      refine wpo_mv (a := (eI c8)) rfl rfl rfl (o_mv tk rfl (Wk.refl _)) ?_
      refine wpo_mv (a := ((eL 1 (@eU .u8 8)) x0)) rfl rfl rfl (o_mv tk rfl (Wk.refl _)) ?_
      refine wpo_lt H17 eI rfl rfl rfl (o_len tk td22 rfl) fun v19 H18 => ?_
      refine wpo_lt H18 eB rfl rfl rfl (o_ar tk rfl rfl rfl) fun v21 H20 => ?_
      refine wpo_nil ?_
      refine awp_if H20 rfl (fun H22 => ?_) (fun H22 => ?_)
      · refine awp_skip ?_
        refine awp_seq ?_
        refine awp_block ?_
        refine awp_seq ?_
        refine awp_drawS mixed [] rfl (by decide +kernel) rfl rfl ?_
        refine wpdS_mv (a := ((eL 1 (@eU .u8 8)) x0)) rfl rfl rfl (o_mv tk rfl (Wk.refl _)) ?_
        refine wpdS_mv (a := (eI c8)) rfl rfl rfl (o_mv tk rfl (Wk.refl _)) ?_
        refine wpdS_bd H22 (fun y => .fptr ((@eU .u8 8) y).cells 0) rfl rfl rfl (fun v24 hv => o_ixa tk hv td22 (enc_u td5 sz5) rfl rfl) fun v24 hv24 H23 => ?_
        refine wpdS_mv (a := ((@eU .u8 8) v24)) rfl rfl rfl (o_ld_e tk (enc_u td5 sz5) rfl rfl) ?_
        refine wpdS_mv (a := ((eL 1 (@eU .u8 8)) x1)) rfl rfl rfl (o_mv tk rfl (Wk.refl _)) ?_
        refine wpdS_mv (a := (eI c8)) rfl rfl rfl (o_mv tk rfl (Wk.refl _)) ?_
        refine wpdS_bd H23 (fun y => .fptr ((@eU .u8 8) y).cells 0) rfl rfl rfl (fun v26 hv => o_ixa tk hv td22 (enc_u td5 sz5) rfl rfl) fun v26 hv26 H25 => ?_
        refine wpdS_mv (a := ((@eU .u8 8) v26)) rfl rfl rfl (o_ld_e tk (enc_u td5 sz5) rfl rfl) ?_
        refine wpdS_lt H25 eB rfl rfl rfl (o_neq_u tk rfl rfl) fun v28 H27 => ?_
        refine wpdS_nil ?_
        refine awp_if H27 rfl (fun H29 => ?_) (fun H29 => ?_)
        · refine awp_seq ?_
          refine awp_region rfl ?_
          refine wpo_mv (a := (eB false)) rfl rfl rfl (o_as tk rfl (Wk.refl _)) ?_
          refine wpo_nil ?_
          refine awp_ret ?_
          have hz := hy15 _ (inj_inr H29)
          refine ⟨⟨_, inj_inr H29⟩, ?_⟩
          rw [← hz] at hj11
          have H30 := (show some _ = some _ from hj11)
          obtain rfl := Option.some.inj H30
          exact ⟨_, (eB false), rfl, (.of_eq rfl), .of_eq ((enc_b td4 sz4).cut _ _ _), hH.noT⟩
        · refine awp_skip ?_
          refine awp_region rfl ?_
          refine wpo_mv (a := (eI c8)) rfl rfl rfl (o_mv tk rfl (Wk.refl _)) ?_
          refine wpo_lt H29 eI rfl rfl rfl (o_ar tk rfl rfl rfl) fun v32 H31 => ?_
          refine wpo_mv (a := (eI v32)) rfl rfl rfl (o_as tk rfl (Wk.refl _)) ?_
          refine wpo_nil ?_
          exact ⟨v32, inj_inl H31, (wkf_cons (.of_eq rfl) (wkf_cons (.of_eq rfl) (wkf_cons (.of_eq rfl) (wkf_nil _)))), hH⟩
      · refine awp_exit ?_
        have hz := hy15 _ (inj_inr H22)
        exact ⟨⟨_, inj_inr H22⟩, (), hz.symm, (wkf_nil _), hH⟩
end Go.Proofs.YtgfedohhkbmobaaDoor
namespace Go.Proofs.YtgfedohhkbmobaaDoor
open Go Go.Va
set_option linter.unusedVariables false
set_option linter.unusedSimpArgs false
set_option maxRecDepth 20000
theorem butteryref05_Check_ok {x0 : api_Leaf} {r : Int} (H : butteryref05_Check x0 = some r) (σ : St)  : ACall Tryd.prog 18 [(e_api_Leaf x0)] σ (fun a τ => a = eI r ∧ τ = σ) := by
  unfold butteryref05_Check at H
  refine ACall.pure (acall_start tk Tryd.func18 (by decide) rfl (Nat.le_of_ble_eq_true rfl) ?_)
  have hH := Holds.init σ
  refine awp_seq ?_
  refine awp_region rfl ?_
  refine wpo_mv (a := (.fptr (c_api_Leaf x0) 0)) rfl rfl rfl (o_boxf tk rfl (.of_eq rfl) (b := (e_api_Leaf x0)) (enc24.flat _)) ?_
  refine wpo_mv (a := (eI (0 : Int))) rfl rfl rfl (o_as tk rfl (Wk.refl _)) ?_
  refine wpo_nil ?_
  refine awp_seq ?_
  refine awp_seq ?_
  obtain ⟨s1, hs3, hj4⟩ := Option.bind_eq_some_iff.1 H
  refine awp_cutn (fun fr τ => WkF fr (fm [(1, (.fptr (c_api_Leaf x0) 0)), (10, (eB s1))]) ∧ Holds σ [] [] τ) ?_ ?_
  · rintro fr τ ⟨hfr, hH⟩
    have H10 := hj4
    refine AWP.fm [(1, (.fptr (c_api_Leaf x0) 0)), (10, (eB s1))] hfr ?_
    refine awp_if H10 rfl (fun H11 => ?_) (fun H11 => ?_)
    · refine awp_seq ?_
      refine awp_region rfl ?_
      refine wpo_mv (a := (eI (2 : Int))) rfl rfl rfl (o_as tk rfl (Wk.refl _)) ?_
      refine wpo_nil ?_
      refine awp_ret ?_
      obtain rfl := Option.some.inj H11
      exact ⟨_, (eI (2 : Int)), rfl, (.of_eq rfl), .of_eq ((enc_i64 td30 sz30).cut _ _ _), hH.noT⟩
    · refine awp_skip ?_
      refine awp_seq ?_
      refine awp_seq ?_
      obtain ⟨s12, hs14, hj15⟩ := Option.bind_eq_some_iff.1 H11
      refine awp_cutn (fun fr τ => WkF fr (fm [(1, (.fptr (c_api_Leaf x0) 0)), (18, (eB s12))]) ∧ Holds σ [] [] τ) ?_ ?_
      · rintro fr τ ⟨hfr, hH⟩
        have H21 := hj15
        refine AWP.fm [(1, (.fptr (c_api_Leaf x0) 0)), (18, (eB s12))] hfr ?_
        refine awp_if H21 rfl (fun H22 => ?_) (fun H22 => ?_)
        · refine awp_seq ?_
          refine awp_region rfl ?_
          refine wpo_mv (a := (eI (12 : Int))) rfl rfl rfl (o_as tk rfl (Wk.refl _)) ?_
          refine wpo_nil ?_
          refine awp_ret ?_
          obtain rfl := Option.some.inj H22
          exact ⟨_, (eI (12 : Int)), rfl, (.of_eq rfl), .of_eq ((enc_i64 td30 sz30).cut _ _ _), hH.noT⟩
        · refine awp_skip ?_
          refine awp_seq ?_
          refine awp_seq ?_
          refine awp_region rfl ?_
          refine wpo_mv (a := (.fptr (c_api_Leaf x0) 2)) rfl rfl rfl (o_c tk false rfl (fun _ => rfl)) ?_
          refine wpo_mv (a := ((eL 1 (@eU .u8 8)) x0.Bytes)) rfl rfl rfl (o_ld tk rfl rfl) ?_
          refine wpo_lt H22 eI rfl rfl rfl (o_len tk td22 rfl) fun v24 H23 => ?_
          refine wpo_lt H23 eB rfl rfl rfl (o_ar tk rfl rfl rfl) fun v26 H25 => ?_
          refine wpo_nil ?_
          refine awp_if H25 rfl (fun H27 => ?_) (fun H27 => ?_)
          · refine awp_seq ?_
            refine awp_region rfl ?_
            refine wpo_mv (a := (eI (3 : Int))) rfl rfl rfl (o_as tk rfl (Wk.refl _)) ?_
            refine wpo_nil ?_
            refine awp_ret ?_
            obtain rfl := Option.some.inj H27
            exact ⟨_, (eI (3 : Int)), rfl, (.of_eq rfl), .of_eq ((enc_i64 td30 sz30).cut _ _ _), hH.noT⟩
          · refine awp_skip ?_
            refine awp_seq ?_
            refine awp_region rfl ?_
            refine wpo_mv (a := (eI (0 : Int))) rfl rfl rfl (o_as tk rfl (Wk.refl _)) ?_
            refine wpo_nil ?_
            refine awp_ret ?_
            obtain rfl := Option.some.inj H27
            exact ⟨_, (eI (0 : Int)), rfl, (.of_eq rfl), .of_eq ((enc_i64 td30 sz30).cut _ _ _), hH.noT⟩
      · refine awp_region rfl ?_
        refine wpo_mv (a := (.fptr (c_api_Leaf x0) 1)) rfl rfl rfl (o_c tk false rfl (fun _ => rfl)) ?_
        refine wpo_mv (a := (eI x0.Kind)) rfl rfl rfl (o_ld tk rfl rfl) ?_
        refine wpo_lt hs14 eB rfl rfl rfl (o_ar tk rfl rfl rfl) fun v17 H16 => ?_
        refine wpo_mv (a := (eB v17)) rfl rfl rfl (o_mv tk rfl (Wk.refl _)) ?_
        refine if_split H16 (fun hb H18 => ?_) (fun hb H18 => ?_)
        · subst hb
          refine wpo_skip rfl rfl rfl ?_
          refine wpo_skip rfl rfl rfl ?_
          refine wpo_skip rfl rfl rfl ?_
          refine wpo_mv (a := (eB true)) rfl rfl rfl (o_pick_t tk rfl rfl (Wk.refl _)) ?_
          refine wpo_nil ?_
          have e := Option.some.inj H18
          subst e
          exact ⟨(wkf_cons (.of_eq rfl) (wkf_cons (.of_eq rfl) (wkf_nil _))), hH⟩
        · subst hb
          refine wpo_mv (a := (.fptr (c_api_Leaf x0) 1)) rfl rfl rfl (o_c tk false rfl (fun _ => rfl)) ?_
          refine wpo_mv (a := (eI x0.Kind)) rfl rfl rfl (o_ld tk rfl rfl) ?_
          refine wpo_lt H18 eB rfl rfl rfl (o_ar tk rfl rfl rfl) fun v20 H19 => ?_
          refine wpo_mv (a := (eB v20)) rfl rfl rfl (o_pick_f tk rfl rfl (Wk.refl _)) ?_
          refine wpo_nil ?_
          have e := Option.some.inj H19
          subst e
          exact ⟨(wkf_cons (.of_eq rfl) (wkf_cons (.of_eq rfl) (wkf_nil _))), hH⟩
  · refine awp_region rfl ?_
    refine wpo_mv (a := (.fptr (c_api_Leaf x0) 0)) rfl rfl rfl (o_c tk false rfl (fun _ => rfl)) ?_
    refine wpo_mv (a := (eI x0.Stamp)) rfl rfl rfl (o_ld tk rfl rfl) ?_
    refine wpo_lt hs3 eB rfl rfl rfl (o_ar tk rfl rfl rfl) fun v6 H5 => ?_
    refine wpo_mv (a := (eB v6)) rfl rfl rfl (o_mv tk rfl (Wk.refl _)) ?_
    refine if_split H5 (fun hb H7 => ?_) (fun hb H7 => ?_)
    · subst hb
      refine wpo_skip rfl rfl rfl ?_
      refine wpo_skip rfl rfl rfl ?_
      refine wpo_skip rfl rfl rfl ?_
      refine wpo_mv (a := (eB true)) rfl rfl rfl (o_pick_t tk rfl rfl (Wk.refl _)) ?_
      refine wpo_nil ?_
      have e := Option.some.inj H7
      subst e
      exact ⟨(wkf_cons (.of_eq rfl) (wkf_cons (.of_eq rfl) (wkf_nil _))), hH⟩
    · subst hb
      refine wpo_mv (a := (.fptr (c_api_Leaf x0) 0)) rfl rfl rfl (o_c tk false rfl (fun _ => rfl)) ?_
      refine wpo_mv (a := (eI x0.Stamp)) rfl rfl rfl (o_ld tk rfl rfl) ?_
      refine wpo_lt H7 eB rfl rfl rfl (o_ar tk rfl rfl rfl) fun v9 H8 => ?_
      refine wpo_mv (a := (eB v9)) rfl rfl rfl (o_pick_f tk rfl rfl (Wk.refl _)) ?_
      refine wpo_nil ?_
      have e := Option.some.inj H8
      subst e
      exact ⟨(wkf_cons (.of_eq rfl) (wkf_cons (.of_eq rfl) (wkf_nil _))), hH⟩
end Go.Proofs.YtgfedohhkbmobaaDoor
namespace Go.Proofs.YtgfedohhkbmobaaDoor
open Go Go.Va
set_option linter.unusedVariables false
set_option linter.unusedSimpArgs false
set_option maxRecDepth 20000
theorem butterylaw05_LeafFresh_ok {x0 : api_Leaf} {x1 : BitVec 16} {r : Bool} (H : butterylaw05_LeafFresh x0 x1 = some r) (σ : St)  (hg : σ.gl = gls) : ACall Tryd.prog 7 [(e_api_Leaf x0), ((@eU .u16 16) x1)] σ (fun a τ => a = eB r ∧ τ = σ) := by
  unfold butterylaw05_LeafFresh at H
  refine ACall.pure (acall_start tk Tryd.func7 (by decide) rfl (Nat.le_of_ble_eq_true rfl) ?_)
  have hH := Holds.init σ
  refine awp_seq ?_
  refine awp_region rfl ?_
  refine wpo_mv (a := (.fptr (c_api_Leaf x0) 0)) rfl rfl rfl (o_boxf tk rfl (.of_eq rfl) (b := (e_api_Leaf x0)) (enc24.flat _)) ?_
  refine wpo_mv (a := (eB false)) rfl rfl rfl (o_as tk rfl (Wk.refl _)) ?_
  refine wpo_nil ?_
  refine awp_seq ?_
  refine awp_seq ?_
  refine awp_region rfl ?_
  refine wpo_mv (a := (e_api_Leaf x0)) rfl rfl rfl (o_ld tk rfl rfl) ?_
  refine wpo_bd H eI rfl rfl rfl (fun v2 hv => OpP.of_call rfl rfl (.cons (.of_eq rfl) .nil) (butteryref05_Check_ok hv)) fun v2 hv2 H1 => ?_
  refine wpo_lt H1 eB rfl rfl rfl (o_ar tk rfl rfl rfl) fun v4 H3 => ?_
  refine wpo_nil ?_
  refine awp_if H3 rfl (fun H5 => ?_) (fun H5 => ?_)
  · refine awp_seq ?_
    refine awp_region rfl ?_
    refine wpo_bdr H5 eB rfl rfl rfl (fun v7 hv => h_callr rfl rfl .nil (butterylaw05_works_ok hv _ (hH.gl.trans hg))) fun v7 hv7 H6 => ?_
    refine wpo_mv (a := (eB v7)) rfl rfl rfl (o_as tk rfl (Wk.refl _)) ?_
    refine wpo_nil ?_
    refine awp_ret ?_
    obtain rfl := Option.some.inj H6
    exact ⟨_, (eB v7), rfl, (.of_eq rfl), .of_eq ((enc_b td4 sz4).cut _ _ _), hH.noT⟩
  · refine awp_skip ?_
    refine awp_seq ?_
    refine awp_region rfl ?_
    refine wpo_mv (a := (e_api_Leaf x0)) rfl rfl rfl (o_ld tk rfl rfl) ?_
    refine wpo_bd H5 (fun r => .tup [(eL 1 (@eU .u8 8)) r.1, eErr r.2]) rfl rfl rfl (fun v9 hv => OpP.of_call rfl rfl (.cons (.of_eq rfl) .nil) (leaf_Put_ok hv)) fun v9 hv9 H8 => ?_
    refine wpo_mv (a := (.tup [((eL 1 (@eU .u8 8)) v9.1), (eErr v9.2)])) rfl rfl rfl (o_mv tk rfl (Wk.refl _)) ?_
    refine wpo_mv (a := ((eL 1 (@eU .u8 8)) v9.1)) rfl rfl rfl (o_ext tk rfl rfl) ?_
    refine wpo_mv (a := (eErr v9.2)) rfl rfl rfl (o_ext tk rfl rfl) ?_
    refine wpo_mv (a := ((eL 1 (@eU .u8 8)) v9.1)) rfl rfl rfl (o_as tk rfl (Wk.refl _)) ?_
    refine wpo_mv (a := (eErr v9.2)) rfl rfl rfl (o_as tk rfl (Wk.refl _)) ?_
    refine wpo_nil ?_
    refine awp_seq ?_
    refine awp_seq ?_
    obtain ⟨s10, hs12, hj13⟩ := Option.bind_eq_some_iff.1 H8
    refine awp_cutn (fun fr τ => WkF fr (fm [(1, ((@eU .u16 16) x1)), (5, ((eL 1 (@eU .u8 8)) v9.1)), (26, (eB s10))]) ∧ Holds σ [] [] τ) ?_ ?_
    · rintro fr τ ⟨hfr, hH⟩
      have H21 := hj13
      refine AWP.fm [(1, ((@eU .u16 16) x1)), (5, ((eL 1 (@eU .u8 8)) v9.1)), (26, (eB s10))] hfr ?_
      refine awp_if H21 rfl (fun H22 => ?_) (fun H22 => ?_)
      · refine awp_seq ?_
        refine awp_region rfl ?_
        refine wpo_mv (a := (eB false)) rfl rfl rfl (o_as tk rfl (Wk.refl _)) ?_
        refine wpo_nil ?_
        refine awp_ret ?_
        obtain rfl := Option.some.inj H22
        exact ⟨_, (eB false), rfl, (.of_eq rfl), .of_eq ((enc_b td4 sz4).cut _ _ _), hH.noT⟩
      · refine awp_skip ?_
        refine awp_seq ?_
        refine awp_region rfl ?_
        refine wpo_mv (a := ((@eU .u16 16) x1)) rfl rfl rfl (o_mv tk rfl (Wk.refl _)) ?_
        refine wpo_lt H22 eI rfl rfl rfl (o_cv_ui tk td46 td3 (by decide) rfl) fun v24 H23 => ?_
        refine wpo_lt H23 eI rfl rfl rfl (o_rem tk (z := (257 : Int)) rfl rfl rfl) fun v26 H25 => ?_
        refine wpo_mv (a := (eI v26)) rfl rfl rfl (o_as tk rfl (Wk.refl _)) ?_
        refine wpo_nil ?_
        refine awp_seq ?_
        refine awp_region rfl ?_
        refine wpo_mv (a := (eF 1 (@eU .u8 8) ([] : List (BitVec 8)))) rfl rfl rfl (o_c tk false rfl (fun _ => rfl)) ?_
        refine wpo_mv (a := ((eL 1 (@eU .u8 8)) v9.1)) rfl rfl rfl (o_mv tk rfl (Wk.refl _)) ?_
        refine wpo_mv (a := (eI v26)) rfl rfl rfl (o_mv tk rfl (Wk.refl _)) ?_
        refine wpo_bd H25 (eL 1 (@eU .u8 8)) rfl rfl rfl (fun v28 hv => o_cutTo tk hv td22 (enc_u td5 sz5) rfl rfl) fun v28 hv28 H27 => ?_
        obtain ⟨v30, hv31, H29⟩ := Option.bind_eq_some_iff.1 H27
        refine wpo_a (av := fun t => eT t 1 (@eU .u8 8) v30) rfl rfl rfl (h_app0 tk hH hv31 td22 ty5 rfl (by decide) (.inr rfl) (src_l td22 rfl)) fun tk32 τ hH => ?_
        refine wpo_mv (a := (eI v26)) rfl rfl rfl (o_mv tk rfl (Wk.refl _)) ?_
        refine wpo_lt H29 eI rfl rfl rfl (o_ar tk rfl rfl rfl) fun v34 H33 => ?_
        obtain ⟨v36, hv37, H35⟩ := Option.bind_eq_some_iff.1 H33
        obtain ⟨whv37, hwhv37, hv37b⟩ := Option.bind_eq_some_iff.1 hv37
        refine wpo_a (av := fun t => eT t 1 (@eU .u8 8) v36) rfl rfl rfl (h_appz tk hH 0 hwhv37 hv37b rfl td22 ty5 rfl rfl rfl td3 td9 rfl rfl) fun tk38 τ hH => ?_
        refine wpo_mv (a := (eT tk38 1 (@eU .u8 8) v36)) rfl rfl rfl (o_as tk rfl (Wk.refl _)) ?_
        refine wpo_nil ?_
        refine awp_seq ?_
        refine awp_region rfl ?_
        refine wpo_mv (a := (eT tk38 1 (@eU .u8 8) v36)) rfl rfl rfl (o_mv tk rfl (Wk.refl _)) ?_
        refine wpo_bd H35 (fun r => .tup [e_api_Leaf r.1, eErr r.2]) rfl rfl rfl (fun v40 hv => OpP.of_call rfl rfl (.cons wk_no .nil) (leaf_Get_ok hv)) fun v40 hv40 H39 => ?_
        refine wpo_mv (a := (.tup [(e_api_Leaf v40.1), (eErr v40.2)])) rfl rfl rfl (o_mv tk rfl (Wk.refl _)) ?_
        refine wpo_mv (a := (e_api_Leaf v40.1)) rfl rfl rfl (o_ext tk rfl rfl) ?_
        refine wpo_mv (a := (eErr v40.2)) rfl rfl rfl (o_ext tk rfl rfl) ?_
        refine wpo_a (av := fun id => .ref id 0) rfl rfl rfl (h_alloc tk hH ty24 [(eI z_api_Leaf.Stamp), (eI z_api_Leaf.Kind), AV.nils] rfl) fun id41 τ ⟨hH, n42⟩ => ?_
        refine wpo_z rfl rfl (h_st tk hH 0 rfl ty24 (by simp) rfl rfl (.of_eq rfl) (b := (e_api_Leaf v40.1)) (enc24.flat _) rfl (Nat.le_of_ble_eq_true rfl) (c_api_Leaf (v40.1 : api_Leaf)) rfl) fun τ hH => ?_
        refine wpo_mv (a := (eErr v40.2)) rfl rfl rfl (o_as tk rfl (Wk.refl _)) ?_
        refine wpo_nil ?_
        refine awp_seq ?_
        refine awp_region rfl ?_
        refine wpo_mv (a := (eErr v40.2)) rfl rfl rfl (o_mv tk rfl (Wk.refl _)) ?_
        refine wpo_bdr H39 eI rfl rfl rfl (fun v45 hv => h_callr rfl rfl (.cons (.of_eq rfl) .nil) (trouble_Of_ok hv _ (hH.gl.trans hg))) fun v45 hv45 H44 => ?_
        refine wpo_lt H44 eB rfl rfl rfl (o_ar tk rfl rfl rfl) fun v47 H46 => ?_
        refine wpo_mv (a := (eB v47)) rfl rfl rfl (o_mv tk rfl (Wk.refl _)) ?_
        refine if_split H46 (fun hb H48 => ?_) (fun hb H48 => ?_)
        · subst hb
          refine wpo_skip rfl rfl rfl ?_
          refine wpo_skip rfl rfl rfl ?_
          refine wpo_skip rfl rfl rfl ?_
          refine wpo_mv (a := (eB true)) rfl rfl rfl (o_pick_t tk rfl rfl (Wk.refl _)) ?_
          refine wpo_mv (a := (eB true)) rfl rfl rfl (o_mv tk rfl (Wk.refl _)) ?_
          refine wpo_skip rfl rfl rfl ?_
          refine wpo_skip rfl rfl rfl ?_
          refine wpo_skip rfl rfl rfl ?_
          refine wpo_mv (a := (eB true)) rfl rfl rfl (o_pick_t tk rfl rfl (Wk.refl _)) ?_
          refine wpo_mv (a := (eB true)) rfl rfl rfl (o_mv tk rfl (Wk.refl _)) ?_
          refine wpo_bdr H48 eB rfl rfl rfl (fun v50 hv => h_callr rfl rfl .nil (butterylaw05_works_ok hv _ (hH.gl.trans hg))) fun v50 hv50 H49 => ?_
          refine wpo_mv (a := (eB v50)) rfl rfl rfl (o_pick_t tk rfl rfl (Wk.refl _)) ?_
          refine wpo_mv (a := (eB v50)) rfl rfl rfl (o_as tk rfl (Wk.refl _)) ?_
          refine wpo_nil ?_
          refine awp_ret ?_
          obtain rfl := Option.some.inj H49
          exact ⟨_, (eB v50), rfl, (.of_eq rfl), .of_eq ((enc_b td4 sz4).cut _ _ _), (hH.noT.drop n42)⟩
        · subst hb
          refine wpo_mv (a := (eErr v40.2)) rfl rfl rfl (o_mv tk rfl (Wk.refl _)) ?_
          refine wpo_bdr H48 eI rfl rfl rfl (fun v52 hv => h_callr rfl rfl (.cons (.of_eq rfl) .nil) (trouble_Of_ok hv _ (hH.gl.trans hg))) fun v52 hv52 H51 => ?_
          refine wpo_lt H51 eB rfl rfl rfl (o_ar tk rfl rfl rfl) fun v54 H53 => ?_
          refine wpo_mv (a := (eB v54)) rfl rfl rfl (o_pick_f tk rfl rfl (Wk.refl _)) ?_
          refine wpo_mv (a := (eB v54)) rfl rfl rfl (o_mv tk rfl (Wk.refl _)) ?_
          refine if_split H53 (fun hb H55 => ?_) (fun hb H55 => ?_)
          · subst hb
            refine wpo_skip rfl rfl rfl ?_
            refine wpo_skip rfl rfl rfl ?_
            refine wpo_skip rfl rfl rfl ?_
            refine wpo_mv (a := (eB true)) rfl rfl rfl (o_pick_t tk rfl rfl (Wk.refl _)) ?_
            refine wpo_mv (a := (eB true)) rfl rfl rfl (o_mv tk rfl (Wk.refl _)) ?_
            refine wpo_bdr H55 eB rfl rfl rfl (fun v57 hv => h_callr rfl rfl .nil (butterylaw05_works_ok hv _ (hH.gl.trans hg))) fun v57 hv57 H56 => ?_
            refine wpo_mv (a := (eB v57)) rfl rfl rfl (o_pick_t tk rfl rfl (Wk.refl _)) ?_
            refine wpo_mv (a := (eB v57)) rfl rfl rfl (o_as tk rfl (Wk.refl _)) ?_
            refine wpo_nil ?_
            refine awp_ret ?_
            obtain rfl := Option.some.inj H56
            exact ⟨_, (eB v57), rfl, (.of_eq rfl), .of_eq ((enc_b td4 sz4).cut _ _ _), (hH.noT.drop n42)⟩
          · subst hb
            refine wpo_mv (a := (eT tk38 1 (@eU .u8 8) v36)) rfl rfl rfl (o_mv tk rfl (Wk.refl _)) ?_
            refine wpo_mv (a := ((eL 1 (@eU .u8 8)) v9.1)) rfl rfl rfl (o_mv tk rfl (Wk.refl _)) ?_
            refine wpo_bd H55 eB rfl rfl rfl (fun v59 hv => OpP.of_call rfl rfl (.cons wk_no (.cons (.of_eq rfl) .nil)) (butteryref02_Same_ok hv)) fun v59 hv59 H58 => ?_
            refine wpo_mv (a := (eB v59)) rfl rfl rfl (o_pick_f tk rfl rfl (Wk.refl _)) ?_
            refine wpo_mv (a := (eB v59)) rfl rfl rfl (o_mv tk rfl (Wk.refl _)) ?_
            refine if_split H58 (fun hb H60 => ?_) (fun hb H60 => ?_)
            · subst hb
              refine wpo_bdr H60 eB rfl rfl rfl (fun v62 hv => h_callr rfl rfl .nil (butterylaw05_works_ok hv _ (hH.gl.trans hg))) fun v62 hv62 H61 => ?_
              refine wpo_mv (a := (eB v62)) rfl rfl rfl (o_pick_t tk rfl rfl (Wk.refl _)) ?_
              refine wpo_mv (a := (eB v62)) rfl rfl rfl (o_as tk rfl (Wk.refl _)) ?_
              refine wpo_nil ?_
              refine awp_ret ?_
              obtain rfl := Option.some.inj H61
              exact ⟨_, (eB v62), rfl, (.of_eq rfl), .of_eq ((enc_b td4 sz4).cut _ _ _), (hH.noT.drop n42)⟩
            · subst hb
              refine wpo_skip rfl rfl rfl ?_
              refine wpo_mv (a := (eB false)) rfl rfl rfl (o_pick_f tk rfl rfl (Wk.refl _)) ?_
              refine wpo_mv (a := (eB false)) rfl rfl rfl (o_as tk rfl (Wk.refl _)) ?_
              refine wpo_nil ?_
              refine awp_ret ?_
              obtain rfl := Option.some.inj H60
              exact ⟨_, (eB false), rfl, (.of_eq rfl), .of_eq ((enc_b td4 sz4).cut _ _ _), (hH.noT.drop n42)⟩
    · refine awp_region rfl ?_
      refine wpo_mv (a := (eErr v9.2)) rfl rfl rfl (o_mv tk rfl (Wk.refl _)) ?_
      refine wpo_lt hs12 eB rfl rfl rfl (o_err_neq tk rfl rfl rfl) fun v15 H14 => ?_
      refine wpo_mv (a := (eB v15)) rfl rfl rfl (o_mv tk rfl (Wk.refl _)) ?_
      refine if_split H14 (fun hb H16 => ?_) (fun hb H16 => ?_)
      · subst hb
        refine wpo_skip rfl rfl rfl ?_
        refine wpo_skip rfl rfl rfl ?_
        refine wpo_skip rfl rfl rfl ?_
        refine wpo_mv (a := (eB true)) rfl rfl rfl (o_pick_t tk rfl rfl (Wk.refl _)) ?_
        refine wpo_nil ?_
        have e := Option.some.inj H16
        subst e
        exact ⟨(wkf_cons (.of_eq rfl) (wkf_cons (.of_eq rfl) (wkf_cons (.of_eq rfl) (wkf_nil _)))), hH⟩
      · subst hb
        refine wpo_mv (a := ((eL 1 (@eU .u8 8)) v9.1)) rfl rfl rfl (o_mv tk rfl (Wk.refl _)) ?_
        refine wpo_lt H16 eI rfl rfl rfl (o_len tk td22 rfl) fun v18 H17 => ?_
        refine wpo_lt H17 eB rfl rfl rfl (o_ar tk rfl rfl rfl) fun v20 H19 => ?_
        refine wpo_mv (a := (eB v20)) rfl rfl rfl (o_pick_f tk rfl rfl (Wk.refl _)) ?_
        refine wpo_nil ?_
        have e := Option.some.inj H19
        subst e
        exact ⟨(wkf_cons (.of_eq rfl) (wkf_cons (.of_eq rfl) (wkf_cons (.of_eq rfl) (wkf_nil _)))), hH⟩
end Go.Proofs.YtgfedohhkbmobaaDoor
