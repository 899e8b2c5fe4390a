/- Small words for a seat's own tables. -/
import Derived.Test.YtnjijefhnmnjgaaVaO
namespace Go.Va
open Go Go.RowKit
set_option linter.unusedVariables false
set_option linter.unusedSimpArgs false

def ofZero : Value → AV
  | .agg cs => .agg (cs.toList.map ofConst)
  | v => ofConst v
theorem ofConst_cells (v : Value) : (ofConst v).cells = [ofConst v] := by
  unfold ofConst
  split <;> rfl
theorem rel_single (v : Value) (h1 : v.cells = #[v]) (h2 : ofZero v = ofConst v) (G : Ghost) : RelL G v.cells.toList (ofZero v).cells := by
  rw [h1, h2, ofConst_cells]
  exact (RelL.nil G).cons (rel_ofConst G v)
theorem rel_zero (z : Value) (h : z.cells.all (·.oneCell') = true) (G : Ghost) : RelL G z.cells.toList (ofZero z).cells := by
  cases z with
  | agg cs =>
    refine ⟨by simp [Value.cells, ofZero, AV.cells], fun i v a h1 h2 => ?_⟩
    simp only [Value.cells, ofZero, AV.cells, List.getElem?_map, Option.map_eq_some_iff] at h1 h2
    obtain ⟨u, h2, rfl⟩ := h2
    rw [h1] at h2
    cases h2
    exact rel_ofConst G v
  | _ => exact rel_single _ rfl rfl G
theorem tiOk_mk {P : Program} {t : TypeId} {i : TI} (z : Value) (d : TdOk P t i.d) (h : (P.info? t).map (fun ti => (ti.size, ti.bytes, ti.zero)) = some (i.sz, i.bytes, some z)) (hz : i.zero = ofZero z) (h1 : z.cells.size = i.sz) (h2 : i.zero.cells.length = i.sz) (h3 : z.cells.all (·.oneCell') = true) : TiOk P t i := by
  refine ⟨d, ?_⟩
  cases hi : P.info? t with
  | none => rw [hi] at h; cases h
  | some ti =>
    rw [hi] at h
    simp only [Option.map_some, Option.some.injEq, Prod.mk.injEq] at h
    exact ⟨ti, z, rfl, h.1, h.2.1, h.2.2, fun G => by rw [hz]; exact rel_zero z h3 G, h1, h2, h3⟩

section
variable {P : Program} {Ty : TypeId → Option TI} {mu : Option Tmp → Bool} {n : Nat} {σ : St} {ops : Array Oper}
/-! ### one step at a time -/
theorem wpo_nil {K : (Nat → AV) → St → Prop} {fr : Nat → AV} (h : K fr σ) : wpo P Ty mu n ops K [] fr σ := h
/-- A plain operation. -/
theorem wpo_op {K : (Nat → AV) → St → Prop} {o : Oper} {rest : List Oper} {fr : Nat → AV} {a : AV} {σ' : St} {t : Tmp} (hd : o.dst = some t) (ht : Nat.ble (t + 1) n = true) (hg : o.guard = none) (hc : callOf o = none) (ha : aop Ty (mu (some t)) o (aeval fr) σ = some (a, σ')) (h : wpo P Ty mu n ops K rest (upd fr t a) σ') :
    wpo P Ty mu n ops K (o :: rest) fr σ := by
  refine ⟨by rw [hd]; exact Nat.le_of_ble_eq_true ht, ?_⟩
  have hg' : guardOf ops o fr = some true := by unfold guardOf; rw [hg]
  rw [hg']
  simp only [wpx, hc, hd, ha]
  exact h
theorem wpo_st {K : (Nat → AV) → St → Prop} {o : Oper} {rest : List Oper} {fr : Nat → AV} {a : AV} {σ' : St} (hd : o.dst = none) (hg : o.guard = none) (hc : callOf o = none) (ha : aop Ty (mu none) o (aeval fr) σ = some (a, σ')) (h : wpo P Ty mu n ops K rest fr σ') :
    wpo P Ty mu n ops K (o :: rest) fr σ := by
  refine ⟨by rw [hd]; trivial, ?_⟩
  have hg' : guardOf ops o fr = some true := by unfold guardOf; rw [hg]
  rw [hg']
  simp only [wpx, hc, hd, ha]
  exact h
/-- A call. -/
theorem wpo_call {K : (Nat → AV) → St → Prop} {o : Oper} {rest : List Oper} {fr : Nat → AV} {t : Tmp} {f : Operand} {xs : List Operand} {g : FuncId} {first cap args : List AV} {R : AV → St → Prop} (hd : o.dst = some t) (ht : Nat.ble (t + 1) n = true) (hg : o.guard = none) (hc : callOf o = some (f, xs))
    (hf : aeval fr f = .fn (.func g) first cap) (hargs : first ++ xs.map (aeval fr) ++ cap = args) (hcall : ACall P g args σ R) (h : ∀ a σ', R a σ' → wpo P Ty mu n ops K rest (upd fr t a) σ') : wpo P Ty mu n ops K (o :: rest) fr σ := by
  refine ⟨by rw [hd]; exact Nat.le_of_ble_eq_true ht, ?_⟩
  have hg' : guardOf ops o fr = some true := by unfold guardOf; rw [hg]
  rw [hg']
  simp only [wpx, hc, hf, hd, hargs]
  exact hcall.mono h
/-- A call whose result nobody keeps. -/
theorem wpo_call0 {K : (Nat → AV) → St → Prop} {o : Oper} {rest : List Oper} {fr : Nat → AV} {f : Operand} {xs : List Operand} {g : FuncId} {first cap args : List AV} {R : AV → St → Prop} (hd : o.dst = none) (hg : o.guard = none) (hc : callOf o = some (f, xs))
    (hf : aeval fr f = .fn (.func g) first cap) (hargs : first ++ xs.map (aeval fr) ++ cap = args) (hcall : ACall P g args σ R) (h : ∀ a σ', R a σ' → wpo P Ty mu n ops K rest fr σ') : wpo P Ty mu n ops K (o :: rest) fr σ := by
  refine ⟨by rw [hd]; trivial, ?_⟩
  have hg' : guardOf ops o fr = some true := by unfold guardOf; rw [hg]
  rw [hg']
  simp only [wpx, hc, hf, hd, hargs]
  exact hcall.mono h
theorem wpc_region {Q : AExit → (Nat → AV) → St → Prop} {id : Nat} {fr : Nat → AV} (hd : allDst n ops = true) (h : wpo P Ty mu n ops (Q .normal) ops.toList fr σ) : wpc P Ty mu n (.region id ops false) Q fr σ := by
  simp only [wpc, Bool.false_eq_true, if_false]
  exact ⟨hd, h⟩
theorem wpc_seq {Q : AExit → (Nat → AV) → St → Prop} {a b : Code} {fr : Nat → AV} (h : wpc P Ty mu n a (fun e fr σ => match e with | .normal => wpc P Ty mu n b Q fr σ | e => Q e fr σ) fr σ) : wpc P Ty mu n (.seq a b) Q fr σ := by
  simp only [wpc]; exact h
theorem wpc_cond {Q : AExit → (Nat → AV) → St → Prop} {c : Operand} {x y : Code} {fr : Nat → AV} {b : Bool} (hc : aeval fr c = .bool b) (h1 : b = true → wpc P Ty mu n x Q fr σ) (h2 : b = false → wpc P Ty mu n y Q fr σ) : wpc P Ty mu n (.cond c x y) Q fr σ := by
  simp only [wpc, hc]; exact ⟨h1, h2⟩
theorem wpc_block {Q : AExit → (Nat → AV) → St → Prop} {id : Nat} {c : Code} {fr : Nat → AV} (h : wpc P Ty mu n c (fun e fr σ => match e with | .exit i => if i = id then Q .normal fr σ else Q (.exit i) fr σ | e => Q e fr σ) fr σ) : wpc P Ty mu n (.block id c) Q fr σ := by
  simp only [wpc]; exact h
theorem wpc_loop {Q : AExit → (Nat → AV) → St → Prop} {c : Code} {fr : Nat → AV} (hT : TyOk P Ty) (I : (Nat → AV) → St → Prop) (μ : (Nat → AV) → St → Nat) (h0 : I fr σ)
    (h : ∀ fr σ, I fr σ → wpc P Ty mu n c (fun e fr' σ' => match e with | .normal => I fr' σ' ∧ μ fr' σ' < μ fr σ | e => Q e fr' σ') fr σ) : wpc P Ty mu n (.loop c) Q fr σ := by
  simp only [wpc]
  exact awp_loop I μ h0 (fun fr σ hI => wpc_sound hT c _ fr σ (h fr σ hI))
theorem wpc_draw0 (hT : TyOk P Ty) (hm : P.follows .mixedOrders = true) {id : Nat} {Q : AExit → (Nat → AV) → St → Prop} {fr : Nat → AV} (hd : allDst n ops = true) (hchk : drawChk ops [] = true) (h : wpd0 P Ty mu ops (Q .normal) ops.toList fr σ) : wpc P Ty mu n (.region id ops true) Q fr σ := by
  simp only [wpc, if_true]
  exact awp_draw0 hT hm hd hchk h
theorem wpd0_nil {K : (Nat → AV) → St → Prop} {fr : Nat → AV} (h : K fr σ) : wpd0 P Ty mu ops K [] fr σ := h
theorem wpd0_op {K : (Nat → AV) → St → Prop} {o : Oper} {rest : List Oper} {fr : Nat → AV} {a : AV} {t : Tmp} (hd : o.dst = some t) (hg : o.guard = none) (hc : callOf o = none) (ha : aop Ty (mu (some t)) o (aeval fr) σ = some (a, σ)) (h : wpd0 P Ty mu ops K rest (upd fr t a) σ) :
    wpd0 P Ty mu ops K (o :: rest) fr σ := by
  refine ⟨a, ?_, by rw [hd]; exact h⟩
  have hg' : guardOf ops o fr = some true := by unfold guardOf; rw [hg]
  simp only [AStep, hg', wpx, hc, hd, ha]
  exact ⟨trivial, trivial⟩
theorem wpd0_gop {K : (Nat → AV) → St → Prop} {o : Oper} {rest : List Oper} {fr : Nat → AV} {a : AV} {t : Tmp} (hd : o.dst = some t) (hg : guardOf ops o fr = some true) (hc : callOf o = none) (ha : aop Ty (mu (some t)) o (aeval fr) σ = some (a, σ)) (h : wpd0 P Ty mu ops K rest (upd fr t a) σ) :
    wpd0 P Ty mu ops K (o :: rest) fr σ := by
  refine ⟨a, ?_, by rw [hd]; exact h⟩
  simp only [AStep, hg, wpx, hc, hd, ha]
  exact ⟨trivial, trivial⟩
theorem wpd0_skip {K : (Nat → AV) → St → Prop} {o : Oper} {rest : List Oper} {fr : Nat → AV} {t : Tmp} (hd : o.dst = some t) (hg : guardOf ops o fr = some false) (h : wpd0 P Ty mu ops K rest (upd fr t .junk) σ) :
    wpd0 P Ty mu ops K (o :: rest) fr σ := by
  refine ⟨.junk, ?_, by rw [hd]; exact h⟩
  simp only [AStep, hg]
  exact ⟨trivial, trivial⟩
theorem wpd0_call {K : (Nat → AV) → St → Prop} {o : Oper} {rest : List Oper} {fr : Nat → AV} {a : AV} {t : Tmp} {f : Operand} {xs : List Operand} {g : FuncId} {first cap args : List AV} (hd : o.dst = some t) (hg : guardOf ops o fr = some true) (hc : callOf o = some (f, xs))
    (hf : aeval fr f = .fn (.func g) first cap) (hargs : first ++ xs.map (aeval fr) ++ cap = args) (hcall : ACall P g args σ (fun a' σ' => a' = a ∧ σ' = σ)) (h : wpd0 P Ty mu ops K rest (upd fr t a) σ) : wpd0 P Ty mu ops K (o :: rest) fr σ := by
  refine ⟨a, ?_, by rw [hd]; exact h⟩
  simp only [AStep, hg, wpx, hc, hf, hargs]
  exact hcall
end
end Go.Va
