/- Calls, regions in the text's order, code, functions. -/
import Derived.Test.YtnjijefhnmnjgaaVaK
import Derived.Orders
namespace Go.Va
open Go Go.RowKit
set_option linter.unusedVariables false
set_option linter.unusedSimpArgs false

/-- The function is there, and has a body. -/
def FnOk (P : Program) (g : FuncId) : Prop := ∃ fn, P.funcs[g]? = some fn ∧ fn.name ≠ "runtime.NumGoroutine" ∧ fn.body.isSome = true
/-- WHAT A CALL DOES, abstractly. -/
def ACall (P : Program) (g : FuncId) (args : List AV) (σ : St) (K : AV → St → Prop) : Prop :=
  FnOk P g ∧ ∀ w0 G w (vs : Array Value), Inv w0 G w σ → RelL G vs.toList args →
    Calls P g vs w fun e w' => ∃ v a σ' G', e = .returned v ∧ G.Le G' ∧ Inv w0 G' w' σ' ∧ Rel G' v a ∧ K a σ'
theorem ACall.mono {P : Program} {g : FuncId} {args : List AV} {σ : St} {K K' : AV → St → Prop} (h : ACall P g args σ K) (hk : ∀ a σ', K a σ' → K' a σ') : ACall P g args σ K' :=
  ⟨h.1, fun w0 G w vs hI hr => (h.2 w0 G w vs hI hr).mono fun _ _ ⟨v, a, σ', G', h1, h2, h3, h4, h5⟩ => ⟨v, a, σ', G', h1, h2, h3, h4, hk _ _ h5⟩⟩

/-- An activation and an abstract frame. -/
structure Sim (w0 : World) (G : Ghost) (n : Nat) (a : Act) (w : World) (fr : Nat → AV) (σ : St) : Prop where
  inv : Inv w0 G w σ
  frm : FrameRel G a.tmps fr
  size : a.tmps.size = n
  defers : a.defers = []
def putO (fr : Nat → AV) (d : Option Tmp) (a : AV) : Nat → AV := match d with | some t => upd fr t a | none => fr
def dstOk (n : Nat) (d : Option Tmp) : Prop := match d with | some t => t < n | none => True
theorem Sim.put {w0 : World} {G : Ghost} {n : Nat} {a : Act} {w : World} {fr : Nat → AV} {σ : St} (h : Sim w0 G n a w fr σ) {G' : Ghost} (hG : G.Le G') {w' : World} {σ' : St} (hI : Inv w0 G' w' σ') {d : Option Tmp} (hd : dstOk n d) {v : Value} {x : AV} (hv : Rel G' v x) :
    Sim w0 G' n (a.put d v) w' (putO fr d x) σ' := by
  cases d with
  | none => exact ⟨hI, h.frm.mono hG, h.size, h.defers⟩
  | some t => exact ⟨hI, (h.frm.mono hG).put (by rw [h.size]; exact hd) hv, by simp [Act.put, h.size], h.defers⟩

/-- Is the operation a call of a Go function? -/
def callOf (o : Oper) : Option (Operand × List Operand) :=
  match o.op with
  | .call c => match c.callee with
    | .value f => some (f, c.args.toList)
    | _ => none
  | _ => none
section
variable (P : Program) (Ty : TypeId → Option TI) (mu : Option Tmp → Bool)
/-- An operation that is carried out. -/
def wpx (o : Oper) (fr : Nat → AV) (σ : St) (K : AV → St → Prop) : Prop :=
  match callOf o with
  | some (f, xs) => match aeval fr f with
    | .fn (.func g) first cap => ACall P g (first ++ xs.map (aeval fr) ++ cap) σ K
    | _ => False
  | none => match aop Ty (mu o.dst) o (aeval fr) σ with
    | some (a, σ') => K a σ'
    | none => False
def guardOf (ops : Array Oper) (o : Oper) (fr : Nat → AV) : Option Bool :=
  match o.guard with
  | none => some true
  | some (j, want) => match (ops[j]?).bind (·.dst) with
    | some t => match fr t with | .bool b => some (b == want) | _ => none
    | none => none
/-- A region in the text's order. -/
def wpo (n : Nat) (ops : Array Oper) (K : (Nat → AV) → St → Prop) : List Oper → (Nat → AV) → St → Prop
  | [], fr, σ => K fr σ
  | o :: rest, fr, σ => dstOk n o.dst ∧ match guardOf ops o fr with
    | some true => wpx P Ty mu o fr σ (fun a σ' => wpo n ops K rest (putO fr o.dst a) σ')
    | some false => wpo n ops K rest (putO fr o.dst .junk) σ
    | none => False
end

section
variable {P : Program} {Ty : TypeId → Option TI} {mu : Option Tmp → Bool} {w0 : World} {G : Ghost} {n : Nat} {a : Act} {w : World} {fr : Nat → AV} {σ : St}

theorem call_run {o : Oper} {f : Operand} {xs : List Operand} (hc : callOf o = some (f, xs)) {ρ : Operand → Value} {g : FuncId} {fs cs : Array Value} (hf : ρ f = .func (.func g) fs cs) (hg : FnOk P g) (w : World) :
    (execOp ρ o).run P w = .ok (.enter g (fs ++ (xs.map ρ).toArray ++ cs)) w := by
  unfold callOf at hc
  split at hc
  case h_2 => cases hc
  rename_i c ho
  split at hc
  case h_2 => cases hc
  rename_i f' hcal
  simp at hc
  obtain ⟨rfl, rfl⟩ := hc
  obtain ⟨fn, h1, h2, h3⟩ := hg
  have hb : ¬ fn.body = none := fun hb => by rw [hb] at h3; cases h3
  have hargs : (c.args.toList.map ρ).toArray = c.args.map ρ := by apply Array.ext'; simp
  rw [hargs]
  simp [execOp, ho, resolve, hcal, Deferred.ofValue, hf, invoke, callFunc, program, Sem.run, h1, h2, hb]
theorem wanted_of {ops : Array Oper} {o : Oper} (hF : FrameRel G a.tmps fr) (hs : ∀ t, dstOk n (some t) → t < a.tmps.size) {b : Bool} (h : guardOf ops o fr = some b) (hd : ∀ j want t, o.guard = some (j, want) → (ops[j]?).bind (·.dst) = some t → t < a.tmps.size) : Region.wanted o (yielded ops a.tmps) = b := by
  unfold guardOf at h
  unfold Region.wanted
  split at h
  · rename_i hg
    rw [hg]
    simp at h; subst h; rfl
  · rename_i j want hg
    rw [hg]
    split at h
    case h_2 => cases h
    rename_i t ht
    split at h
    case h_2 => cases h
    rename_i b' hb
    simp at h; subst h
    have hr := hF t
    rw [hb] at hr
    have hlt := hd j want t hg ht
    have hv : a.tmps[t]? = some (.bool b') := by
      rw [Array.getElem?_eq_getElem hlt]
      rw [Array.getD_eq_getD_getElem?, Array.getElem?_eq_getElem hlt] at hr
      simp only [Option.getD_some] at hr
      generalize a.tmps[t] = u at hr
      cases hr
      rfl
    simp only [yielded, ht, Option.bind_some, hv]
    cases b' <;> cases want <;> rfl

theorem wpx_sound (hT : TyOk P Ty) {o : Oper} {Q : Exit → Act → World → Prop} (hS : Sim w0 G n a w fr σ) {K : AV → St → Prop} (h : wpx P Ty mu o fr σ K) (hd : dstOk n o.dst) {K' : Act → World → Prop}
    (hK : ∀ x σ' v w' G', K x σ' → G.Le G' → Inv w0 G' w' σ' → Rel G' v x → K' (a.put o.dst v) w') : o.wp P a w K' Q := by
  unfold wpx at h
  split at h
  · rename_i f xs hc
    split at h
    case h_2 => exact h.elim
    rename_i g first cap hf
    have hrf := rel_aeval hS.frm f
    rw [hf] at hrf
    cases hfv : a.eval f <;> rw [hfv] at hrf <;> cases hrf
    rename_i fs cs h1 h3 h2 h4
    unfold Oper.wp
    rw [call_run hc hfv h.1 w]
    simp only [Oper.upon]
    have hl1 : RelL G fs.toList first := ⟨by simpa using h1, fun i v a e1 e2 => h3 i v a (by simpa using e1) e2⟩
    have hl2 : RelL G cs.toList cap := ⟨by simpa using h2, fun i v a e1 e2 => h4 i v a (by simpa using e1) e2⟩
    have hl3 : RelL G (xs.map a.eval) (xs.map (aeval fr)) := ⟨by simp, fun i v x e1 e2 => by
      rw [List.getElem?_map] at e1 e2
      cases hx : xs[i]? with
      | none => rw [hx] at e1; cases e1
      | some y => rw [hx] at e1 e2; cases e1; cases e2; exact rel_aeval hS.frm y⟩
    refine (h.2 w0 G w _ hS.inv (by simpa using (hl1.append hl3).append hl2)).mono ?_
    rintro e w' ⟨v, x, σ', G', rfl, k1, k2, k3, k4⟩
    exact hK x σ' v w' G' k4 k1 k2 k3
  · split at h
    case h_2 => exact h.elim
    rename_i x σ' ha
    obtain ⟨v, w', G', k1, k2, k3, k4⟩ := aop_sound hT hS.inv (fun y => rel_aeval hS.frm y) ha
    unfold Oper.wp
    rcases k4 with k4 | ⟨k4, rfl⟩ <;> rw [k4] <;> exact hK x σ' _ w' G' h k1 k2 k3

theorem wpo_sound (hT : TyOk P Ty) {ops : Array Oper} {Q : Exit → Act → World → Prop} {K : (Nat → AV) → St → Prop} (hdst : ∀ (j : Nat) (o : Oper), ops[j]? = some o → dstOk n o.dst) :
    ∀ (k i : Nat) (G : Ghost) (a : Act) (w : World) (fr : Nat → AV) (σ : St), i + k = ops.size → Sim w0 G n a w fr σ → wpo P Ty mu n ops K (ops.toList.drop i) fr σ →
      (∀ G' a' w' fr' σ', G.Le G' → Sim w0 G' n a' w' fr' σ' → K fr' σ' → Q .normal a' w') → wpOps P ops Q (List.range' i k) a w
  | 0, i, G, a, w, fr, σ, hi, hS, h, hQ => by
    rw [List.drop_of_length_le (by simp; omega)] at h
    exact hQ G a w fr σ (.refl G) hS h
  | k + 1, i, G, a, w, fr, σ, hi, hS, h, hQ => by
    have hlt : i < ops.size := by omega
    have ho : ops[i]? = some ops[i] := Array.getElem?_eq_getElem hlt
    rw [List.drop_eq_getElem_cons (by simpa using hlt)] at h
    simp only [Array.getElem_toList] at h
    obtain ⟨hd, h⟩ := h
    rw [List.range'_succ]
    simp only [wpOps, ho]
    have hgd : ∀ (b : Bool), guardOf ops ops[i] fr = some b → Region.wanted ops[i] (yielded ops a.tmps) = b := fun b hb =>
      wanted_of (n := n) hS.frm (fun t ht => by rw [hS.size]; exact ht) hb (fun j want t _ ht => by
        cases hj : ops[j]? with
        | none => rw [hj] at ht; cases ht
        | some oj =>
          rw [hj] at ht
          have := hdst j oj hj
          simp only [Option.bind_some] at ht
          rw [ht] at this
          rw [hS.size]; exact this)
    split at h
    · rename_i hg
      rw [if_pos (hgd true hg)]
      refine .inl (wpx_sound hT hS h hd fun x σ' v w' G' hk hG hI hr => ?_)
      exact wpo_sound hT hdst k (i + 1) G' _ w' _ σ' (by omega) (hS.put hG hI hd hr) hk (fun G2 a2 w2 fr2 σ2 h1 h2 h3 => hQ G2 a2 w2 fr2 σ2 (hG.trans h1) h2 h3)
    · rename_i hg
      rw [if_neg (by rw [hgd false hg]; simp)]
      exact wpo_sound hT hdst k (i + 1) G _ w _ σ (by omega) (hS.put (.refl G) hS.inv hd (.junk _)) h hQ
    · exact h.elim
end
end Go.Va
