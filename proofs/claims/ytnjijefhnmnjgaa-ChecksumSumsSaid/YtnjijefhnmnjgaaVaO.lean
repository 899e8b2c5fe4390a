/- Regions of open order as one predicate; code; loops; functions. -/
import Derived.Test.YtnjijefhnmnjgaaVaN
namespace Go.Va
open Go Go.RowKit
set_option linter.unusedVariables false
set_option linter.unusedSimpArgs false
section
variable (P : Program) (Ty : TypeId → Option TI) (mu : Option Tmp → Bool)

/-- A region of open order in which the state stays: each operation once, in the text's order. -/
def wpd0 (ops : Array Oper) (K : (Nat → AV) → St → Prop) : List Oper → (Nat → AV) → St → Prop
  | [], fr, σ => K fr σ
  | o :: rest, fr, σ => ∃ a, AStep P Ty mu ops o fr σ a σ ∧ wpd0 ops K rest (putO fr o.dst a) σ
/-- A region of open order: S: the operations that turn the state; W: the stages of the others. -/
def wpd (ops : Array Oper) (S : List Nat) (W : List (List Nat)) (K : (Nat → AV) → St → Prop) : Nat → List Oper → (Nat → AV) → List St → St → List (Nat × Oper × (Nat → AV) × AV) → Prop
  | _, [], fr, σs, σ, obl => (∀ p ∈ obl, AStep P Ty mu ops p.2.1 p.2.2.1 ((σs ++ [σ]).getD p.1 σ) p.2.2.2 ((σs ++ [σ]).getD p.1 σ)) ∧ K fr σ
  | i, o :: rest, fr, σs, σ, obl =>
    if S.contains i then ∃ a σ', AStep P Ty mu ops o fr σ a σ' ∧ wpd ops S W K (i + 1) rest (putO fr o.dst a) (σs ++ [σ]) σ' obl
    else ∃ a, AStep P Ty mu ops o fr σ a σ ∧ wpd ops S W K (i + 1) rest (putO fr o.dst a) σs σ (obl ++ (((W.getD i []).filter fun j => j != σs.length).map fun j => (j, o, fr, a)))
end

section
variable {P : Program} {Ty : TypeId → Option TI} {mu : Option Tmp → Bool} {w0 : World} {G : Ghost} {n : Nat} {a : Act} {w : World} {σ : St} {ops : Array Oper} {S : List Nat}

theorem frT_congr (fr0 : Nat → AV) {as as' : Nat → AV} : ∀ i, (∀ k, k < i → as k = as' k) → frT ops fr0 as i = frT ops fr0 as' i
  | 0, _ => rfl
  | i + 1, h => by
    simp only [frT]
    rw [frT_congr fr0 i (fun k hk => h k (by omega)), h i (by omega)]
theorem wpd0_steps {K : (Nat → AV) → St → Prop} (fr0 : Nat → AV) : ∀ (m i : Nat) (as : Nat → AV), i + m = ops.size → wpd0 P Ty mu ops K (ops.toList.drop i) (frT ops fr0 as i) σ →
    ∃ as' : Nat → AV, (∀ k, k < i → as' k = as k) ∧ K (frT ops fr0 as' ops.size) σ ∧ ∀ (k : Nat) (o : Oper), i ≤ k → ops[k]? = some o → AStep P Ty mu ops o (frT ops fr0 as' k) σ (as' k) σ
  | 0, i, as, hi, h => by
    rw [List.drop_of_length_le (by simp; omega)] at h
    have : i = ops.size := by omega
    subst this
    exact ⟨as, fun _ _ => rfl, h, fun k o hk ho => by have := (Array.getElem?_eq_some_iff.1 ho).1; omega⟩
  | m + 1, i, as, hi, h => by
    have hlt : i < ops.size := by omega
    rw [List.drop_eq_getElem_cons (by simpa using hlt)] at h
    simp only [Array.getElem_toList] at h
    obtain ⟨x, h1, h2⟩ := h
    have hd : dstAt ops i = ops[i].dst := by simp [dstAt, Array.getElem?_eq_getElem hlt]
    have e1 : frT ops fr0 (fun k => if k = i then x else as k) i = frT ops fr0 as i := frT_congr fr0 i (fun k hk => by rw [if_neg (by omega)])
    have e2 : frT ops fr0 (fun k => if k = i then x else as k) (i + 1) = putO (frT ops fr0 as i) ops[i].dst x := by
      simp only [frT]
      rw [e1, hd]
      simp
    rw [← e2] at h2
    obtain ⟨as', k1, k2, k3⟩ := wpd0_steps fr0 m (i + 1) _ (by omega) h2
    have hk : ∀ k, k < i → as' k = as k := fun k hk => by rw [k1 k (by omega), if_neg (by omega)]
    refine ⟨as', hk, k2, fun k o hik ho => ?_⟩
    by_cases hki : k = i
    · subst hki
      rw [Array.getElem?_eq_getElem hlt] at ho
      cases ho
      have : as' k = x := by rw [k1 k (by omega)]; simp
      rw [this, frT_congr fr0 k hk]
      exact h1
    · exact k3 k o (by omega) ho

/-! ### code -/
inductive AExit where
  | normal
  | exit (id : Nat)
  | ret
def ExitRel : Exit → AExit → Prop
  | .normal, .normal => True
  | .exit i, .exit j => i = j
  | .ret, .ret => True
  | _, _ => False
/-- WHAT A PIECE OF CODE DOES, abstractly. -/
def AWP (P : Program) (n : Nat) (c : Code) (Q : AExit → (Nat → AV) → St → Prop) (fr : Nat → AV) (σ : St) : Prop :=
  ∀ w0 G a w, Sim w0 G n a w fr σ → Code.wp P c (fun e a' w' => ∃ ae fr' σ' G', ExitRel e ae ∧ G.Le G' ∧ Sim w0 G' n a' w' fr' σ' ∧ Q ae fr' σ') a w
theorem AWP.mono {c : Code} {Q Q' : AExit → (Nat → AV) → St → Prop} {fr : Nat → AV} (h : AWP P n c Q fr σ) (hq : ∀ e fr σ, Q e fr σ → Q' e fr σ) : AWP P n c Q' fr σ :=
  fun w0 G a w hS => wp_mono (h w0 G a w hS) fun _ _ _ ⟨ae, fr', σ', G', h1, h2, h3, h4⟩ => ⟨ae, fr', σ', G', h1, h2, h3, hq _ _ _ h4⟩

def allDst (n : Nat) (ops : Array Oper) : Bool := ops.toList.all fun o => match o.dst with | some t => Nat.ble (t + 1) n | none => true
theorem allDst_spec (h : allDst n ops = true) (j : Nat) (o : Oper) (ho : ops[j]? = some o) : dstOk n o.dst := by
  unfold allDst at h
  rw [List.all_eq_true] at h
  have := h o (Array.mem_toList_iff.2 (Array.mem_of_getElem? ho))
  unfold dstOk
  cases hd : o.dst with
  | none => trivial
  | some t => rw [hd] at this; exact Nat.le_of_ble_eq_true this
theorem awp_region (hT : TyOk P Ty) {id : Nat} {Q : AExit → (Nat → AV) → St → Prop} {fr : Nat → AV} (hd : allDst n ops = true) (h : wpo P Ty mu n ops (Q .normal) ops.toList fr σ) : AWP P n (.region id ops false) Q fr σ := by
  intro w0 G a w hS
  refine wp_region ?_
  rw [List.range_eq_range']
  refine wpo_sound hT (allDst_spec hd) ops.size 0 G a w fr σ (by omega) hS (by simpa using h) (fun G' a' w' fr' σ' h1 h2 h3 => ⟨.normal, fr', σ', G', trivial, h1, h2, h3⟩)
theorem awp_draw (hT : TyOk P Ty) (hm : P.follows .mixedOrders = true) {id : Nat} {Q : AExit → (Nat → AV) → St → Prop} {fr : Nat → AV} (hd : allDst n ops = true) {S : List Nat} (hchk : drawChk ops S = true) (as : Nat → AV) (σs : Nat → St)
    (hin : ∀ (i j : Nat) (o : Oper), ops[i]? = some o → S[j]? = some i → AStep P Ty mu ops o (frT ops fr as i) (σs j) (as i) (σs (j + 1)))
    (hout : ∀ (i : Nat) (o : Oper), ops[i]? = some o → i ∉ S → ∀ j ∈ win ops S i, AStep P Ty mu ops o (frT ops fr as i) (σs j) (as i) (σs j))
    (hQ : Q .normal (frT ops fr as ops.size) (σs S.length)) (h0 : σs 0 = σ) : AWP P n (.region id ops true) Q fr σ := by
  intro w0 G a w hS
  refine wp_region_any hm ?_
  have hst : stg (Array.replicate ops.size false) S = 0 := by
    cases S with
    | nil => rfl
    | cons s r =>
      simp only [stg]
      rw [if_neg]
      rw [Array.getD_eq_getD_getElem?, Array.getElem?_replicate]
      split <;> simp
  refine draw_main (w0 := w0) (G := G) hT hchk (allDst_spec hd) fr as σs hin hout (fun G' a' w' h1 h2 => ⟨.normal, _, _, G', trivial, h1, h2, hQ⟩) ops.size (Array.replicate ops.size false) G a _ ?_ (by simp) ?_ (.refl G) ?_
  · exact Nat.le_trans (List.length_filter_le _ _) (by simp)
  · intro k o ho hk
    unfold Lst at hk
    rw [Array.getD_eq_getD_getElem?, Array.getElem?_replicate] at hk
    split at hk <;> simp at hk
  · rw [hst, h0]
    have hfr : frL ops fr as (Array.replicate ops.size false) = fr := by
      funext t
      unfold frL
      cases wOf ops t with
      | none => rfl
      | some k =>
        simp only []
        rw [if_neg]
        rw [Array.getD_eq_getD_getElem?, Array.getElem?_replicate]
        split <;> simp
    rw [hfr]
    exact ⟨hS.inv.drew, hS.frm, hS.size, hS.defers⟩
theorem awp_draw0 (hT : TyOk P Ty) (hm : P.follows .mixedOrders = true) {id : Nat} {Q : AExit → (Nat → AV) → St → Prop} {fr : Nat → AV} (hd : allDst n ops = true) (hchk : drawChk ops [] = true) (h : wpd0 P Ty mu ops (Q .normal) ops.toList fr σ) : AWP P n (.region id ops true) Q fr σ := by
  obtain ⟨as, _, h2, h3⟩ := wpd0_steps (P := P) (Ty := Ty) (mu := mu) (ops := ops) (σ := σ) (K := Q .normal) fr ops.size 0 (fun _ => .junk) (by omega) (by simpa [frT] using h)
  exact awp_draw hT hm hd hchk as (fun _ => σ) (fun i j o ho hj => by simp at hj) (fun i o ho _ j _ => h3 i o (Nat.zero_le _) ho) h2 rfl

/-- A loop: what holds at each round's head, and what goes down. -/
theorem awp_loop {c : Code} {Q : AExit → (Nat → AV) → St → Prop} (I : (Nat → AV) → St → Prop) (μ : (Nat → AV) → St → Nat) {fr : Nat → AV} (h0 : I fr σ)
    (h : ∀ fr σ, I fr σ → AWP P n c (fun e fr' σ' => match e with | .normal => I fr' σ' ∧ μ fr' σ' < μ fr σ | e => Q e fr' σ') fr σ) : AWP P n (.loop c) Q fr σ := by
  intro w0 G a w hS b kk cs
  have key : ∀ (k : Nat) (G' : Ghost) (a : Act) (w : World) (fr : Nat → AV) (σ : St), μ fr σ = k → G.Le G' → I fr σ → Sim w0 G' n a w fr σ → ∃ e a' w', (∃ ae fr' σ' G', ExitRel e ae ∧ G.Le G' ∧ Sim w0 G' n a' w' fr' σ' ∧ Q ae fr' σ') ∧ Arrives P (lone (b.at a (.code c :: .inLoop c :: kk)) cs w) b kk cs e a' w' := by
    intro k
    induction k using Nat.strongRecOn with
    | _ k ih =>
      intro G' a w fr σ hk hG hI hS
      obtain ⟨e, a1, w1, ⟨ae, fr', σ', G2, hr, hG2, hS2, hq⟩, harr⟩ := h fr σ hI w0 G' a w hS b (.inLoop c :: kk) cs
      cases e with
      | normal =>
        cases ae <;> simp only [ExitRel] at hr
        obtain ⟨hI2, hlt⟩ := hq
        obtain ⟨e3, a3, w3, hq3, harr3⟩ := ih (μ fr' σ') (hk ▸ hlt) G2 a1 w1 fr' σ' rfl (hG.trans hG2) hI2 hS2
        exact ⟨e3, a3, w3, hq3, .of_steps (Steps.trans harr (.one step_inLoop)) harr3⟩
      | exit id => exact ⟨_, a1, w1, ⟨ae, fr', σ', G2, hr, hG.trans hG2, hS2, by cases ae <;> simp only [ExitRel] at hr <;> exact hq⟩, .pass (x := .inLoop c) rfl (fun _ _ => .inl (by simp)) harr⟩
      | ret => exact ⟨_, a1, w1, ⟨ae, fr', σ', G2, hr, hG.trans hG2, hS2, by cases ae <;> simp only [ExitRel] at hr <;> exact hq⟩, .pass (x := .inLoop c) rfl (fun _ _ => .inl (by simp)) harr⟩
      | goto l => exact absurd hr (by cases ae <;> simp [ExitRel])
      | panic ch => exact absurd hr (by cases ae <;> simp [ExitRel])
      | outgrown => exact absurd hr (by cases ae <;> simp [ExitRel])
  obtain ⟨e, a', w', hq, harr⟩ := key _ G a w fr σ rfl (.refl G) h0 hS
  exact ⟨e, a', w', hq, .of_steps (.one step_loop) harr⟩

/-- WHAT CODE DOES, computed: loops and regions of open order stay as they are. -/
def wpc (P : Program) (Ty : TypeId → Option TI) (mu : Option Tmp → Bool) (n : Nat) : Code → (AExit → (Nat → AV) → St → Prop) → (Nat → AV) → St → Prop
  | .skip, Q, fr, σ => Q .normal fr σ
  | .region id ops draw, Q, fr, σ => if draw then AWP P n (.region id ops true) Q fr σ else (allDst n ops = true ∧ wpo P Ty mu n ops (Q .normal) ops.toList fr σ)
  | .seq a b, Q, fr, σ => wpc P Ty mu n a (fun e fr σ => match e with | .normal => wpc P Ty mu n b Q fr σ | e => Q e fr σ) fr σ
  | .cond c x y, Q, fr, σ => match aeval fr c with
    | .bool b => (b = true → wpc P Ty mu n x Q fr σ) ∧ (b = false → wpc P Ty mu n y Q fr σ)
    | _ => False
  | .block id c, Q, fr, σ => wpc P Ty mu n c (fun e fr σ => match e with | .exit i => if i = id then Q .normal fr σ else Q (.exit i) fr σ | e => Q e fr σ) fr σ
  | .loop c, Q, fr, σ => AWP P n (.loop c) Q fr σ
  | .exit id, Q, fr, σ => Q (.exit id) fr σ
  | .label _, Q, fr, σ => Q .normal fr σ
  | .ret, Q, fr, σ => Q .ret fr σ
  | _, _, _, _ => False
theorem wpc_sound (hT : TyOk P Ty) : ∀ (c : Code) (Q : AExit → (Nat → AV) → St → Prop) (fr : Nat → AV) (σ : St), wpc P Ty mu n c Q fr σ → AWP P n c Q fr σ
  | .skip, Q, fr, σ, h => fun w0 G a w hS => wp_skip ⟨.normal, fr, σ, G, trivial, .refl G, hS, h⟩
  | .region id ops draw, Q, fr, σ, h => by
    simp only [wpc] at h
    cases draw with
    | true => exact h
    | false => exact awp_region hT h.1 h.2
  | .seq x y, Q, fr, σ, h => fun w0 G a w hS => by
    simp only [wpc] at h
    refine wp_seq (wp_mono (wpc_sound hT x _ fr σ h w0 G a w hS) ?_)
    rintro e a' w' ⟨ae, fr', σ', G', hr, hG, hS', hq⟩
    cases e <;> cases ae <;> simp only [ExitRel] at hr
    · exact wp_mono (wpc_sound hT y Q fr' σ' hq w0 G' a' w' hS') fun e a2 w2 ⟨ae, fr2, σ2, G2, k1, k2, k3, k4⟩ => ⟨ae, fr2, σ2, G2, k1, hG.trans k2, k3, k4⟩
    · subst hr; exact ⟨.exit _, fr', σ', G', rfl, hG, hS', hq⟩
    · exact ⟨.ret, fr', σ', G', trivial, hG, hS', hq⟩
  | .cond c x y, Q, fr, σ, h => fun w0 G a w hS => by
    simp only [wpc] at h
    split at h
    case h_2 => exact h.elim
    rename_i b hb
    have hr := rel_aeval hS.frm c
    rw [hb] at hr
    cases hv : a.eval c <;> rw [hv] at hr <;> cases hr
    exact wp_cond_split hv (fun ht => wpc_sound hT x Q fr σ (h.1 ht) w0 G a w hS) (fun hf => wpc_sound hT y Q fr σ (h.2 hf) w0 G a w hS)
  | .block id c, Q, fr, σ, h => fun w0 G a w hS => by
    simp only [wpc] at h
    refine wp_block (wp_mono (wpc_sound hT c _ fr σ h w0 G a w hS) ?_)
    rintro e a' w' ⟨ae, fr', σ', G', hr, hG, hS', hq⟩
    cases e <;> cases ae <;> simp only [ExitRel] at hr
    · exact ⟨.normal, fr', σ', G', trivial, hG, hS', hq⟩
    · subst hr
      simp only [Exit.inBlock]
      simp only at hq
      split
      · rename_i he; rw [if_pos he] at hq; exact ⟨.normal, fr', σ', G', trivial, hG, hS', hq⟩
      · rename_i he; rw [if_neg he] at hq; exact ⟨.exit _, fr', σ', G', rfl, hG, hS', hq⟩
    · exact ⟨.ret, fr', σ', G', trivial, hG, hS', hq⟩
  | .loop c, Q, fr, σ, h => h
  | .exit id, Q, fr, σ, h => fun w0 G a w hS => wp_exit ⟨.exit id, fr, σ, G, rfl, .refl G, hS, h⟩
  | .label l, Q, fr, σ, h => fun w0 G a w hS => wp_label ⟨.normal, fr, σ, G, trivial, .refl G, hS, h⟩
  | .ret, Q, fr, σ, h => fun w0 G a w hS => wp_ret ⟨.ret, fr, σ, G, trivial, .refl G, hS, h⟩
  | .rangeFunc .., Q, fr, σ, h => h.elim
  | .scope _, Q, fr, σ, h => h.elim
  | .goto _, Q, fr, σ, h => h.elim
  | .refuse _, Q, fr, σ, h => h.elim

/-! ### functions -/
/-- A function's result. -/
def aresOne (Ty : TypeId → Option TI) (fr : Nat → AV) (σ : St) : ResultVar → Option AV
  | .tmp t => some (fr t)
  | .cell t T => aload Ty T (fr t) σ
def aresL (Ty : TypeId → Option TI) (fr : Nat → AV) (σ : St) : List ResultVar → Option (List AV)
  | [] => some []
  | r :: rs => match aresOne Ty fr σ r, aresL Ty fr σ rs with
    | some a, some l => some (a :: l)
    | _, _ => none
def ares (Ty : TypeId → Option TI) (fr : Nat → AV) (σ : St) (rs : List ResultVar) : Option AV :=
  match aresL Ty fr σ rs with
  | some [a] => some a
  | some l => some (.tup l)
  | none => none
def resF (tmps : Array Value) : ResultVar → Sem Value
  | .tmp t => pure (tmps.getD t undef)
  | .cell x t => do loadVar t (← asAddr (tmps.getD x undef))
theorem results_eq (fn : Func) (tmps : Array Value) : results fn tmps = (do let vs ← fn.results.mapM (resF tmps); pure (if h : vs.size = 1 then vs[0] else .tuple vs)) := by
  unfold results
  congr 1
theorem resF_sound (hT : TyOk P Ty) {fr : Nat → AV} (hS : Sim w0 G n a w fr σ) {r : ResultVar} {x : AV} (h : aresOne Ty fr σ r = some x) : ∃ v, (resF a.tmps r).run P w = .ok v w ∧ Rel G v x := by
  cases r with
  | tmp t =>
    simp [aresOne] at h
    subst h
    exact ⟨_, rfl, hS.frm t⟩
  | cell t T =>
    simp only [aresOne] at h
    obtain ⟨v, m1, m2⟩ := aload_sound (P := P) hT hS.inv (hS.frm t) h
    have hp : ∃ ad, a.tmps.getD t undef = .pointer (some ad) := by
      have hr := hS.frm t
      unfold aload at h
      split at h
      case h_2 => cases h
      rename_i cells off hc
      obtain ⟨b, base, news, e, _⟩ := addr_cells hS.inv hr hc
      exact ⟨_, e⟩
    obtain ⟨ad, hp⟩ := hp
    rw [hp] at m1
    refine ⟨v, ?_, m2⟩
    simp only [resF, hp]
    exact m1
theorem aresL_sound (hT : TyOk P Ty) {fr : Nat → AV} (hS : Sim w0 G n a w fr σ) : ∀ (rs : List ResultVar) (l : List AV), aresL Ty fr σ rs = some l → ∃ vs, (rs.mapM (resF a.tmps)).run P w = .ok vs w ∧ RelL G vs l
  | [], l, h => by
    simp [aresL] at h
    subst h
    exact ⟨[], by simp, RelL.nil G⟩
  | r :: rs, l, h => by
    simp only [aresL] at h
    split at h
    case h_2 => cases h
    rename_i x l' h1 h2
    simp at h
    subst h
    obtain ⟨vs, k1, k2⟩ := aresL_sound hT hS rs l' h2
    obtain ⟨v, m1, m2⟩ := resF_sound hT hS h1
    exact ⟨v :: vs, by simp only [List.mapM_cons, Sem.run_bind, Sem.run_pure, Result.andThen_ok, k1, m1], k2.cons m2⟩
theorem ares_sound (hT : TyOk P Ty) {fn : Func} {fr : Nat → AV} (hS : Sim w0 G n a w fr σ) {x : AV} (h : ares Ty fr σ fn.results.toList = some x) : ∃ v, (results fn a.tmps).run P w = .ok v w ∧ Rel G v x := by
  unfold ares at h
  rw [results_eq]
  have key : ∀ l, aresL Ty fr σ fn.results.toList = some l → ∃ vs : Array Value, (fn.results.mapM (resF a.tmps)).run P w = .ok vs w ∧ RelL G vs.toList l := by
    intro l hl
    obtain ⟨vs, k1, k2⟩ := aresL_sound hT hS _ l hl
    refine ⟨vs.toArray, ?_, by simpa using k2⟩
    rw [Array.mapM_eq_mapM_toList]
    simp [k1]
  split at h
  · rename_i y hl
    simp at h
    subst h
    obtain ⟨vs, k1, k2⟩ := key _ hl
    have h1 : vs.size = 1 := by simpa using k2.len
    obtain ⟨v, hv⟩ : ∃ v, vs = #[v] := by
      obtain ⟨l⟩ := vs
      match l, h1 with
      | [v], _ => exact ⟨v, rfl⟩
    subst hv
    exact ⟨v, by simp only [Sem.run_bind, k1, Result.andThen_ok]; rfl, k2.at_ 0 v y rfl rfl⟩
  · rename_i l hne hl
    simp at h
    subst h
    obtain ⟨vs, k1, k2⟩ := key _ hl
    have h1 : ¬ vs.size = 1 := fun h1 => by
      have : l.length = 1 := by rw [← k2.len]; simpa using h1
      obtain ⟨y, rfl⟩ := List.length_eq_one_iff.1 this
      exact hne y rfl
    refine ⟨.tuple vs, by simp only [Sem.run_bind, k1, Result.andThen_ok]; rw [dif_neg h1]; rfl, .tup vs l (by simpa using k2.len) (fun i v a e1 e2 => k2.at_ i v a (by simpa using e1) e2)⟩
  · cases h
/-- The frame at a function's begin. -/
def frame0 (args : List AV) : Nat → AV := fun t => args.getD t .junk
/-- A FUNCTION, out of its code. -/
theorem acall_intro (hT : TyOk P Ty) {g : FuncId} {fn : Func} {c : Code} {args : List AV} {K : AV → St → Prop} (mu : Option Tmp → Bool) (hf : P.funcs[g]? = some fn) (hn : fn.name ≠ "runtime.NumGoroutine") (hb : fn.body = some c) (hl : args.length ≤ fn.ntmps)
    (h : wpc P Ty mu fn.ntmps c (fun e fr σ' => match e with | .exit _ => False | _ => ∃ x, ares Ty fr σ' fn.results.toList = some x ∧ K x σ') (frame0 args) σ) : ACall P g args σ K := by
  refine ⟨⟨fn, hf, hn, by rw [hb]; rfl⟩, fun w0 G w vs hI hr => ?_⟩
  have hvl : vs.size = args.length := by simpa using hr.len
  refine calls_of_wp hf hb (wp_mono (wpc_sound hT c _ _ σ h w0 G { tmps := vs ++ Array.replicate (fn.ntmps - vs.size) undef, defers := [] } w ⟨hI, fun t => ?_, by simp; omega, rfl⟩) ?_)
  · unfold frame0
    by_cases ht : t < args.length
    · rw [List.getD_eq_getElem?_getD, List.getElem?_eq_getElem ht, Option.getD_some, Array.getD_eq_getD_getElem?, Array.getElem?_append_left (by omega)]
      obtain ⟨v, hv, hrv⟩ := hr.get (List.getElem?_eq_getElem ht)
      rw [Array.getElem?_toList] at hv
      rw [hv]
      exact hrv
    · rw [List.getD_eq_getElem?_getD, List.getElem?_eq_none (by omega)]
      exact .junk _
  · rintro e a' w' ⟨ae, fr', σ', G', hrel, hG, hS', hq⟩
    cases e <;> cases ae <;> simp only [ExitRel] at hrel
    · obtain ⟨x, hx, hk⟩ := hq
      obtain ⟨v, k1, k2⟩ := ares_sound hT hS' hx
      exact ⟨hS'.defers, v, k1, v, x, σ', G', rfl, hG, hS'.inv, k2, hk⟩
    · exact hq.elim
    · obtain ⟨x, hx, hk⟩ := hq
      obtain ⟨v, k1, k2⟩ := ares_sound hT hS' hx
      exact ⟨hS'.defers, v, k1, v, x, σ', G', rfl, hG, hS'.inv, k2, hk⟩
end
end Go.Va
