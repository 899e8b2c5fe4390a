/- Regions of open order in which operations turn the state. -/
import Derived.Test.YtnjijefhnmnjgaaVaR
namespace Go.Va
open Go Go.RowKit
set_option linter.unusedVariables false
set_option linter.unusedSimpArgs false

/-- How many of S stand ahead of i. -/
def cnt (S : List Nat) (i : Nat) : Nat := (S.filter fun s => Nat.blt s i).length
/-- S goes up; every operation outside of S that reads the state has one stage. -/
def srt (S : List Nat) (n : Nat) : Bool := ((List.range S.length).all fun j => cnt S (S.getD j 0) == j) && ((List.range n).all fun i => cnt S (i + 1) == (if S.contains i then cnt S i + 1 else cnt S i))
section
variable (P : Program) (Ty : TypeId → Option TI) (mu : Option Tmp → Bool)
def wpdS (ops : Array Oper) (S : List Nat) (K : (Nat → AV) → St → Prop) : Nat → List Oper → (Nat → AV) → St → Prop
  | _, [], fr, σ => K fr σ
  | i, o :: rest, fr, σ => if S.contains i = true then ∃ a σ', AStep P Ty mu ops o fr σ a σ' ∧ wpdS ops S K (i + 1) rest (putO fr o.dst a) σ'
    else ∃ a, ((∀ τ, AStep P Ty mu ops o fr τ a τ) ∨ ((win ops S i).all (· == cnt S i) = true ∧ AStep P Ty mu ops o fr σ a σ)) ∧ wpdS ops S K (i + 1) rest (putO fr o.dst a) σ
end
section
variable {P : Program} {Ty : TypeId → Option TI} {mu : Option Tmp → Bool} {w0 : World} {n : Nat} {σ : St} {ops : Array Oper} {S : List Nat}
theorem wpdS_steps {K : (Nat → AV) → St → Prop} (fr0 : Nat → AV) (hs : srt S ops.size = true) : ∀ (m i : Nat) (as : Nat → AV) (σs : Nat → St), i + m = ops.size → wpdS P Ty mu ops S K i (ops.toList.drop i) (frT ops fr0 as i) (σs (cnt S i)) →
    ∃ (as' : Nat → AV) (σs' : Nat → St), (∀ k, k < i → as' k = as k) ∧ (∀ j, j ≤ cnt S i → σs' j = σs j) ∧ K (frT ops fr0 as' ops.size) (σs' (cnt S ops.size)) ∧
      ∀ (k : Nat) (o : Oper), i ≤ k → ops[k]? = some o → (S.contains k = true → AStep P Ty mu ops o (frT ops fr0 as' k) (σs' (cnt S k)) (as' k) (σs' (cnt S k + 1))) ∧
        (S.contains k = false → ∀ j ∈ win ops S k, AStep P Ty mu ops o (frT ops fr0 as' k) (σs' j) (as' k) (σs' j))
  | 0, i, as, σs, hi, h => by
    rw [List.drop_of_length_le (by simp; omega)] at h
    have : i = ops.size := by omega
    subst this
    exact ⟨as, σs, fun _ _ => rfl, fun _ _ => rfl, h, fun k o hk ho => by have := (Array.getElem?_eq_some_iff.1 ho).1; omega⟩
  | m + 1, i, as, σs, hi, h => by
    have hlt : i < ops.size := by omega
    have hc : cnt S (i + 1) = if S.contains i then cnt S i + 1 else cnt S i := by
      have h2 := hs
      simp only [srt, Bool.and_eq_true, List.all_eq_true] at h2
      simpa using h2.2 i (by simpa using hlt)
    rw [List.drop_eq_getElem_cons (by simpa using hlt)] at h
    simp only [Array.getElem_toList] at h
    have hd : dstAt ops i = ops[i].dst := by simp [dstAt, Array.getElem?_eq_getElem hlt]
    have e1 (x : AV) : frT ops fr0 (fun k => if k = i then x else as k) i = frT ops fr0 as i := frT_congr fr0 i (fun k hk => by rw [if_neg (by omega)])
    have e2 (x : AV) : frT ops fr0 (fun k => if k = i then x else as k) (i + 1) = putO (frT ops fr0 as i) ops[i].dst x := by
      simp only [frT]
      rw [e1, hd]
      simp
    simp only [wpdS] at h
    split at h
    · rename_i hin
      obtain ⟨x, σ', h1, h2⟩ := h
      rw [if_pos hin] at hc
      rw [← e2] at h2
      obtain ⟨f, hf1, hf2⟩ : ∃ f : Nat → St, (∀ j, j ≤ cnt S i → f j = σs j) ∧ f (cnt S i + 1) = σ' := ⟨fun j => if j = cnt S i + 1 then σ' else σs j, fun j hj => if_neg (by omega), if_pos rfl⟩
      obtain ⟨as', σs', k1, k2, k3, k4⟩ := wpdS_steps (K := K) fr0 hs m (i + 1) (fun k => if k = i then x else as k) f (by omega) (by rw [hc, hf2]; exact h2)
      have hk : ∀ k, k < i → as' k = as k := fun k hk => by rw [k1 k (by omega), if_neg (by omega)]
      have hj : ∀ j, j ≤ cnt S i → σs' j = σs j := fun j hj => by rw [k2 j (by omega), hf1 j hj]
      refine ⟨as', σs', hk, hj, k3, fun k o hik ho => ?_⟩
      by_cases hki : k = i
      · subst hki
        rw [Array.getElem?_eq_getElem hlt] at ho
        cases ho
        have ha : as' k = x := by rw [k1 k (by omega)]; simp
        refine ⟨fun _ => ?_, fun hno => by rw [hin] at hno; cases hno⟩
        rw [ha, frT_congr fr0 k hk, hj _ (Nat.le_refl _), k2 (cnt S k + 1) (by omega), hf2]
        exact h1
      · exact k4 k o (by omega) ho
    · rename_i hin
      obtain ⟨x, h1, h2⟩ := h
      rw [if_neg hin] at hc
      rw [← e2] at h2
      obtain ⟨as', σs', k1, k2, k3, k4⟩ := wpdS_steps fr0 hs m (i + 1) _ σs (by omega) (by rw [hc]; exact h2)
      have hk : ∀ k, k < i → as' k = as k := fun k hk => by rw [k1 k (by omega), if_neg (by omega)]
      have hj : ∀ j, j ≤ cnt S i → σs' j = σs j := fun j hj => k2 j (by omega)
      refine ⟨as', σs', hk, hj, k3, fun k o hik ho => ?_⟩
      by_cases hki : k = i
      · subst hki
        rw [Array.getElem?_eq_getElem hlt] at ho
        cases ho
        have ha : as' k = x := by rw [k1 k (by omega)]; simp
        refine ⟨fun hyes => absurd hyes hin, fun _ j hjw => ?_⟩
        rw [ha, frT_congr fr0 k hk]
        rcases h1 with h1 | ⟨hw, h1⟩
        · exact h1 _
        · rw [List.all_eq_true] at hw
          have : j = cnt S k := by simpa using hw j hjw
          rw [this, hj _ (Nat.le_refl _)]
          exact h1
      · exact k4 k o (by omega) ho
theorem wpc_drawS (hT : TyOk P Ty) (hm : P.follows .mixedOrders = true) {id : Nat} {Q : AExit → (Nat → AV) → St → Prop} {fr : Nat → AV} (S : List Nat) (hd : allDst n ops = true) (hchk : drawChk ops S = true) (hs : srt S ops.size = true) (hl : cnt S ops.size = S.length) (h : wpdS P Ty mu ops S (Q .normal) 0 ops.toList fr σ) : wpc P Ty mu n (.region id ops true) Q fr σ := by
  simp only [wpc, if_true]
  have hc0 : cnt S 0 = 0 := by simp [cnt, Nat.blt]
  obtain ⟨as, σs, _, h2, h3, h4⟩ := wpdS_steps (P := P) (Ty := Ty) (mu := mu) (ops := ops) (S := S) (K := Q .normal) fr hs ops.size 0 (fun _ => .junk) (fun _ => σ) (by omega) (by simpa [frT] using h)
  refine awp_draw (P := P) (Ty := Ty) (mu := mu) hT hm hd hchk as σs (fun i j o ho hj => ?_) (fun i o ho hi j hj => ?_) (by rw [← hl]; exact h3) (h2 0 (by omega))
  · have hi : S.contains i = true := by simpa using List.mem_of_getElem? hj
    have hcj : cnt S i = j := by
      have h2 := hs
      simp only [srt, Bool.and_eq_true, List.all_eq_true] at h2
      have hjl := (List.getElem?_eq_some_iff.1 hj).1
      have := h2.1 j (by simpa using hjl)
      rw [List.getD_eq_getElem?_getD, hj] at this
      simpa using this
    have := (h4 i o (Nat.zero_le _) ho).1 hi
    rw [hcj] at this
    exact this
  · exact (h4 i o (Nat.zero_le _) ho).2 (by simpa using hi) j hj
theorem wpdS_nil {K : (Nat → AV) → St → Prop} {i : Nat} {fr : Nat → AV} (h : K fr σ) : wpdS P Ty mu ops S K i [] fr σ := h
/-- An operation that has nothing to do with the state. -/
theorem wpdS_op {K : (Nat → AV) → St → Prop} {i : Nat} {o : Oper} {rest : List Oper} {fr : Nat → AV} {a : AV} {t : Tmp} (hS : S.contains i = false) (hd : o.dst = some t) (hg : guardOf ops o fr = some true) (hc : callOf o = none) (ha : ∀ τ, aop Ty (mu (some t)) o (aeval fr) τ = some (a, τ)) (h : wpdS P Ty mu ops S K (i + 1) rest (upd fr t a) σ) :
    wpdS P Ty mu ops S K i (o :: rest) fr σ := by
  simp only [wpdS]
  rw [if_neg (by rw [hS]; simp)]
  refine ⟨a, .inl fun τ => ?_, by rw [hd]; exact h⟩
  simp only [AStep, hg, wpx, hc, hd, ha]
  exact ⟨trivial, trivial⟩
/-- One that reads it. -/
theorem wpdS_rd {K : (Nat → AV) → St → Prop} {i : Nat} {o : Oper} {rest : List Oper} {fr : Nat → AV} {a : AV} {t : Tmp} (hS : S.contains i = false) (hw : (win ops S i).all (· == cnt S i) = true) (hd : o.dst = some t) (hg : guardOf ops o fr = some true) (hc : callOf o = none) (ha : aop Ty (mu (some t)) o (aeval fr) σ = some (a, σ)) (h : wpdS P Ty mu ops S K (i + 1) rest (upd fr t a) σ) :
    wpdS P Ty mu ops S K i (o :: rest) fr σ := by
  simp only [wpdS]
  rw [if_neg (by rw [hS]; simp)]
  refine ⟨a, .inr ⟨hw, ?_⟩, by rw [hd]; exact h⟩
  simp only [AStep, hg, wpx, hc, hd, ha]
  exact ⟨trivial, trivial⟩
theorem wpdS_skip {K : (Nat → AV) → St → Prop} {i : Nat} {o : Oper} {rest : List Oper} {fr : Nat → AV} {t : Tmp} (hS : S.contains i = false) (hd : o.dst = some t) (hg : guardOf ops o fr = some false) (h : wpdS P Ty mu ops S K (i + 1) rest (upd fr t .junk) σ) :
    wpdS P Ty mu ops S K i (o :: rest) fr σ := by
  simp only [wpdS]
  rw [if_neg (by rw [hS]; simp)]
  refine ⟨.junk, .inl fun τ => ?_, by rw [hd]; exact h⟩
  simp only [AStep, hg]
  exact ⟨trivial, trivial⟩
/-- One that turns it. -/
theorem wpdS_in {K : (Nat → AV) → St → Prop} {i : Nat} {o : Oper} {rest : List Oper} {fr : Nat → AV} {a : AV} {σ' : St} {t : Tmp} (hS : S.contains i = true) (hd : o.dst = some t) (hg : guardOf ops o fr = some true) (hc : callOf o = none) (ha : aop Ty (mu (some t)) o (aeval fr) σ = some (a, σ')) (h : wpdS P Ty mu ops S K (i + 1) rest (upd fr t a) σ') :
    wpdS P Ty mu ops S K i (o :: rest) fr σ := by
  simp only [wpdS]
  rw [if_pos hS]
  refine ⟨a, σ', ?_, by rw [hd]; exact h⟩
  simp only [AStep, hg, wpx, hc, hd, ha]
  exact ⟨trivial, trivial⟩
theorem wpdS_inst {K : (Nat → AV) → St → Prop} {i : Nat} {o : Oper} {rest : List Oper} {fr : Nat → AV} {a : AV} {σ' : St} (hS : S.contains i = true) (hd : o.dst = none) (hg : guardOf ops o fr = some true) (hc : callOf o = none) (ha : aop Ty (mu none) o (aeval fr) σ = some (a, σ')) (h : wpdS P Ty mu ops S K (i + 1) rest fr σ') :
    wpdS P Ty mu ops S K i (o :: rest) fr σ := by
  simp only [wpdS]
  rw [if_pos hS]
  refine ⟨a, σ', ?_, by rw [hd]; exact h⟩
  simp only [AStep, hg, wpx, hc, hd, ha]
  exact ⟨trivial, trivial⟩
/-- A call that leaves it. -/
theorem wpdS_call {K : (Nat → AV) → St → Prop} {i : Nat} {o : Oper} {rest : List Oper} {fr : Nat → AV} {a : AV} {t : Tmp} {f : Operand} {xs : List Operand} {g : FuncId} {first cap args : List AV} (hS : S.contains i = false) (hd : o.dst = some t) (hg : guardOf ops o fr = some true) (hc : callOf o = some (f, xs))
    (hf : aeval fr f = .fn (.func g) first cap) (hargs : first ++ xs.map (aeval fr) ++ cap = args) (hcall : ∀ τ, ACall P g args τ (fun a' σ' => a' = a ∧ σ' = τ)) (h : wpdS P Ty mu ops S K (i + 1) rest (upd fr t a) σ) : wpdS P Ty mu ops S K i (o :: rest) fr σ := by
  simp only [wpdS]
  rw [if_neg (by rw [hS]; simp)]
  refine ⟨a, .inl fun τ => ?_, by rw [hd]; exact h⟩
  simp only [AStep, hg, wpx, hc, hf, hargs]
  exact hcall τ
/-- A call that turns it. -/
theorem wpdS_incall {K : (Nat → AV) → St → Prop} {i : Nat} {o : Oper} {rest : List Oper} {fr : Nat → AV} {a : AV} {σ' : St} {t : Tmp} {f : Operand} {xs : List Operand} {g : FuncId} {first cap args : List AV} (hS : S.contains i = true) (hd : o.dst = some t) (hg : guardOf ops o fr = some true) (hc : callOf o = some (f, xs))
    (hf : aeval fr f = .fn (.func g) first cap) (hargs : first ++ xs.map (aeval fr) ++ cap = args) (hcall : ACall P g args σ (fun a' σ'' => a' = a ∧ σ'' = σ')) (h : wpdS P Ty mu ops S K (i + 1) rest (upd fr t a) σ') : wpdS P Ty mu ops S K i (o :: rest) fr σ := by
  simp only [wpdS]
  rw [if_pos hS]
  refine ⟨a, σ', ?_, by rw [hd]; exact h⟩
  simp only [AStep, hg, wpx, hc, hf, hargs]
  exact hcall
end
end Go.Va
