/- Regions whose order is open. -/
import Derived.Test.YtnjijefhnmnjgaaVaL
namespace Go.Va
open Go Go.RowKit
set_option linter.unusedVariables false
set_option linter.unusedSimpArgs false

def befB (B : Array Nat) (k i : Nat) : Bool := (B.getD k 0).testBit i
def dstAt (ops : Array Oper) (k : Nat) : Option Tmp := (ops[k]?).bind (·.dst)
def chkTab (ops : Array Oper) (B : Array Nat) : Bool :=
  (List.range ops.size).all fun k => match ops[k]? with
    | some o => (List.range ops.size).all fun i => !befB B k i || o.after.toList.any fun e => Region.binds .any e && decide (e.on < k) && (e.on == i || befB B e.on i)
    | none => true
def chkNames (ops : Array Oper) (B : Array Nat) : Bool :=
  (List.range ops.size).all fun i => match ops[i]? with
    | some o => (o.looksAt ops).all fun t => (List.range ops.size).all fun k => !(dstAt ops k == some t) || (!(k == i) && (!decide (k < i) || befB B i k) && (!decide (i < k) || befB B k i))
    | none => true
def chkDst (ops : Array Oper) : Bool :=
  (List.range ops.size).all fun i => (List.range ops.size).all fun k => !decide (i < k) || (dstAt ops i).isNone || !(dstAt ops i == dstAt ops k)
def chkS (B : Array Nat) (n : Nat) : List Nat → Bool
  | [] => true
  | s :: r => decide (s < n) && r.all (fun s' => befB B s' s && decide (s < s')) && chkS B n r
/-- Edges go back. -/
def chkEdges (ops : Array Oper) : Bool :=
  (List.range ops.size).all fun k => match ops[k]? with
    | some o => o.after.toList.all fun e => !Region.binds .any e || decide (e.on < k)
    | none => true
def drawChk (ops : Array Oper) (S : List Nat) : Bool :=
  chkTab ops (Region.before ops) && chkNames ops (Region.before ops) && chkDst ops && chkS (Region.before ops) ops.size S && chkEdges ops
/-- The stages at which operation i may come up. -/
def win (ops : Array Oper) (S : List Nat) (i : Nat) : List Nat :=
  (List.range (S.length + 1)).filter fun j => (S.take j).all (fun s => !befB (Region.before ops) s i) && (S.drop j).all (fun s => !befB (Region.before ops) i s)

section
variable (P : Program) (Ty : TypeId → Option TI) (mu : Option Tmp → Bool)
/-- An operation, its result and what becomes of the state. -/
def AStep (ops : Array Oper) (o : Oper) (fr : Nat → AV) (σ : St) (a : AV) (σ' : St) : Prop :=
  match guardOf ops o fr with
  | some true => wpx P Ty mu o fr σ (fun a' σ'' => a' = a ∧ σ'' = σ')
  | some false => a = .junk ∧ σ' = σ
  | none => False
end

section
variable {P : Program} {Ty : TypeId → Option TI} {mu : Option Tmp → Bool} {w0 : World} {G : Ghost} {n : Nat} {a : Act} {w : World} {σ : St} {ops : Array Oper} {S : List Nat}

theorem looks_op {o : Oper} {t : Tmp} (h : .tmp t ∈ o.op.operands) : t ∈ o.looksAt ops := by
  unfold Oper.looksAt
  simp only [List.mem_append, List.mem_filterMap]
  exact .inl ⟨.tmp t, by simpa using h, rfl⟩
theorem looks_guard {o : Oper} {j : Nat} {want : Bool} (hg : o.guard = some (j, want)) {t : Tmp} (ht : (ops[j]?).bind (·.dst) = some t) : t ∈ o.looksAt ops := by
  unfold Oper.looksAt
  simp [hg, ht]
theorem aeval_congr {fr fr' : Nat → AV} {x : Operand} (h : ∀ t, x = .tmp t → fr t = fr' t) : aeval fr x = aeval fr' x := by
  cases x with
  | tmp t => exact h t rfl
  | _ => rfl
theorem AStep.congr {o : Oper} {fr fr' : Nat → AV} (h : ∀ t ∈ o.looksAt ops, fr t = fr' t) {x : AV} {σ' : St} (hs : AStep P Ty mu ops o fr σ x σ') : AStep P Ty mu ops o fr' σ x σ' := by
  have hop : ∀ y ∈ o.op.operands, aeval fr y = aeval fr' y := fun y hy => aeval_congr fun t ht => h t (looks_op (by rw [← ht]; exact hy))
  have hg : guardOf ops o fr = guardOf ops o fr' := by
    unfold guardOf
    cases hgd : o.guard with
    | none => rfl
    | some p =>
      obtain ⟨j, want⟩ := p
      simp only []
      cases ht : (ops[j]?).bind (·.dst) with
      | none => rfl
      | some t => simp only []; rw [h t (looks_guard hgd ht)]
  unfold AStep at hs ⊢
  rw [← hg]
  split
  · rename_i h1
    rw [h1] at hs
    simp only at hs
    unfold wpx at hs ⊢
    cases hc : callOf o with
    | none =>
      rw [hc] at hs
      simp only at hs ⊢
      rw [← aop_congr hop]
      exact hs
    | some p =>
      obtain ⟨f, xs⟩ := p
      rw [hc] at hs
      simp only at hs ⊢
      have hmem : f ∈ o.op.operands ∧ ∀ y ∈ xs, y ∈ o.op.operands := by
        unfold callOf at hc
        split at hc
        case h_2 => cases hc
        rename_i c ho
        split at hc
        case h_2 => cases hc
        rename_i f' hcal
        simp at hc
        obtain ⟨rfl, rfl⟩ := hc
        rw [ho]
        simp only [Op.operands, Call.operands, hcal]
        exact ⟨by simp, fun y hy => Array.mem_append.2 (.inr (Array.mem_toList_iff.1 hy))⟩
      rw [← hop f hmem.1, ← List.map_congr_left (fun y hy => hop y (hmem.2 y hy))]
      exact hs
  · rename_i h1; rw [h1] at hs; exact hs
  · rename_i h1; rw [h1] at hs; exact hs

theorem AStep.sound (hT : TyOk P Ty) {Q : Exit → Act → World → Prop} {i : Nat} {o : Oper} (ho : ops[i]? = some o) {fr : Nat → AV} (hS : Sim w0 G n a w fr σ) (hdst : ∀ (j : Nat) (o : Oper), ops[j]? = some o → dstOk n o.dst) {x : AV} {σ' : St} (h : AStep P Ty mu ops o fr σ x σ') {K' : Act → World → Prop}
    (hK : ∀ a' w' G', G.Le G' → Sim w0 G' n a' w' (putO fr o.dst x) σ' → K' a' w') : wpOp P ops Q i K' a w := by
  have hd := hdst i o ho
  have hgd : ∀ (b : Bool), guardOf ops o fr = some b → Region.wanted o (yielded ops a.tmps) = b := fun b hb =>
    wanted_of (n := n) hS.frm (fun t ht => by rw [hS.size]; exact ht) hb (fun j want t _ ht => by
      cases hj : ops[j]? with
      | none => rw [hj] at ht; cases ht
      | some oj =>
        rw [hj] at ht
        have := hdst j oj hj
        simp only [Option.bind_some] at ht
        rw [ht] at this
        rw [hS.size]; exact this)
  unfold AStep at h
  unfold wpOp
  rw [ho]
  simp only []
  split at h
  · rename_i hg
    rw [if_pos (hgd true hg)]
    refine .inl (wpx_sound hT hS h hd ?_)
    rintro y σ2 v w' G' ⟨rfl, rfl⟩ hG hI hr
    exact hK _ _ G' hG (hS.put hG hI hd hr)
  · rename_i hg
    rw [if_neg (by rw [hgd false hg]; simp)]
    obtain ⟨rfl, rfl⟩ := h
    exact hK _ _ G (.refl G) (hS.put (.refl G) hS.inv hd (.junk _))
  · exact h.elim

/-! ### what is listed -/
def Lst (listed : Array Bool) (i : Nat) : Prop := listed.getD i false = true
/-- Closed under what must come before. -/
def ClosedL (ops : Array Oper) (listed : Array Bool) : Prop := ∀ (k : Nat) (o : Oper), ops[k]? = some o → Lst listed k → ∀ e ∈ o.after, Region.binds .any e = true → Lst listed e.on
theorem tab_spec {B : Array Nat} (h : chkTab ops B = true) {k i : Nat} (hk : k < ops.size) (hi : i < ops.size) (hb : befB B k i = true) : ∃ o e, ops[k]? = some o ∧ e ∈ o.after ∧ Region.binds .any e = true ∧ e.on < k ∧ (e.on = i ∨ befB B e.on i = true) := by
  unfold chkTab at h
  rw [List.all_eq_true] at h
  have h1 := h k (List.mem_range.2 hk)
  have ho : ops[k]? = some ops[k] := Array.getElem?_eq_getElem hk
  rw [ho] at h1
  simp only [List.all_eq_true] at h1
  have h2 := h1 i (List.mem_range.2 hi)
  rw [hb] at h2
  simp only [Bool.not_true, Bool.false_or] at h2
  obtain ⟨e, he, h3⟩ := List.any_eq_true.1 h2
  simp only [Bool.and_eq_true, Bool.or_eq_true, decide_eq_true_eq, beq_iff_eq] at h3
  exact ⟨_, e, ho, Array.mem_toList_iff.1 he, h3.1.1, h3.1.2, h3.2⟩
theorem before_listed {B : Array Nat} (h : chkTab ops B = true) {listed : Array Bool} (hc : ClosedL ops listed) {i : Nat} (hi : i < ops.size) : ∀ (m k : Nat), k ≤ m → k < ops.size → befB B k i = true → (∀ (o : Oper), ops[k]? = some o → ∀ e ∈ o.after, Region.binds .any e = true → Lst listed e.on) → Lst listed i := by
  intro m
  induction m with
  | zero =>
    intro k hkm hk hb hp
    obtain ⟨o, e, ho, he, h1, h2, h3⟩ := tab_spec h hk hi hb
    omega
  | succ m ih =>
    intro k hkm hk hb hp
    obtain ⟨o, e, ho, he, h1, h2, h3⟩ := tab_spec h hk hi hb
    have hl := hp o ho e he h1
    rcases h3 with h3 | h3
    · rw [← h3]; exact hl
    · exact ih e.on (by omega) (by omega) h3 (fun o' ho' e' he' h' => hc _ o' ho' hl e' he' h')
/-- A ready operation: all that must come before is listed; what must come behind is not. -/
theorem ready_before (h : chkTab ops (Region.before ops) = true) {listed : Array Bool} (hc : ClosedL ops listed) {i : Nat} (hr : i ∈ Region.ready .any ops listed) {k : Nat} (hk : k < ops.size) (hb : befB (Region.before ops) i k = true) : Lst listed k := by
  obtain ⟨h0, o, ho, hall⟩ := mem_ready.1 hr
  have hi : i < ops.size := (Array.getElem?_eq_some_iff.1 ho).1
  exact before_listed h hc hk i i (Nat.le_refl _) hi hb (fun o' ho' e he hbd => by rw [ho] at ho'; cases ho'; exact hall e he hbd)
theorem ready_not {i : Nat} {listed : Array Bool} (hr : i ∈ Region.ready .any ops listed) : ¬ Lst listed i := by
  obtain ⟨h0, o, ho, hall⟩ := mem_ready.1 hr
  unfold Lst
  have hi : i < listed.size := by
    rcases Nat.lt_or_ge i listed.size with h | h
    · exact h
    · simp [Array.getElem?_eq_none h] at h0
  simp [hi] at h0 ⊢
  exact h0

theorem filter_lt {l : List Nat} {p q : Nat → Bool} (h : ∀ x ∈ l, q x = true → p x = true) (hx : ∃ x ∈ l, p x = true ∧ q x = false) : (l.filter q).length < (l.filter p).length := by
  induction l with
  | nil => obtain ⟨x, hx, _⟩ := hx; cases hx
  | cons y l ih =>
    have hle : ∀ (l : List Nat), (∀ x ∈ l, q x = true → p x = true) → (l.filter q).length ≤ (l.filter p).length := by
      intro l
      induction l with
      | nil => intro _; exact Nat.le_refl _
      | cons z l ih2 =>
        intro hz
        have h1 := ih2 (fun x hx => hz x (List.mem_cons_of_mem _ hx))
        have h2 := hz z List.mem_cons_self
        simp only [List.filter_cons]
        cases hq : q z
        · cases hp : p z <;> simp <;> omega
        · rw [h2 hq]; simp; exact h1
    obtain ⟨x, hx, hp, hq⟩ := hx
    have h1 := h y List.mem_cons_self
    simp only [List.filter_cons]
    rcases List.mem_cons.1 hx with rfl | hx
    · rw [hp, hq]
      have := hle l (fun z hz => h z (List.mem_cons_of_mem _ hz))
      simp; omega
    · have h2 := ih (fun z hz => h z (List.mem_cons_of_mem _ hz)) ⟨x, hx, hp, hq⟩
      cases hqy : q y
      · cases hpy : p y <;> simp <;> omega
      · rw [h1 hqy]; simp; exact h2

/-! ### frames -/
def wOf (ops : Array Oper) (t : Tmp) : Option Nat := (List.range ops.size).find? fun k => dstAt ops k == some t
theorem dst_inj (h : chkDst ops = true) {i k : Nat} (hi : i < ops.size) (hk : k < ops.size) {t : Tmp} (h1 : dstAt ops i = some t) (h2 : dstAt ops k = some t) : i = k := by
  unfold chkDst at h
  rw [List.all_eq_true] at h
  rcases Nat.lt_trichotomy i k with hlt | hlt | hlt
  · have h3 := h i (List.mem_range.2 hi)
    rw [List.all_eq_true] at h3
    have h4 := h3 k (List.mem_range.2 hk)
    simp [hlt, h1, h2] at h4
  · exact hlt
  · have h3 := h k (List.mem_range.2 hk)
    rw [List.all_eq_true] at h3
    have h4 := h3 i (List.mem_range.2 hi)
    simp [hlt, h1, h2] at h4
theorem wOf_some (h : chkDst ops = true) {k : Nat} (hk : k < ops.size) {t : Tmp} (ht : dstAt ops k = some t) : wOf ops t = some k := by
  unfold wOf
  cases hf : (List.range ops.size).find? fun k => dstAt ops k == some t with
  | none => have := List.find?_eq_none.1 hf k (List.mem_range.2 hk); simp [ht] at this
  | some k' =>
    have h1 := List.find?_some hf
    have h2 := List.mem_of_find?_eq_some hf
    simp at h1 h2
    rw [dst_inj h h2 hk h1 ht]
theorem wOf_dst {k : Nat} {t : Tmp} (h : wOf ops t = some k) : k < ops.size ∧ dstAt ops k = some t := by
  unfold wOf at h
  have h1 := List.find?_some h
  have h2 := List.mem_of_find?_eq_some h
  simp at h1 h2
  exact ⟨h2, h1⟩
def frL (ops : Array Oper) (fr0 : Nat → AV) (as : Nat → AV) (listed : Array Bool) : Nat → AV := fun t => match wOf ops t with
  | some k => if listed.getD k false = true then as k else fr0 t
  | none => fr0 t
def frT (ops : Array Oper) (fr0 : Nat → AV) (as : Nat → AV) : Nat → Nat → AV
  | 0 => fr0
  | i + 1 => putO (frT ops fr0 as i) (dstAt ops i) (as i)
theorem putO_at (fr : Nat → AV) (d : Option Tmp) (x : AV) (t : Nat) : putO fr d x t = if d = some t then x else fr t := by
  cases d with
  | none => simp [putO]
  | some u =>
    simp only [putO, upd, Option.some.injEq]
    by_cases h : u = t
    · subst h; simp
    · simp [h, Ne.symm h]
theorem frT_eq (h : chkDst ops = true) (fr0 : Nat → AV) (as : Nat → AV) (t : Nat) : ∀ i, i ≤ ops.size → frT ops fr0 as i t = match wOf ops t with | some k => if k < i then as k else fr0 t | none => fr0 t
  | 0, _ => by
    simp only [frT]
    cases wOf ops t <;> simp
  | i + 1, hi => by
    simp only [frT, putO_at]
    rw [frT_eq h fr0 as t i (by omega)]
    by_cases hd : dstAt ops i = some t
    · rw [if_pos hd, wOf_some h (by omega) hd]
      simp
    · rw [if_neg hd]
      cases hw : wOf ops t with
      | none => rfl
      | some k =>
        have hk := wOf_dst hw
        have hne : k ≠ i := fun e => hd (e ▸ hk.2)
        simp only []
        by_cases hki : k < i
        · rw [if_pos hki, if_pos (by omega)]
        · rw [if_neg hki, if_neg (by omega)]
theorem frL_set (h : chkDst ops = true) (fr0 : Nat → AV) (as : Nat → AV) {listed : Array Bool} {i : Nat} (hi : i < ops.size) (hl : listed.size = ops.size) : frL ops fr0 as (listed.setIfInBounds i true) = putO (frL ops fr0 as listed) (dstAt ops i) (as i) := by
  funext t
  rw [putO_at]
  unfold frL
  by_cases hd : dstAt ops i = some t
  · rw [if_pos hd, wOf_some h hi hd]
    simp [hl, hi]
  · rw [if_neg hd]
    cases hw : wOf ops t with
    | none => rfl
    | some k =>
      have hk := wOf_dst hw
      have hne : i ≠ k := fun e => hd (e ▸ hk.2)
      simp only []
      rw [getD_set_ne false hne]
theorem frL_looks (hchk : chkTab ops (Region.before ops) = true) (hnm : chkNames ops (Region.before ops) = true) (hd : chkDst ops = true) (fr0 : Nat → AV) (as : Nat → AV) {listed : Array Bool} (hc : ClosedL ops listed) {i : Nat} {o : Oper} (ho : ops[i]? = some o) (hr : i ∈ Region.ready .any ops listed) :
    ∀ t ∈ o.looksAt ops, frL ops fr0 as listed t = frT ops fr0 as i t := by
  intro t ht
  have hi : i < ops.size := (Array.getElem?_eq_some_iff.1 ho).1
  rw [frT_eq hd fr0 as t i (by omega)]
  unfold frL
  cases hw : wOf ops t with
  | none => rfl
  | some k =>
    simp only []
    obtain ⟨hk, hkd⟩ := wOf_dst hw
    unfold chkNames at hnm
    rw [List.all_eq_true] at hnm
    have h1 := hnm i (List.mem_range.2 hi)
    rw [ho] at h1
    simp only [List.all_eq_true] at h1
    have h2 := h1 t ht k (List.mem_range.2 hk)
    simp only [hkd, BEq.rfl, Bool.not_true, Bool.false_or, Bool.and_eq_true, Bool.not_eq_true', beq_eq_false_iff_ne, Bool.or_eq_true, decide_eq_false_iff_not] at h2
    obtain ⟨⟨hne, h3⟩, h4⟩ := h2
    by_cases hki : k < i
    · rw [if_pos hki]
      have := ready_before hchk hc hr hk (h3.resolve_left (by omega))
      rw [if_pos (show listed.getD k false = true from this)]
    · rw [if_neg hki]
      have hb := h4.resolve_left (by omega)
      rw [if_neg]
      intro hlk
      exact ready_not hr (before_listed hchk hc hi k k (Nat.le_refl _) hk hb (fun o' ho' e he hbd => hc k o' ho' hlk e he hbd))

/-! ### stages -/
def stg (listed : Array Bool) : List Nat → Nat
  | [] => 0
  | s :: r => if listed.getD s false = true then stg listed r + 1 else 0
theorem chkS_mem {B : Array Nat} {n : Nat} : ∀ {S : List Nat}, chkS B n S = true → ∀ s ∈ S, s < n
  | [], _, s, hs => by cases hs
  | x :: r, h, s, hs => by
    simp only [chkS, Bool.and_eq_true, decide_eq_true_eq] at h
    rcases List.mem_cons.1 hs with rfl | hs
    · exact h.1.1
    · exact chkS_mem h.2 s hs
/-- The listed ones among S are the first ones. -/
theorem stg_spec (hchk : chkTab ops (Region.before ops) = true) {listed : Array Bool} (hc : ClosedL ops listed) : ∀ {S : List Nat}, chkS (Region.before ops) ops.size S = true → (∀ s ∈ S.take (stg listed S), Lst listed s) ∧ (∀ s ∈ S.drop (stg listed S), ¬ Lst listed s) ∧ stg listed S ≤ S.length
  | [], _ => ⟨fun s hs => by simp at hs, fun s hs => by simp at hs, Nat.le_refl _⟩
  | x :: r, h => by
    simp only [chkS, Bool.and_eq_true, decide_eq_true_eq, List.all_eq_true] at h
    obtain ⟨⟨hx, hr⟩, hr2⟩ := h
    obtain ⟨i1, i2, i3⟩ := stg_spec hchk hc hr2
    simp only [stg]
    split
    · rename_i hl
      refine ⟨fun s hs => ?_, fun s hs => i2 s (by simpa using hs), by simp; exact i3⟩
      rw [List.take_succ_cons] at hs
      rcases List.mem_cons.1 hs with rfl | hs
      · exact hl
      · exact i1 s hs
    · rename_i hl
      refine ⟨fun s hs => by simp at hs, fun s hs => ?_, Nat.zero_le _⟩
      simp only [List.drop_zero] at hs
      rcases List.mem_cons.1 hs with rfl | hs
      · exact hl
      · intro hls
        have hs' : s < ops.size := chkS_mem hr2 s hs
        exact hl (before_listed hchk hc hx s s (Nat.le_refl _) hs' (hr s hs).1 (fun o' ho' e he hbd => hc s o' ho' hls e he hbd))
theorem stg_notin {listed : Array Bool} {i : Nat} : ∀ {S : List Nat}, i ∉ S → stg (listed.setIfInBounds i true) S = stg listed S
  | [], _ => rfl
  | x :: r, h => by
    simp only [List.mem_cons, not_or] at h
    simp only [stg]
    rw [getD_set_ne false h.1, stg_notin h.2]
/-- The place of a ready one among S. -/
theorem stg_in (hchk : chkTab ops (Region.before ops) = true) {listed : Array Bool} (hc : ClosedL ops listed) (hl : listed.size = ops.size) {i : Nat} (hr : i ∈ Region.ready .any ops listed) : ∀ {S : List Nat}, chkS (Region.before ops) ops.size S = true → i ∈ S →
    S[stg listed S]? = some i ∧ stg (listed.setIfInBounds i true) S = stg listed S + 1
  | [], _, h => by cases h
  | x :: r, h, hi => by
    have h' := h
    simp only [chkS, Bool.and_eq_true, decide_eq_true_eq, List.all_eq_true] at h'
    obtain ⟨⟨hx, hrr⟩, hr2⟩ := h'
    by_cases hxi : x = i
    · subst hxi
      have hn := ready_not hr
      have hset : (listed.setIfInBounds x true).getD x false = true := by simp [hl, hx]
      have hxr : x ∉ r := fun hm => by have := (hrr x hm).2; omega
      have hstop : stg listed r = 0 := by
        cases r with
        | nil => rfl
        | cons y r' =>
          simp only [stg]
          rw [if_neg]
          intro hy
          have hy' := hrr y List.mem_cons_self
          have hys : y < ops.size := chkS_mem hr2 y List.mem_cons_self
          exact hn (before_listed hchk hc hx y y (Nat.le_refl _) hys hy'.1 (fun o' ho' e he hbd => hc y o' ho' hy e he hbd))
      simp only [stg]
      rw [if_neg (show ¬ listed.getD x false = true from hn), if_pos hset, stg_notin hxr, hstop]
      exact ⟨rfl, rfl⟩
    · have him : i ∈ r := (List.mem_cons.1 hi).resolve_left (Ne.symm hxi)
      have hxl : Lst listed x := ready_before hchk hc hr hx (hrr i him).1
      obtain ⟨k1, k2⟩ := stg_in hchk hc hl hr hr2 him
      simp only [stg]
      rw [if_pos (show listed.getD x false = true from hxl), if_pos (by unfold Lst at hxl; rw [getD_set_ne false (Ne.symm hxi)]; exact hxl), k2]
      exact ⟨by simpa using k1, rfl⟩
theorem win_mem (hchk : chkTab ops (Region.before ops) = true) {listed : Array Bool} (hc : ClosedL ops listed) {S : List Nat} (hS : chkS (Region.before ops) ops.size S = true) {i : Nat} (hr : i ∈ Region.ready .any ops listed) : stg listed S ∈ win ops S i := by
  obtain ⟨h1, h2, h3⟩ := stg_spec hchk hc hS
  obtain ⟨_, o, ho, _⟩ := mem_ready.1 hr
  have hi : i < ops.size := (Array.getElem?_eq_some_iff.1 ho).1
  unfold win
  rw [List.mem_filter]
  refine ⟨List.mem_range.2 (by omega), ?_⟩
  simp only [Bool.and_eq_true, List.all_eq_true, Bool.not_eq_true']
  refine ⟨fun s hs => ?_, fun s hs => ?_⟩
  · cases hb : befB (Region.before ops) s i with
    | false => rfl
    | true =>
      have hls := h1 s hs
      have hss := chkS_mem hS s (List.mem_of_mem_take hs)
      exact absurd (before_listed hchk hc hi s s (Nat.le_refl _) hss hb (fun o' ho' e he hbd => hc s o' ho' hls e he hbd)) (ready_not hr)
  · cases hb : befB (Region.before ops) i s with
    | false => rfl
    | true =>
      have hss := chkS_mem hS s (List.mem_of_mem_drop hs)
      exact absurd (ready_before hchk hc hr hss hb) (h2 s hs)

/-- THE REGION, whatever order: each operation, at each stage at which it may come up. -/
theorem draw_main (hT : TyOk P Ty) (hchk : drawChk ops S = true) {Q : Exit → Act → World → Prop} (hdst : ∀ (j : Nat) (o : Oper), ops[j]? = some o → dstOk n o.dst) (fr0 : Nat → AV) (as : Nat → AV) (σs : Nat → St)
    (hin : ∀ (i j : Nat) (o : Oper), ops[i]? = some o → S[j]? = some i → AStep P Ty mu ops o (frT ops fr0 as i) (σs j) (as i) (σs (j + 1)))
    (hout : ∀ (i : Nat) (o : Oper), ops[i]? = some o → i ∉ S → ∀ j ∈ win ops S i, AStep P Ty mu ops o (frT ops fr0 as i) (σs j) (as i) (σs j))
    (hQ : ∀ G' a' w', G.Le G' → Sim w0 G' n a' w' (frT ops fr0 as ops.size) (σs S.length) → Q .normal a' w') :
    ∀ (fuel : Nat) (listed : Array Bool) (G' : Ghost) (a : Act) (w : World), ((List.range ops.size).filter fun k => !listed.getD k false).length ≤ fuel → listed.size = ops.size → ClosedL ops listed → G.Le G' →
      Sim w0 G' n a w (frL ops fr0 as listed) (σs (stg listed S)) → wpAny P .any ops Q fuel listed a w := by
  simp only [drawChk, Bool.and_eq_true] at hchk
  obtain ⟨⟨⟨⟨c1, c2⟩, c3⟩, c4⟩, c5⟩ := hchk
  have hedge : ∀ (k : Nat) (o : Oper), ops[k]? = some o → ∀ e ∈ o.after, Region.binds .any e = true → e.on < k := by
    intro k o ho e he hb
    unfold chkEdges at c5
    rw [List.all_eq_true] at c5
    have h1 := c5 k (List.mem_range.2 (Array.getElem?_eq_some_iff.1 ho).1)
    rw [ho] at h1
    simp only [List.all_eq_true] at h1
    have h2 := h1 e (Array.mem_toList_iff.2 he)
    simpa [hb] using h2
  have hnil : ∀ (listed : Array Bool), listed.size = ops.size → Region.ready .any ops listed = [] → ∀ k, k < ops.size → Lst listed k := by
    intro listed hl hr k
    induction k using Nat.strongRecOn with
    | _ k ih =>
      intro hk
      cases hlk : listed.getD k false with
      | true => exact hlk
      | false =>
        have : k ∈ Region.ready .any ops listed := by
          refine mem_ready.2 ⟨?_, ops[k], Array.getElem?_eq_getElem hk, fun e he hb => ?_⟩
          · have : k < listed.size := by omega
            simpa [this] using hlk
          · have hlt := hedge k _ (Array.getElem?_eq_getElem hk) e he hb
            exact ih e.on hlt (by omega)
        rw [hr] at this
        cases this
  have hend : ∀ (listed : Array Bool) (G' : Ghost) (a : Act) (w : World), listed.size = ops.size → ClosedL ops listed → G.Le G' → Sim w0 G' n a w (frL ops fr0 as listed) (σs (stg listed S)) → Region.ready .any ops listed = [] → Q .normal a w := by
    intro listed G' a w hl hc hG hS hr
    have hall := hnil listed hl hr
    have e1 : frL ops fr0 as listed = frT ops fr0 as ops.size := by
      funext t
      rw [frT_eq c3 fr0 as t _ (Nat.le_refl _)]
      unfold frL
      cases hw : wOf ops t with
      | none => rfl
      | some k =>
        have hk := (wOf_dst hw).1
        simp only []
        rw [if_pos (show listed.getD k false = true from hall k hk), if_pos hk]
    have e2 : stg listed S = S.length := by
      obtain ⟨_, h2, h3⟩ := stg_spec c1 hc c4
      rcases Nat.lt_or_ge (stg listed S) S.length with hlt | hge
      · have hm : S[stg listed S] ∈ S.drop (stg listed S) := by
          rw [List.drop_eq_getElem_cons hlt]; exact List.mem_cons_self
        exact absurd (hall _ (chkS_mem c4 _ (List.getElem_mem hlt))) (h2 _ hm)
      · omega
    rw [e1, e2] at hS
    exact hQ G' a w hG hS
  intro fuel
  induction fuel with
  | zero =>
    intro listed G' a w hf hl hc hG hS
    have hr : Region.ready .any ops listed = [] := by
      apply List.eq_nil_iff_forall_not_mem.2
      intro i hi
      have hn := ready_not hi
      obtain ⟨_, o, ho, _⟩ := mem_ready.1 hi
      have hilt : i < ops.size := (Array.getElem?_eq_some_iff.1 ho).1
      have : i ∈ (List.range ops.size).filter fun k => !listed.getD k false := by
        rw [List.mem_filter]
        exact ⟨List.mem_range.2 hilt, by unfold Lst at hn; simpa using hn⟩
      have := List.length_pos_of_mem this
      omega
    exact ⟨hr, hend listed G' a w hl hc hG hS hr⟩
  | succ fuel ih =>
    intro listed G' a w hf hl hc hG hS
    refine ⟨fun hr => hend listed G' a w hl hc hG hS hr, fun i hi => ?_⟩
    obtain ⟨h0, o, ho, hall⟩ := mem_ready.1 hi
    have hilt : i < ops.size := (Array.getElem?_eq_some_iff.1 ho).1
    have hlk := frL_looks c1 c2 c3 fr0 as hc ho hi
    have hstep : AStep P Ty mu ops o (frL ops fr0 as listed) (σs (stg listed S)) (as i) (σs (stg (listed.setIfInBounds i true) S)) := by
      by_cases hiS : i ∈ S
      · obtain ⟨k1, k2⟩ := stg_in c1 hc hl hi c4 hiS
        rw [k2]
        exact (hin i _ o ho k1).congr (fun t ht => (hlk t ht).symm)
      · rw [stg_notin hiS]
        exact (hout i o ho hiS _ (win_mem c1 hc c4 hi)).congr (fun t ht => (hlk t ht).symm)
    refine AStep.sound hT ho hS hdst hstep (fun a' w' G2 hG2 hS2 => ?_)
    refine ih (listed.setIfInBounds i true) G2 a' w' ?_ (by simpa using hl) ?_ (hG.trans hG2) ?_
    · have hlt : ((List.range ops.size).filter fun k => !(listed.setIfInBounds i true).getD k false).length < ((List.range ops.size).filter fun k => !listed.getD k false).length := by
        refine filter_lt (fun x _ hx => ?_) ⟨i, List.mem_range.2 hilt, by have := ready_not hi; unfold Lst at this; simpa using this, by simp [hl, hilt]⟩
        by_cases hxi : i = x
        · subst hxi; simp [hl, hilt] at hx
        · rw [getD_set_ne false hxi] at hx; exact hx
      omega
    · intro k o' ho' hk e he hb
      by_cases hki : i = k
      · subst hki
        rw [ho] at ho'
        cases ho'
        exact getD_set_true (hall e he hb)
      · unfold Lst at hk
        rw [getD_set_ne false hki] at hk
        exact getD_set_true (hc k o' ho' hk e he hb)
    · rw [frL_set c3 fr0 as hilt hl]
      have : dstAt ops i = o.dst := by simp [dstAt, ho]
      rw [this]
      exact hS2
end
end Go.Va
