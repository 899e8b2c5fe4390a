/- Nothing that has ended is got; behind a sweep there is nothing that has ended, and all else is as it was. (part 2 of 8) -/
import Derived.Test.YtggeboakilalhaaDoorKRamEnds1
import Derived.Laws.BitsLemmas
namespace Go.Va
open Go Go.RowKit
set_option linter.unusedVariables false
set_option linter.unusedSimpArgs false

def befB (B : Array Nat) (k i : Nat) : Bool := (B.getD k 0).testBit i
def dstAt (ops : Array Oper) (k : Nat) : Option Tmp := (ops[k]?).bind (·.dst)
def chkTab (ops : Array Oper) (B : Array Nat) : Bool :=
  (List.range ops.size).all fun k => match ops[k]? with
    | some o => (List.range ops.size).all fun i => !befB B k i || o.after.toList.any fun e => Region.binds .any e && decide (e.on < k) && (e.on == i || befB B e.on i)
    | none => true
def chkNames (ops : Array Oper) (B : Array Nat) : Bool :=
  (List.range ops.size).all fun i => match ops[i]? with
    | some o => (o.looksAt ops).all fun t => (List.range ops.size).all fun k => !(dstAt ops k == some t) || (!(k == i) && (!decide (k < i) || befB B i k) && (!decide (i < k) || befB B k i))
    | none => true
def chkDst (ops : Array Oper) : Bool :=
  (List.range ops.size).all fun i => (List.range ops.size).all fun k => !decide (i < k) || (dstAt ops i).isNone || !(dstAt ops i == dstAt ops k)
def chkS (B : Array Nat) (n : Nat) : List Nat → Bool
  | [] => true
  | s :: r => decide (s < n) && r.all (fun s' => befB B s' s && decide (s < s')) && chkS B n r
def chkEdges (ops : Array Oper) : Bool :=
  (List.range ops.size).all fun k => match ops[k]? with
    | some o => o.after.toList.all fun e => !Region.binds .any e || decide (e.on < k)
    | none => true
def drawChk (ops : Array Oper) (S : List Nat) : Bool :=
  chkTab ops (Region.before ops) && chkNames ops (Region.before ops) && chkDst ops && chkS (Region.before ops) ops.size S && chkEdges ops
def win (ops : Array Oper) (S : List Nat) (i : Nat) : List Nat :=
  (List.range (S.length + 1)).filter fun j => (S.take j).all (fun s => !befB (Region.before ops) s i) && (S.drop j).all (fun s => !befB (Region.before ops) i s)

section
variable (P : Program)
def AStep (ops : Array Oper) (o : Oper) (fr : Nat → AV) (σ : St) (a : AV) (σ' : St) : Prop :=
  match guardOf ops o fr with
  | some true => OpS P o fr σ (fun a' σ'' => a' = a ∧ σ'' = σ')
  | some false => a = .tup [] ∧ σ' = σ
  | none => False
end

section
variable {P : Program} {w0 : World} {G : Ghost} {n : Nat} {a : Act} {w : World} {σ : St} {ops : Array Oper} {S : List Nat}

theorem looks_op {o : Oper} {t : Tmp} (h : .tmp t ∈ o.op.operands) : t ∈ o.looksAt ops := by
  unfold Oper.looksAt
  simp only [List.mem_append, List.mem_filterMap]
  exact .inl ⟨.tmp t, by simpa using h, rfl⟩
theorem looks_guard {o : Oper} {j : Nat} {want : Bool} (hg : o.guard = some (j, want)) {t : Tmp} (ht : (ops[j]?).bind (·.dst) = some t) : t ∈ o.looksAt ops := by
  unfold Oper.looksAt
  simp [hg, ht]
theorem aeval_congr {fr fr' : Nat → AV} {x : Operand} (h : ∀ t, x = .tmp t → fr t = fr' t) : aeval fr x = aeval fr' x := by
  cases x with
  | tmp t => exact h t rfl
  | _ => rfl
theorem AStep.congr {o : Oper} {fr fr' : Nat → AV} (h : ∀ t ∈ o.looksAt ops, fr t = fr' t) {x : AV} {σ' : St} (hs : AStep P ops o fr σ x σ') : AStep P ops o fr' σ x σ' := by
  have hop : ∀ y ∈ o.op.operands, aeval fr y = aeval fr' y := fun y hy => aeval_congr fun t ht => h t (looks_op (by rw [← ht]; exact hy))
  have hg : guardOf ops o fr = guardOf ops o fr' := by
    unfold guardOf
    cases hgd : o.guard with
    | none => rfl
    | some p =>
      obtain ⟨j, want⟩ := p
      simp only []
      cases ht : (ops[j]?).bind (·.dst) with
      | none => rfl
      | some t => simp only []; rw [h t (looks_guard hgd ht)]
  unfold AStep at hs ⊢
  rw [← hg]
  split
  · rename_i h1
    rw [h1] at hs
    simp only at hs
    intro w0 G act w Q K' hI hr hK
    exact hs w0 G act w Q K' hI (fun y hy => by rw [hop y hy]; exact hr y hy) hK
  · rename_i h1; rw [h1] at hs; exact hs
  · rename_i h1; rw [h1] at hs; exact hs

theorem AStep.sound {Q : Exit → Act → World → Prop} {i : Nat} {o : Oper} (ho : ops[i]? = some o) {fr : Nat → AV} (hS : Sim w0 G n a w fr σ) (hdst : ∀ (j : Nat) (o : Oper), ops[j]? = some o → dstOk n o.dst) {x : AV} {σ' : St} (h : AStep P ops o fr σ x σ') {K' : Act → World → Prop}
    (hK : ∀ a' w' G', G.Le G' → Sim w0 G' n a' w' (putO fr o.dst x) σ' → K' a' w') : wpOp P ops Q i K' a w := by
  have hd := hdst i o ho
  have hgd : ∀ (b : Bool), guardOf ops o fr = some b → Region.wanted o (yielded ops a.tmps) = b := fun b hb =>
    wanted_of (n := n) hS.frm (fun t ht => by rw [hS.size]; exact ht) hb (fun j want t _ ht => by
      cases hj : ops[j]? with
      | none => rw [hj] at ht; cases ht
      | some oj =>
        rw [hj] at ht
        have := hdst j oj hj
        simp only [Option.bind_some] at ht
        rw [ht] at this
        rw [hS.size]; exact this)
  unfold AStep at h
  unfold wpOp
  rw [ho]
  simp only []
  split at h
  · rename_i hg
    rw [if_pos (hgd true hg)]
    refine .inl (h w0 G a w Q K' hS.inv (fun x _ => rel_aeval hS.frm x) ?_)
    rintro v y σ2 w' G' ⟨rfl, rfl⟩ hG hI hr
    exact hK _ _ G' hG (hS.put hG hI hd hr)
  · rename_i hg
    rw [if_neg (by rw [hgd false hg]; simp)]
    obtain ⟨rfl, rfl⟩ := h
    exact hK _ _ G (.refl G) (hS.put (.refl G) hS.inv hd (rel_undef _))
  · exact h.elim

def Lst (listed : Array Bool) (i : Nat) : Prop := listed.getD i false = true
def ClosedL (ops : Array Oper) (listed : Array Bool) : Prop := ∀ (k : Nat) (o : Oper), ops[k]? = some o → Lst listed k → ∀ e ∈ o.after, Region.binds .any e = true → Lst listed e.on
theorem tab_spec {B : Array Nat} (h : chkTab ops B = true) {k i : Nat} (hk : k < ops.size) (hi : i < ops.size) (hb : befB B k i = true) : ∃ o e, ops[k]? = some o ∧ e ∈ o.after ∧ Region.binds .any e = true ∧ e.on < k ∧ (e.on = i ∨ befB B e.on i = true) := by
  unfold chkTab at h
  rw [List.all_eq_true] at h
  have h1 := h k (List.mem_range.2 hk)
  have ho : ops[k]? = some ops[k] := Array.getElem?_eq_getElem hk
  rw [ho] at h1
  simp only [List.all_eq_true] at h1
  have h2 := h1 i (List.mem_range.2 hi)
  rw [hb] at h2
  simp only [Bool.not_true, Bool.false_or] at h2
  obtain ⟨e, he, h3⟩ := List.any_eq_true.1 h2
  simp only [Bool.and_eq_true, Bool.or_eq_true, decide_eq_true_eq, beq_iff_eq] at h3
  exact ⟨_, e, ho, Array.mem_toList_iff.1 he, h3.1.1, h3.1.2, h3.2⟩
theorem before_listed {B : Array Nat} (h : chkTab ops B = true) {listed : Array Bool} (hc : ClosedL ops listed) {i : Nat} (hi : i < ops.size) : ∀ (m k : Nat), k ≤ m → k < ops.size → befB B k i = true → (∀ (o : Oper), ops[k]? = some o → ∀ e ∈ o.after, Region.binds .any e = true → Lst listed e.on) → Lst listed i := by
  intro m
  induction m with
  | zero =>
    intro k hkm hk hb hp
    obtain ⟨o, e, ho, he, h1, h2, h3⟩ := tab_spec h hk hi hb
    omega
  | succ m ih =>
    intro k hkm hk hb hp
    obtain ⟨o, e, ho, he, h1, h2, h3⟩ := tab_spec h hk hi hb
    have hl := hp o ho e he h1
    rcases h3 with h3 | h3
    · rw [← h3]; exact hl
    · exact ih e.on (by omega) (by omega) h3 (fun o' ho' e' he' h' => hc _ o' ho' hl e' he' h')
theorem ready_before (h : chkTab ops (Region.before ops) = true) {listed : Array Bool} (hc : ClosedL ops listed) {i : Nat} (hr : i ∈ Region.ready .any ops listed) {k : Nat} (hk : k < ops.size) (hb : befB (Region.before ops) i k = true) : Lst listed k := by
  obtain ⟨h0, o, ho, hall⟩ := mem_ready.1 hr
  have hi : i < ops.size := (Array.getElem?_eq_some_iff.1 ho).1
  exact before_listed h hc hk i i (Nat.le_refl _) hi hb (fun o' ho' e he hbd => by rw [ho] at ho'; cases ho'; exact hall e he hbd)
theorem ready_not {i : Nat} {listed : Array Bool} (hr : i ∈ Region.ready .any ops listed) : ¬ Lst listed i := by
  obtain ⟨h0, o, ho, hall⟩ := mem_ready.1 hr
  unfold Lst
  have hi : i < listed.size := by
    rcases Nat.lt_or_ge i listed.size with h | h
    · exact h
    · simp [Array.getElem?_eq_none h] at h0
  simp [hi] at h0 ⊢
  exact h0

theorem filter_lt {l : List Nat} {p q : Nat → Bool} (h : ∀ x ∈ l, q x = true → p x = true) (hx : ∃ x ∈ l, p x = true ∧ q x = false) : (l.filter q).length < (l.filter p).length := by
  induction l with
  | nil => obtain ⟨x, hx, _⟩ := hx; cases hx
  | cons y l ih =>
    have hle : ∀ (l : List Nat), (∀ x ∈ l, q x = true → p x = true) → (l.filter q).length ≤ (l.filter p).length := by
      intro l
      induction l with
      | nil => intro _; exact Nat.le_refl _
      | cons z l ih2 =>
        intro hz
        have h1 := ih2 (fun x hx => hz x (List.mem_cons_of_mem _ hx))
        have h2 := hz z List.mem_cons_self
        simp only [List.filter_cons]
        cases hq : q z
        · cases hp : p z <;> simp <;> omega
        · rw [h2 hq]; simp; exact h1
    obtain ⟨x, hx, hp, hq⟩ := hx
    have h1 := h y List.mem_cons_self
    simp only [List.filter_cons]
    rcases List.mem_cons.1 hx with rfl | hx
    · rw [hp, hq]
      have := hle l (fun z hz => h z (List.mem_cons_of_mem _ hz))
      simp; omega
    · have h2 := ih (fun z hz => h z (List.mem_cons_of_mem _ hz)) ⟨x, hx, hp, hq⟩
      cases hqy : q y
      · cases hpy : p y <;> simp <;> omega
      · rw [h1 hqy]; simp; exact h2

def wOf (ops : Array Oper) (t : Tmp) : Option Nat := (List.range ops.size).find? fun k => dstAt ops k == some t
theorem dst_inj (h : chkDst ops = true) {i k : Nat} (hi : i < ops.size) (hk : k < ops.size) {t : Tmp} (h1 : dstAt ops i = some t) (h2 : dstAt ops k = some t) : i = k := by
  unfold chkDst at h
  rw [List.all_eq_true] at h
  rcases Nat.lt_trichotomy i k with hlt | hlt | hlt
  · have h3 := h i (List.mem_range.2 hi)
    rw [List.all_eq_true] at h3
    have h4 := h3 k (List.mem_range.2 hk)
    simp [hlt, h1, h2] at h4
  · exact hlt
  · have h3 := h k (List.mem_range.2 hk)
    rw [List.all_eq_true] at h3
    have h4 := h3 i (List.mem_range.2 hi)
    simp [hlt, h1, h2] at h4
theorem wOf_some (h : chkDst ops = true) {k : Nat} (hk : k < ops.size) {t : Tmp} (ht : dstAt ops k = some t) : wOf ops t = some k := by
  unfold wOf
  cases hf : (List.range ops.size).find? fun k => dstAt ops k == some t with
  | none => have := List.find?_eq_none.1 hf k (List.mem_range.2 hk); simp [ht] at this
  | some k' =>
    have h1 := List.find?_some hf
    have h2 := List.mem_of_find?_eq_some hf
    simp at h1 h2
    rw [dst_inj h h2 hk h1 ht]
theorem wOf_dst {k : Nat} {t : Tmp} (h : wOf ops t = some k) : k < ops.size ∧ dstAt ops k = some t := by
  unfold wOf at h
  have h1 := List.find?_some h
  have h2 := List.mem_of_find?_eq_some h
  simp at h1 h2
  exact ⟨h2, h1⟩
def frL (ops : Array Oper) (fr0 : Nat → AV) (aas : Nat → AV) (listed : Array Bool) : Nat → AV := fun t => match wOf ops t with
  | some k => if listed.getD k false = true then aas k else fr0 t
  | none => fr0 t
def frT (ops : Array Oper) (fr0 : Nat → AV) (aas : Nat → AV) : Nat → Nat → AV
  | 0 => fr0
  | i + 1 => putO (frT ops fr0 aas i) (dstAt ops i) (aas i)
theorem putO_at (fr : Nat → AV) (d : Option Tmp) (x : AV) (t : Nat) : putO fr d x t = if d = some t then x else fr t := by
  cases d with
  | none => simp [putO]
  | some u =>
    simp only [putO, upd, Option.some.injEq]
    by_cases h : u = t
    · subst h; simp
    · simp [h, Ne.symm h]
theorem frT_eq (h : chkDst ops = true) (fr0 : Nat → AV) (aas : Nat → AV) (t : Nat) : ∀ i, i ≤ ops.size → frT ops fr0 aas i t = match wOf ops t with | some k => if k < i then aas k else fr0 t | none => fr0 t
  | 0, _ => by
    simp only [frT]
    cases wOf ops t <;> simp
  | i + 1, hi => by
    simp only [frT, putO_at]
    rw [frT_eq h fr0 aas t i (by omega)]
    by_cases hd : dstAt ops i = some t
    · rw [if_pos hd, wOf_some h (by omega) hd]
      simp
    · rw [if_neg hd]
      cases hw : wOf ops t with
      | none => rfl
      | some k =>
        have hk := wOf_dst hw
        have hne : k ≠ i := fun e => hd (e ▸ hk.2)
        simp only []
        by_cases hki : k < i
        · rw [if_pos hki, if_pos (by omega)]
        · rw [if_neg hki, if_neg (by omega)]
theorem frL_set (h : chkDst ops = true) (fr0 : Nat → AV) (aas : Nat → AV) {listed : Array Bool} {i : Nat} (hi : i < ops.size) (hl : listed.size = ops.size) : frL ops fr0 aas (listed.setIfInBounds i true) = putO (frL ops fr0 aas listed) (dstAt ops i) (aas i) := by
  funext t
  rw [putO_at]
  unfold frL
  by_cases hd : dstAt ops i = some t
  · rw [if_pos hd, wOf_some h hi hd]
    simp [hl, hi]
  · rw [if_neg hd]
    cases hw : wOf ops t with
    | none => rfl
    | some k =>
      have hk := wOf_dst hw
      have hne : i ≠ k := fun e => hd (e ▸ hk.2)
      simp only []
      rw [getD_set_ne false hne]
theorem frL_looks (hchk : chkTab ops (Region.before ops) = true) (hnm : chkNames ops (Region.before ops) = true) (hd : chkDst ops = true) (fr0 : Nat → AV) (aas : Nat → AV) {listed : Array Bool} (hc : ClosedL ops listed) {i : Nat} {o : Oper} (ho : ops[i]? = some o) (hr : i ∈ Region.ready .any ops listed) :
    ∀ t ∈ o.looksAt ops, frL ops fr0 aas listed t = frT ops fr0 aas i t := by
  intro t ht
  have hi : i < ops.size := (Array.getElem?_eq_some_iff.1 ho).1
  rw [frT_eq hd fr0 aas t i (by omega)]
  unfold frL
  cases hw : wOf ops t with
  | none => rfl
  | some k =>
    simp only []
    obtain ⟨hk, hkd⟩ := wOf_dst hw
    unfold chkNames at hnm
    rw [List.all_eq_true] at hnm
    have h1 := hnm i (List.mem_range.2 hi)
    rw [ho] at h1
    simp only [List.all_eq_true] at h1
    have h2 := h1 t ht k (List.mem_range.2 hk)
    simp only [hkd, BEq.rfl, Bool.not_true, Bool.false_or, Bool.and_eq_true, Bool.not_eq_true', beq_eq_false_iff_ne, Bool.or_eq_true, decide_eq_false_iff_not] at h2
    obtain ⟨⟨hne, h3⟩, h4⟩ := h2
    by_cases hki : k < i
    · rw [if_pos hki]
      have := ready_before hchk hc hr hk (h3.resolve_left (by omega))
      rw [if_pos (show listed.getD k false = true from this)]
    · rw [if_neg hki]
      have hb := h4.resolve_left (by omega)
      rw [if_neg]
      intro hlk
      exact ready_not hr (before_listed hchk hc hi k k (Nat.le_refl _) hk hb (fun o' ho' e he hbd => hc k o' ho' hlk e he hbd))

def stg (listed : Array Bool) : List Nat → Nat
  | [] => 0
  | s :: r => if listed.getD s false = true then stg listed r + 1 else 0
theorem chkS_mem {B : Array Nat} {n : Nat} : ∀ {S : List Nat}, chkS B n S = true → ∀ s ∈ S, s < n
  | [], _, s, hs => by cases hs
  | x :: r, h, s, hs => by
    simp only [chkS, Bool.and_eq_true, decide_eq_true_eq] at h
    rcases List.mem_cons.1 hs with rfl | hs
    · exact h.1.1
    · exact chkS_mem h.2 s hs
theorem stg_spec (hchk : chkTab ops (Region.before ops) = true) {listed : Array Bool} (hc : ClosedL ops listed) : ∀ {S : List Nat}, chkS (Region.before ops) ops.size S = true → (∀ s ∈ S.take (stg listed S), Lst listed s) ∧ (∀ s ∈ S.drop (stg listed S), ¬ Lst listed s) ∧ stg listed S ≤ S.length
  | [], _ => ⟨fun s hs => by simp at hs, fun s hs => by simp at hs, Nat.le_refl _⟩
  | x :: r, h => by
    simp only [chkS, Bool.and_eq_true, decide_eq_true_eq, List.all_eq_true] at h
    obtain ⟨⟨hx, hr⟩, hr2⟩ := h
    obtain ⟨i1, i2, i3⟩ := stg_spec hchk hc hr2
    simp only [stg]
    split
    · rename_i hl
      refine ⟨fun s hs => ?_, fun s hs => i2 s (by simpa using hs), by simp; exact i3⟩
      rw [List.take_succ_cons] at hs
      rcases List.mem_cons.1 hs with rfl | hs
      · exact hl
      · exact i1 s hs
    · rename_i hl
      refine ⟨fun s hs => by simp at hs, fun s hs => ?_, Nat.zero_le _⟩
      simp only [List.drop_zero] at hs
      rcases List.mem_cons.1 hs with rfl | hs
      · exact hl
      · intro hls
        have hs' : s < ops.size := chkS_mem hr2 s hs
        exact hl (before_listed hchk hc hx s s (Nat.le_refl _) hs' (hr s hs).1 (fun o' ho' e he hbd => hc s o' ho' hls e he hbd))
theorem stg_notin {listed : Array Bool} {i : Nat} : ∀ {S : List Nat}, i ∉ S → stg (listed.setIfInBounds i true) S = stg listed S
  | [], _ => rfl
  | x :: r, h => by
    simp only [List.mem_cons, not_or] at h
    simp only [stg]
    rw [getD_set_ne false h.1, stg_notin h.2]
theorem stg_in (hchk : chkTab ops (Region.before ops) = true) {listed : Array Bool} (hc : ClosedL ops listed) (hl : listed.size = ops.size) {i : Nat} (hr : i ∈ Region.ready .any ops listed) : ∀ {S : List Nat}, chkS (Region.before ops) ops.size S = true → i ∈ S →
    S[stg listed S]? = some i ∧ stg (listed.setIfInBounds i true) S = stg listed S + 1
  | [], _, h => by cases h
  | x :: r, h, hi => by
    have h' := h
    simp only [chkS, Bool.and_eq_true, decide_eq_true_eq, List.all_eq_true] at h'
    obtain ⟨⟨hx, hrr⟩, hr2⟩ := h'
    by_cases hxi : x = i
    · subst hxi
      have hn := ready_not hr
      have hset : (listed.setIfInBounds x true).getD x false = true := by simp [hl, hx]
      have hxr : x ∉ r := fun hm => by have := (hrr x hm).2; omega
      have hstop : stg listed r = 0 := by
        cases r with
        | nil => rfl
        | cons y r' =>
          simp only [stg]
          rw [if_neg]
          intro hy
          have hy' := hrr y List.mem_cons_self
          have hys : y < ops.size := chkS_mem hr2 y List.mem_cons_self
          exact hn (before_listed hchk hc hx y y (Nat.le_refl _) hys hy'.1 (fun o' ho' e he hbd => hc y o' ho' hy e he hbd))
      simp only [stg]
      rw [if_neg (show ¬ listed.getD x false = true from hn), if_pos hset, stg_notin hxr, hstop]
      exact ⟨rfl, rfl⟩
    · have him : i ∈ r := (List.mem_cons.1 hi).resolve_left (Ne.symm hxi)
      have hxl : Lst listed x := ready_before hchk hc hr hx (hrr i him).1
      obtain ⟨k1, k2⟩ := stg_in hchk hc hl hr hr2 him
      simp only [stg]
      rw [if_pos (show listed.getD x false = true from hxl), if_pos (by unfold Lst at hxl; rw [getD_set_ne false (Ne.symm hxi)]; exact hxl), k2]
      exact ⟨by simpa using k1, rfl⟩
theorem win_mem (hchk : chkTab ops (Region.before ops) = true) {listed : Array Bool} (hc : ClosedL ops listed) {S : List Nat} (hS : chkS (Region.before ops) ops.size S = true) {i : Nat} (hr : i ∈ Region.ready .any ops listed) : stg listed S ∈ win ops S i := by
  obtain ⟨h1, h2, h3⟩ := stg_spec hchk hc hS
  obtain ⟨_, o, ho, _⟩ := mem_ready.1 hr
  have hi : i < ops.size := (Array.getElem?_eq_some_iff.1 ho).1
  unfold win
  rw [List.mem_filter]
  refine ⟨List.mem_range.2 (by omega), ?_⟩
  simp only [Bool.and_eq_true, List.all_eq_true, Bool.not_eq_true']
  refine ⟨fun s hs => ?_, fun s hs => ?_⟩
  · cases hb : befB (Region.before ops) s i with
    | false => rfl
    | true =>
      have hls := h1 s hs
      have hss := chkS_mem hS s (List.mem_of_mem_take hs)
      exact absurd (before_listed hchk hc hi s s (Nat.le_refl _) hss hb (fun o' ho' e he hbd => hc s o' ho' hls e he hbd)) (ready_not hr)
  · cases hb : befB (Region.before ops) i s with
    | false => rfl
    | true =>
      have hss := chkS_mem hS s (List.mem_of_mem_drop hs)
      exact absurd (ready_before hchk hc hr hss hb) (h2 s hs)

theorem draw_main (hchk : drawChk ops S = true) {Q : Exit → Act → World → Prop} (hdst : ∀ (j : Nat) (o : Oper), ops[j]? = some o → dstOk n o.dst) (fr0 : Nat → AV) (aas : Nat → AV) (σs : Nat → St)
    (hin : ∀ (i j : Nat) (o : Oper), ops[i]? = some o → S[j]? = some i → AStep P ops o (frT ops fr0 aas i) (σs j) (aas i) (σs (j + 1)))
    (hout : ∀ (i : Nat) (o : Oper), ops[i]? = some o → i ∉ S → ∀ j ∈ win ops S i, AStep P ops o (frT ops fr0 aas i) (σs j) (aas i) (σs j))
    (hQ : ∀ G' a' w', G.Le G' → Sim w0 G' n a' w' (frT ops fr0 aas ops.size) (σs S.length) → Q .normal a' w') :
    ∀ (fuel : Nat) (listed : Array Bool) (G' : Ghost) (a : Act) (w : World), ((List.range ops.size).filter fun k => !listed.getD k false).length ≤ fuel → listed.size = ops.size → ClosedL ops listed → G.Le G' →
      Sim w0 G' n a w (frL ops fr0 aas listed) (σs (stg listed S)) → wpAny P .any ops Q fuel listed a w := by
  simp only [drawChk, Bool.and_eq_true] at hchk
  obtain ⟨⟨⟨⟨c1, c2⟩, c3⟩, c4⟩, c5⟩ := hchk
  have hedge : ∀ (k : Nat) (o : Oper), ops[k]? = some o → ∀ e ∈ o.after, Region.binds .any e = true → e.on < k := by
    intro k o ho e he hb
    unfold chkEdges at c5
    rw [List.all_eq_true] at c5
    have h1 := c5 k (List.mem_range.2 (Array.getElem?_eq_some_iff.1 ho).1)
    rw [ho] at h1
    simp only [List.all_eq_true] at h1
    have h2 := h1 e (Array.mem_toList_iff.2 he)
    simpa [hb] using h2
  have hnil : ∀ (listed : Array Bool), listed.size = ops.size → Region.ready .any ops listed = [] → ∀ k, k < ops.size → Lst listed k := by
    intro listed hl hr k
    induction k using Nat.strongRecOn with
    | _ k ih =>
      intro hk
      cases hlk : listed.getD k false with
      | true => exact hlk
      | false =>
        have : k ∈ Region.ready .any ops listed := by
          refine mem_ready.2 ⟨?_, ops[k], Array.getElem?_eq_getElem hk, fun e he hb => ?_⟩
          · have : k < listed.size := by omega
            simpa [this] using hlk
          · have hlt := hedge k _ (Array.getElem?_eq_getElem hk) e he hb
            exact ih e.on hlt (by omega)
        rw [hr] at this
        cases this
  have hend : ∀ (listed : Array Bool) (G' : Ghost) (a : Act) (w : World), listed.size = ops.size → ClosedL ops listed → G.Le G' → Sim w0 G' n a w (frL ops fr0 aas listed) (σs (stg listed S)) → Region.ready .any ops listed = [] → Q .normal a w := by
    intro listed G' a w hl hc hG hS hr
    have hall := hnil listed hl hr
    have e1 : frL ops fr0 aas listed = frT ops fr0 aas ops.size := by
      funext t
      rw [frT_eq c3 fr0 aas t _ (Nat.le_refl _)]
      unfold frL
      cases hw : wOf ops t with
      | none => rfl
      | some k =>
        have hk := (wOf_dst hw).1
        simp only []
        rw [if_pos (show listed.getD k false = true from hall k hk), if_pos hk]
    have e2 : stg listed S = S.length := by
      obtain ⟨_, h2, h3⟩ := stg_spec c1 hc c4
      rcases Nat.lt_or_ge (stg listed S) S.length with hlt | hge
      · have hm : S[stg listed S] ∈ S.drop (stg listed S) := by
          rw [List.drop_eq_getElem_cons hlt]; exact List.mem_cons_self
        exact absurd (hall _ (chkS_mem c4 _ (List.getElem_mem hlt))) (h2 _ hm)
      · omega
    rw [e1, e2] at hS
    exact hQ G' a w hG hS
  intro fuel
  induction fuel with
  | zero =>
    intro listed G' a w hf hl hc hG hS
    have hr : Region.ready .any ops listed = [] := by
      apply List.eq_nil_iff_forall_not_mem.2
      intro i hi
      have hn := ready_not hi
      obtain ⟨_, o, ho, _⟩ := mem_ready.1 hi
      have hilt : i < ops.size := (Array.getElem?_eq_some_iff.1 ho).1
      have : i ∈ (List.range ops.size).filter fun k => !listed.getD k false := by
        rw [List.mem_filter]
        exact ⟨List.mem_range.2 hilt, by unfold Lst at hn; simpa using hn⟩
      have := List.length_pos_of_mem this
      omega
    exact ⟨hr, hend listed G' a w hl hc hG hS hr⟩
  | succ fuel ih =>
    intro listed G' a w hf hl hc hG hS
    refine ⟨fun hr => hend listed G' a w hl hc hG hS hr, fun i hi => ?_⟩
    obtain ⟨h0, o, ho, hall⟩ := mem_ready.1 hi
    have hilt : i < ops.size := (Array.getElem?_eq_some_iff.1 ho).1
    have hlk := frL_looks c1 c2 c3 fr0 aas hc ho hi
    have hstep : AStep P ops o (frL ops fr0 aas listed) (σs (stg listed S)) (aas i) (σs (stg (listed.setIfInBounds i true) S)) := by
      by_cases hiS : i ∈ S
      · obtain ⟨k1, k2⟩ := stg_in c1 hc hl hi c4 hiS
        rw [k2]
        exact (hin i _ o ho k1).congr (fun t ht => (hlk t ht).symm)
      · rw [stg_notin hiS]
        exact (hout i o ho hiS _ (win_mem c1 hc c4 hi)).congr (fun t ht => (hlk t ht).symm)
    refine AStep.sound ho hS hdst hstep (fun a' w' G2 hG2 hS2 => ?_)
    refine ih (listed.setIfInBounds i true) G2 a' w' ?_ (by simpa using hl) ?_ (hG.trans hG2) ?_
    · have hlt : ((List.range ops.size).filter fun k => !(listed.setIfInBounds i true).getD k false).length < ((List.range ops.size).filter fun k => !listed.getD k false).length := by
        refine filter_lt (fun x _ hx => ?_) ⟨i, List.mem_range.2 hilt, by have := ready_not hi; unfold Lst at this; simpa using this, by simp [hl, hilt]⟩
        by_cases hxi : i = x
        · subst hxi; simp [hl, hilt] at hx
        · rw [getD_set_ne false hxi] at hx; exact hx
      omega
    · intro k o' ho' hk e he hb
      by_cases hki : i = k
      · subst hki
        rw [ho] at ho'
        cases ho'
        exact getD_set_true (hall e he hb)
      · unfold Lst at hk
        rw [getD_set_ne false hki] at hk
        exact getD_set_true (hc k o' ho' hk e he hb)
    · rw [frL_set c3 fr0 aas hilt hl]
      have : dstAt ops i = o.dst := by simp [dstAt, ho]
      rw [this]
      exact hS2
end

def cutTok (κ : Nat → Option Nat) : Tok → Tok
  | .own t => match κ t with
    | some u => .own u
    | none => .no
  | k => k
mutual
def cutAV (ρ κ : Nat → Option Nat) : AV → AV
  | .sl t sz es => .sl (cutTok κ t) sz (cutL ρ κ es)
  | .agg cs => .agg (cutL ρ κ cs)
  | .tup vs => .tup (cutL ρ κ vs)
  | .fptr x o => .fptr (cutL ρ κ x) o
  | .iface t v => .iface t (cutAV ρ κ v)
  | .fn f a b => .fn f (cutL ρ κ a) (cutL ρ κ b)
  | .ref i o => match ρ i with
    | some j => .ref j o
    | none => .junk
  | .msl i o n => match ρ i with
    | some j => .msl j o n
    | none => .junk
  | .vec i z n => if n = 0 then .vec i z n else match ρ i with
    | some j => .vec j z n
    | none => .junk
  | .vc i z o n c => match ρ i with
    | some j => .vc j z o n c
    | none => .junk
  | .junk => .junk
  | .int k n => .int k n
  | .bool b => .bool b
  | .str s => .str s
  | .nilp => .nilp
  | .nils => .nils
  | .nilm => .nilm
  | .nilf => .nilf
  | .nili => .nili
  | .spc i => match ρ i with
    | some j => .spc j
    | none => .junk
  | .mapr i => match ρ i with
    | some j => .mapr j
    | none => .junk
  | .itc s p => .itc s p
  | .mpc ks vs => .mpc (cutL ρ κ ks) (cutL ρ κ vs)
  | .yld i => match ρ i with
    | some j => .yld j
    | none => .junk
  | .lpc b l ps x y => .lpc b (cutL ρ κ l) ps x y
  | .dfc b => .dfc b
def cutL (ρ κ : Nat → Option Nat) : List AV → List AV
  | [] => []
  | a :: l => cutAV ρ κ a :: cutL ρ κ l
end
theorem cutL_map (ρ κ : Nat → Option Nat) : ∀ l, cutL ρ κ l = l.map (cutAV ρ κ)
  | [] => rfl
  | a :: l => by rw [cutL, cutL_map ρ κ l]; rfl
theorem cutAV_cells (ρ κ : Nat → Option Nat) (a : AV) (h : ∀ cs, a ≠ .agg cs) : (cutAV ρ κ a).cells = [cutAV ρ κ a] := by
  cases a <;> first | rfl | exact absurd rfl (h _) | (simp only [cutAV]; split <;> rfl) | (simp only [cutAV]; repeat' split) <;> rfl
theorem cutAV_len (ρ κ : Nat → Option Nat) (a : AV) : (cutAV ρ κ a).cells.length = a.cells.length := by
  cases a <;> first | rfl | (simp only [cutAV]; split <;> rfl) | (simp only [cutAV]; repeat' split) <;> rfl | skip
  simp [cutAV, AV.cells, cutL_map]
theorem cutAV_at {ρ κ : Nat → Option Nat} {a : AV} {j : Nat} {x : AV} (h : (cutAV ρ κ a).cells[j]? = some x) : ∃ y, a.cells[j]? = some y ∧ x = cutAV ρ κ y := by
  by_cases hagg : ∃ cs, a = .agg cs
  · obtain ⟨cs, rfl⟩ := hagg
    simp only [cutAV, AV.cells, cutL_map, List.getElem?_map, Option.map_eq_some_iff] at h ⊢
    obtain ⟨y, h1, h2⟩ := h
    exact ⟨y, h1, h2.symm⟩
  · have hn : ∀ cs, a ≠ .agg cs := fun cs he => hagg ⟨cs, he⟩
    rw [cutAV_cells ρ κ a hn] at h
    have hc : a.cells = [a] := by cases a <;> first | rfl | exact absurd rfl (hn _)
    cases j with
    | zero => simp at h; exact ⟨a, by rw [hc]; rfl, h.symm⟩
    | succ j => simp at h
def Inj (ρ : Nat → Option Nat) : Prop := ∀ i i' j, ρ i = some j → ρ i' = some j → i = i'
open Classical in
noncomputable def Ghost.ren (G : Ghost) (ρ κ : Nat → Option Nat) (n : Nat) : Ghost :=
  { fz := G.fz, loc := fun j => if h : ∃ i, ρ i = some j then G.loc (Classical.choose h) else none, tok := fun u => if h : ∃ t, κ t = some u then G.tok (Classical.choose h) else none, nt := n, lit := G.lit, bsz := fun j => if h : ∃ i, ρ i = some j then G.bsz (Classical.choose h) else 0 }
theorem Ghost.ren_loc {G : Ghost} {ρ κ : Nat → Option Nat} {n : Nat} (hi : Inj ρ) {i j : Nat} (h : ρ i = some j) : (G.ren ρ κ n).loc j = G.loc i := by
  have hx : ∃ i, ρ i = some j := ⟨i, h⟩
  simp only [Ghost.ren, dif_pos hx]
  rw [hi _ _ _ (Classical.choose_spec hx) h]
theorem Ghost.ren_bsz {G : Ghost} {ρ κ : Nat → Option Nat} {n : Nat} (hi : Inj ρ) {i j : Nat} (h : ρ i = some j) : (G.ren ρ κ n).bsz j = G.bsz i := by
  have hx : ∃ i, ρ i = some j := ⟨i, h⟩
  simp only [Ghost.ren, dif_pos hx]
  rw [hi _ _ _ (Classical.choose_spec hx) h]
theorem Ghost.ren_tok {G : Ghost} {ρ κ : Nat → Option Nat} {n : Nat} (hi : Inj κ) {i j : Nat} (h : κ i = some j) : (G.ren ρ κ n).tok j = G.tok i := by
  have hx : ∃ i, κ i = some j := ⟨i, h⟩
  simp only [Ghost.ren, dif_pos hx]
  rw [hi _ _ _ (Classical.choose_spec hx) h]
theorem Ghost.ren_loc_inv {G : Ghost} {ρ κ : Nat → Option Nat} {n j b : Nat} (h : (G.ren ρ κ n).loc j = some b) : ∃ i, ρ i = some j ∧ G.loc i = some b := by
  simp only [Ghost.ren] at h
  split at h
  · rename_i hx; exact ⟨_, Classical.choose_spec hx, h⟩
  · cases h
theorem Ghost.ren_tok_inv {G : Ghost} {ρ κ : Nat → Option Nat} {n j : Nat} {x : Nat × Nat × Nat} (h : (G.ren ρ κ n).tok j = some x) : ∃ i, κ i = some j ∧ G.tok i = some x := by
  simp only [Ghost.ren] at h
  split at h
  · rename_i hx; exact ⟨_, Classical.choose_spec hx, h⟩
  · cases h
theorem TokOk.ren {G : Ghost} {t : Tok} {ρ κ : Nat → Option Nat} {n0 b o n c sz : Nat} (hi : Inj κ) (hn : ∀ t u, κ t = some u → u < n0) (h : TokOk G t b o n c sz) : TokOk (G.ren ρ κ n0) (cutTok κ t) b o n c sz := by
  cases t with
  | no => trivial
  | full => exact h
  | own t =>
    simp only [cutTok]
    split
    · rename_i u hu
      exact ⟨hn t u hu, h.2.imp id (fun e => by rw [Ghost.ren_tok hi hu]; exact e)⟩
    · trivial
theorem Rel.ren {G : Ghost} {v : Value} {a : AV} (h : Rel G v a) {ρ κ : Nat → Option Nat} {n0 : Nat} (hi : Inj ρ) (hk : Inj κ) (hn : ∀ t u, κ t = some u → u < n0) : Rel (G.ren ρ κ n0) v (Va.cutAV ρ κ a) := by
  induction h with
  | junk v => exact .junk v
  | int k n => exact .int k n
  | bool b => exact .bool b
  | str s => exact .str s
  | nilp => exact .nilp
  | nils => exact .nils
  | nilm => exact .nilm
  | nilf => exact .nilf
  | nili => exact .nili
  | spc id b h =>
    simp only [Va.cutAV]
    split
    · rename_i j hj; exact .spc j b (by rw [Ghost.ren_loc hi hj]; exact h)
    · exact .junk _
  | mapr id b h =>
    simp only [Va.cutAV]
    split
    · rename_i j hj; exact .mapr j b (by rw [Ghost.ren_loc hi hj]; exact h)
    · exact .junk _
  | yld id b h =>
    simp only [Va.cutAV]
    split
    · rename_i j hj; exact .yld j b (by rw [Ghost.ren_loc hi hj]; exact h)
    · exact .junk _
  | agg vs aas hl _ ih =>
    simp only [Va.cutAV, cutL_map]
    refine .agg vs _ (by simpa using hl) (fun i v a h1 h2 => ?_)
    rw [List.getElem?_map, Option.map_eq_some_iff] at h2
    obtain ⟨y, h2, rfl⟩ := h2
    exact ih i v y h1 h2
  | tup vs aas hl _ ih =>
    simp only [Va.cutAV, cutL_map]
    refine .tup vs _ (by simpa using hl) (fun i v a h1 h2 => ?_)
    rw [List.getElem?_map, Option.map_eq_some_iff] at h2
    obtain ⟨y, h2, rfl⟩ := h2
    exact ih i v y h1 h2
  | sl b o c t sz es val hc hm hz hf _ ht ih =>
    simp only [Va.cutAV, cutL_map]
    have hlen : (es.map (Va.cutAV ρ κ)).length = es.length := List.length_map ..
    rw [← hlen]
    refine .sl b o c _ sz _ val (by rw [hlen]; exact hc) hm (fun e he => ?_) (fun i e j a h1 h2 => ?_) (fun i e j a h1 h2 => ?_) (by rw [hlen]; exact ht.ren hk hn)
    · obtain ⟨y, hy, rfl⟩ := List.mem_map.1 he
      rw [cutAV_len]; exact hz y hy
    · rw [List.getElem?_map, Option.map_eq_some_iff] at h1
      obtain ⟨y, h1, rfl⟩ := h1
      obtain ⟨z, h3, rfl⟩ := cutAV_at h2
      exact hf i y j z h1 h3
    · rw [List.getElem?_map, Option.map_eq_some_iff] at h1
      obtain ⟨y, h1, rfl⟩ := h1
      obtain ⟨z, h3, rfl⟩ := cutAV_at h2
      exact ih i y j z h1 h3
  | sl0 A c t sz hm ht =>
    simp only [Va.cutAV, cutL]
    refine .sl0 A c _ sz hm ?_
    cases t with
    | no => exact .inl rfl
    | full => exact ht.imp id (fun h => ⟨h.1, trivial⟩)
    | own t =>
      simp only [cutTok]
      split
      · rename_i u hu
        exact .inr ⟨(ht.resolve_left (by simp)).1, hn t u hu⟩
      · exact .inl rfl
  | fptr b o off x val hf _ ih =>
    simp only [Va.cutAV, cutL_map]
    refine .fptr b o off _ val (fun j a h1 => ?_) (fun j a h1 => ?_)
    · rw [List.getElem?_map, Option.map_eq_some_iff] at h1
      obtain ⟨y, h1, rfl⟩ := h1
      exact hf j y h1
    · rw [List.getElem?_map, Option.map_eq_some_iff] at h1
      obtain ⟨y, h1, rfl⟩ := h1
      exact ih j y h1
  | ref id off b h =>
    simp only [Va.cutAV]
    split
    · rename_i j hj; exact .ref j off b (by rw [Ghost.ren_loc hi hj]; exact h)
    · exact .junk _
  | msl id off len c b hc h =>
    simp only [Va.cutAV]
    split
    · rename_i j hj; exact .msl j off len c b hc (by rw [Ghost.ren_loc hi hj]; exact h)
    · exact .junk _
  | vec id sz len c b h0 hc hm h hs =>
    simp only [Va.cutAV]
    rw [if_neg (by omega)]
    split
    · rename_i j hj; exact .vec j sz len c b h0 hc hm (by rw [Ghost.ren_loc hi hj]; exact h) (by rw [Ghost.ren_bsz hi hj]; exact hs)
    · exact .junk _
  | vec0 A id sz =>
    simp only [Va.cutAV, if_true]
    exact .vec0 A _ _
  | vc id sz off len c b hc hm h hs =>
    simp only [Va.cutAV]
    split
    · rename_i j hj; exact .vc j sz off len c b hc hm (by rw [Ghost.ren_loc hi hj]; exact h) (by rw [Ghost.ren_bsz hi hj]; exact hs)
    · exact .junk _
  | iface t v a _ ih => exact .iface t v _ ih
  | fn f fs cs fa ca hl hk' _ _ ih1 ih2 =>
    simp only [Va.cutAV, cutL_map]
    refine .fn f fs cs _ _ (by simpa using hl) (by simpa using hk') (fun i v a h1 h2 => ?_) (fun i v a h1 h2 => ?_)
    · rw [List.getElem?_map, Option.map_eq_some_iff] at h2
      obtain ⟨y, h2, rfl⟩ := h2
      exact ih1 i v y h1 h2
    · rw [List.getElem?_map, Option.map_eq_some_iff] at h2
      obtain ⟨y, h2, rfl⟩ := h2
      exact ih2 i v y h1 h2
theorem Rel.uncut {G : Ghost} {v : Value} {a : AV} (h : Rel G v a) {ρ κ : Nat → Option Nat} (hl : ∀ i b, G.loc i = some b → ρ i = some i) (hn : ∀ t, t < G.nt → κ t = some t) : Va.cutAV ρ κ a = a := by
  have hmap : ∀ {vs : Array Value} {aas : List AV}, vs.size = aas.length → (∀ (i : Nat) (v : Value) (a : AV), vs[i]? = some v → aas[i]? = some a → Va.cutAV ρ κ a = a) → aas.map (Va.cutAV ρ κ) = aas := by
    intro vs aas hs ih
    apply List.ext_getElem?
    intro i
    rw [List.getElem?_map]
    cases ha : aas[i]? with
    | none => rfl
    | some a =>
      have hi : i < vs.size := by rw [hs]; exact (List.getElem?_eq_some_iff.1 ha).1
      rw [Option.map_some, ih i vs[i] a (Array.getElem?_eq_getElem hi) ha]
  have htok : ∀ {t : Tok}, TokIn G t → cutTok κ t = t := by
    intro t ht
    cases t with
    | own t => simp only [cutTok]; rw [hn t ht]
    | _ => rfl
  induction h with
  | agg vs aas hl _ ih => simp only [Va.cutAV, cutL_map]; rw [hmap hl ih]
  | tup vs aas hl _ ih => simp only [Va.cutAV, cutL_map]; rw [hmap hl ih]
  | sl b o c t sz es val hc hm hz hf _ ht ih =>
    simp only [Va.cutAV, cutL_map]
    rw [htok ht.in_]
    have : es.map (Va.cutAV ρ κ) = es := by
      apply List.ext_getElem?
      intro i
      rw [List.getElem?_map]
      cases he : es[i]? with
      | none => rfl
      | some e =>
        rw [Option.map_some]
        congr 1
        have hcell : ∀ (j : Nat) (a : AV), e.cells[j]? = some a → Va.cutAV ρ κ a = a := fun j a hj => ih i e j a he hj
        by_cases hagg : ∃ cs, e = .agg cs
        · obtain ⟨cs, rfl⟩ := hagg
          simp only [Va.cutAV, cutL_map]
          congr 1
          apply List.ext_getElem?
          intro k
          rw [List.getElem?_map]
          cases hk : cs[k]? with
          | none => rfl
          | some y => rw [Option.map_some, hcell k y hk]
        · have hn' : ∀ cs, e ≠ .agg cs := fun cs h => hagg ⟨cs, h⟩
          have hc' : e.cells = [e] := by cases e <;> first | rfl | exact absurd rfl (hn' _)
          exact hcell 0 e (by rw [hc']; rfl)
    rw [this]
  | sl0 A c t sz hm ht =>
    simp only [Va.cutAV, cutL]
    rcases ht with rfl | ht
    · rfl
    · rw [htok ht.2]
  | fptr b o off x val hf _ ih =>
    simp only [Va.cutAV, cutL_map]
    congr 1
    apply List.ext_getElem?
    intro k
    rw [List.getElem?_map]
    cases hk : x[k]? with
    | none => rfl
    | some y => rw [Option.map_some, ih k y hk]
  | ref id off b h => simp only [Va.cutAV]; rw [hl _ _ h]
  | spc id b h => simp only [Va.cutAV]; rw [hl _ _ h]
  | mapr id b h => simp only [Va.cutAV]; rw [hl _ _ h]
  | yld id b h => simp only [Va.cutAV]; rw [hl _ _ h]
  | msl id off len c b hc h => simp only [Va.cutAV]; rw [hl _ _ h]
  | vec id sz len c b h0 hc hm h hs => simp only [Va.cutAV]; rw [hl _ _ h]; simp
  | vec0 A id sz => simp only [Va.cutAV, if_true]
  | vc id sz off len c b hc hm h hs => simp only [Va.cutAV]; rw [hl _ _ h]
  | iface t v a _ ih => simp only [Va.cutAV]; rw [ih]
  | fn f fs cs fa ca hl hk _ _ ih1 ih2 => simp only [Va.cutAV, cutL_map]; rw [hmap hl ih1, hmap hk ih2]
  | _ => rfl
theorem RelL.uncut {G : Ghost} {vs : List Value} {as_ : List AV} (h : RelL G vs as_) {ρ κ : Nat → Option Nat} (hl : ∀ i b, G.loc i = some b → ρ i = some i) (hn : ∀ t, t < G.nt → κ t = some t) : as_.map (Va.cutAV ρ κ) = as_ := by
  apply List.ext_getElem?
  intro k
  rw [List.getElem?_map]
  cases ha : as_[k]? with
  | none => rfl
  | some a =>
    obtain ⟨u, hu, hru⟩ := h.get ha
    rw [Option.map_some, hru.uncut hl hn]
theorem RelL.ren {G : Ghost} {vs : List Value} {as_ : List AV} (h : RelL G vs as_) {ρ κ : Nat → Option Nat} {n0 : Nat} (hi : Inj ρ) (hk : Inj κ) (hn : ∀ t u, κ t = some u → u < n0) : RelL (G.ren ρ κ n0) vs (as_.map (Va.cutAV ρ κ)) :=
  ⟨by simp [h.len], fun i v a h1 h2 => by
    rw [List.getElem?_map, Option.map_eq_some_iff] at h2
    obtain ⟨y, h2, rfl⟩ := h2
    exact (h.at_ i v y h1 h2).ren hi hk hn⟩
theorem SpO.ren {G : Ghost} {o : Obj} {a : AV} (h : SpO G o a) {ρ κ : Nat → Option Nat} {n0 : Nat} (hi : Inj ρ) (hk : Inj κ) (hn : ∀ t u, κ t = some u → u < n0) : SpO (G.ren ρ κ n0) o (Va.cutAV ρ κ a) := by
  cases h with
  | it s p => exact .it s p
  | mp es clock ks vs h1 h2 hb => simp only [Va.cutAV, cutL_map]; exact .mp es clock _ _ (h1.ren hi hk hn) (h2.ren hi hk hn) hb
  | lp r avs h1 hp => simp only [Va.cutAV, cutL_map]; exact .lp r _ (h1.ren hi hk hn) hp
  | df b => exact .df b
theorem SpO.uncut {G : Ghost} {o : Obj} {a : AV} (h : SpO G o a) {ρ κ : Nat → Option Nat} (hl : ∀ i b, G.loc i = some b → ρ i = some i) (hn : ∀ t, t < G.nt → κ t = some t) : Va.cutAV ρ κ a = a := by
  cases h with
  | it s p => rfl
  | mp es clock ks vs h1 h2 hb => simp only [Va.cutAV, cutL_map]; rw [h1.uncut hl hn, h2.uncut hl hn]
  | lp r avs h1 hp => simp only [Va.cutAV, cutL_map]; rw [h1.uncut hl hn]
  | df b => rfl
theorem cutAV_isSp (ρ κ : Nat → Option Nat) (a : AV) : (cutAV ρ κ a).isSp = a.isSp := by
  cases a <;> first | rfl | (simp only [cutAV]; split <;> rfl) | (simp only [cutAV]; repeat' split) <;> rfl
theorem cutL_spcl (ρ κ : Nat → Option Nat) (l : List AV) : spcl (cutL ρ κ l) = spcl l := by
  match l with
  | [] => rfl
  | [a] => simp only [cutL, spcl]; exact cutAV_isSp ρ κ a
  | _ :: _ :: _ => rfl
structure St.Le (σ σ' : St) : Prop where
  objs : ∀ (id : Nat) (c : List AV), σ.objs[id]? = some c → σ'.objs[id]? = some c
  opn : ∀ t : Nat, σ.opn[t]? = some true → σ'.opn[t]? = some true
theorem St.Le.refl (σ : St) : σ.Le σ := ⟨fun _ _ h => h, fun _ h => h⟩
structure Kept (σ σ' σ1 : St) (ρ κ : Nat → Option Nat) : Prop where
  inj : Inj ρ
  injt : Inj κ
  old : ∀ i, i < σ.objs.length → ρ i = some i
  oldt : ∀ t, t < σ.opn.length → κ t = some t
  dom : ∀ i j, ρ i = some j → j < σ1.objs.length
  domt : ∀ t u, κ t = some u → u < σ1.opn.length
  len : σ.opn.length ≤ σ1.opn.length
  gl : σ1.gl = σ.gl
  obj : ∀ (j : Nat) (c : List AV), σ1.objs[j]? = some c → ∃ i c', ρ i = some j ∧ σ'.objs[i]? = some c' ∧ ((σ.objs[i]? = some c' ∧ c = c') ∨ c = cutL ρ κ c')
  opn : ∀ t u : Nat, κ t = some u → σ1.opn[u]? = some true → σ'.opn[t]? = some true
theorem Inv.forget {w0 : World} {G G' : Ghost} {w w' : World} {σ σ' σ1 : St} {ρ κ : Nat → Option Nat} (h : Inv w0 G w σ) (hG : G.Le G') (h' : Inv w0 G' w' σ') (hk : Kept σ σ' σ1 ρ κ) :
    G.Le (G'.ren ρ κ σ1.opn.length) ∧ Inv w0 (G'.ren ρ κ σ1.opn.length) w' σ1 := by
  have hle : G.Le (G'.ren ρ κ σ1.opn.length) := ⟨hG.fz, fun i b hi => by rw [Ghost.ren_loc hk.inj (hk.old i (h.locdom i b hi))]; exact hG.loc i b hi, fun t x ht => by
    rw [Ghost.ren_tok hk.injt (hk.oldt t (h.tokdom t x ht))]; exact hG.tok t x ht, Nat.le_trans h.nt hk.len, hG.lit, fun i b hi => by rw [Ghost.ren_bsz hk.inj (hk.old i (h.locdom i b hi))]; exact hG.bsz i b hi⟩
  refine ⟨hle, ⟨h'.below, h'.fz, fun id c hc hn hs => ?_, fun id b o c hl hc hn => ?_, fun id b hl => ?_, fun id b hl => ?_, fun i j b c d hi hj hc hd hn hn' => ?_, fun t b top en ho ht => ?_, fun t x ht => ?_, fun t t' x x' a1 a2 a3 a4 a5 => ?_, Nat.le_refl _, fun b hb => ?_, by rw [hk.gl]; exact h.gl, fun id a hc hs => ?_⟩⟩
  · obtain ⟨i, c', hi, hc', hor⟩ := hk.obj id c hc
    have hn' : c' ≠ [] := fun he => by subst he; rcases hor with ⟨_, rfl⟩ | rfl <;> exact hn rfl
    have hs' : spcl c' = false := by rcases hor with ⟨_, rfl⟩ | rfl
                                     · exact hs
                                     · rwa [cutL_spcl] at hs
    obtain ⟨b, T, vs, f1, f2, f3, f4, f5, f6⟩ := h'.loc i c' hc' hn' hs'
    have hcut : c = c'.map (cutAV ρ κ) := by
      rcases hor with ⟨hor, rfl⟩ | hor
      · obtain ⟨b0, T0, vs0, e1, e2, e3, e4, e5, e6⟩ := h.loc i c hor hn hs
        apply List.ext_getElem?
        intro k
        rw [List.getElem?_map]
        cases ha : c[k]? with
        | none => rfl
        | some a =>
          obtain ⟨u, hu, hru⟩ := e4.rel.get ha
          rw [Option.map_some, hru.uncut (fun i b hi => hk.old i (h.locdom i b hi)) (fun t ht => hk.oldt t (Nat.lt_of_lt_of_le ht h.nt))]
      · rw [hor, cutL_map]
    refine ⟨b, T, vs, by rw [Ghost.ren_loc hk.inj hi]; exact f1, f2, f3, ⟨by rw [hcut, List.length_map]; exact f4.le, by rw [hcut, List.length_map]; exact f4.rel.len, fun k v a g1 g2 => ?_⟩, f5, by rw [Ghost.ren_bsz hk.inj hi]; exact f6⟩
    rw [hcut, List.length_map] at g1
    rw [hcut, List.getElem?_map, Option.map_eq_some_iff] at g2
    obtain ⟨y, g2, rfl⟩ := g2
    exact (f4.rel.at_ k v y g1 g2).ren hk.inj hk.injt hk.domt
  · obtain ⟨i, hi1, hi⟩ := Ghost.ren_loc_inv hl
    obtain ⟨i', c', hi2, hc', hor⟩ := hk.obj id c hc
    obtain rfl := hk.inj _ _ _ hi1 hi2
    exact h'.locfz i b o c' hi hc' (fun he => by subst he; rcases hor with ⟨_, rfl⟩ | rfl <;> exact hn rfl)
  · obtain ⟨i, _, hi⟩ := Ghost.ren_loc_inv hl
    exact h'.loclt i b hi
  · obtain ⟨i, hi, _⟩ := Ghost.ren_loc_inv hl
    exact hk.dom i id hi
  · obtain ⟨i', e1, e2⟩ := Ghost.ren_loc_inv hi
    obtain ⟨j', e3, e4⟩ := Ghost.ren_loc_inv hj
    obtain ⟨i2, c', g1, g2, gor⟩ := hk.obj i c hc
    obtain ⟨j2, d', g3, g4, gor'⟩ := hk.obj j d hd
    obtain rfl := hk.inj _ _ _ e1 g1
    obtain rfl := hk.inj _ _ _ e3 g3
    have := h'.locinj i' j' b c' d' e2 e4 g2 g4 (fun he => by subst he; rcases gor with ⟨_, rfl⟩ | rfl <;> exact hn rfl) (fun he => by subst he; rcases gor' with ⟨_, rfl⟩ | rfl <;> exact hn' rfl)
    subst this
    rw [e1] at e3
    cases e3; rfl
  · obtain ⟨t', e1, e2⟩ := Ghost.ren_tok_inv ht
    obtain ⟨k1, k2, k3, k4⟩ := h'.tok t' b top en (hk.opn t' t e1 ho) e2
    refine ⟨k1, k2, k3, fun id hl => ?_⟩
    obtain ⟨i, hi1, hi⟩ := Ghost.ren_loc_inv hl
    have hlt := hk.dom i id hi1
    obtain ⟨i', c', hi2, hc', hor⟩ := hk.obj id _ (List.getElem?_eq_getElem hlt)
    obtain rfl := hk.inj _ _ _ hi1 hi2
    rw [k4 i hi] at hc'
    cases hc'
    rw [List.getElem?_eq_getElem hlt]
    rcases hor with ⟨_, e⟩ | e
    · rw [e]
    · rw [e]; rfl
  · obtain ⟨t', e1, e2⟩ := Ghost.ren_tok_inv ht
    exact hk.domt t' t e1
  · obtain ⟨s, e1, e2⟩ := Ghost.ren_tok_inv a3
    obtain ⟨s', e3, e4⟩ := Ghost.ren_tok_inv a4
    have := h'.tokinj s s' x x' (hk.opn s t e1 a1) (hk.opn s' t' e3 a2) e2 e4 a5
    subst this
    rw [e1] at e3
    cases e3; rfl
  · obtain ⟨k1, k2, k3, k4⟩ := h'.lit b hb
    exact ⟨k1, k2, fun id hl => by obtain ⟨i, _, hi⟩ := Ghost.ren_loc_inv hl; exact k3 i hi, fun t x ho ht => by obtain ⟨t', e1, e2⟩ := Ghost.ren_tok_inv ht; exact k4 t' x (hk.opn t' t e1 ho) e2⟩
  · obtain ⟨i, c', hi, hc', hor⟩ := hk.obj id [a] hc
    have key : ∃ a', c' = [a'] ∧ a = cutAV ρ κ a' ∧ a'.isSp = true := by
      rcases hor with ⟨hor, rfl⟩ | hor
      · obtain ⟨b, o, e1, e2, e3, e4⟩ := h.sp i a hor hs
        exact ⟨a, rfl, (e4.uncut (fun i b hi => hk.old i (h.locdom i b hi)) (fun t ht => hk.oldt t (Nat.lt_of_lt_of_le ht h.nt))).symm, hs⟩
      · match c', hor with
        | [], hor => simp [cutL] at hor
        | [a'], hor =>
          simp only [cutL] at hor
          have e := (List.cons.inj hor).1
          exact ⟨a', rfl, e, by rw [e, cutAV_isSp] at hs; exact hs⟩
        | _ :: _ :: _, hor => simp [cutL] at hor
    obtain ⟨a', rfl, rfl, hs'⟩ := key
    obtain ⟨b, o, e1, e2, e3, e4⟩ := h'.sp i a' hc' hs'
    exact ⟨b, o, by rw [Ghost.ren_loc hk.inj hi]; exact e1, e2, e3, e4.ren hk.inj hk.injt hk.domt⟩
theorem ACall.ren {P : Program} {g : FuncId} {args : List AV} {σ : St} {K K' : AV → St → Prop} (h : ACall P g args σ K)
    (hk : ∀ a σ', K a σ' → ∃ σ1 b ρ κ, Kept σ σ' σ1 ρ κ ∧ Wk (cutAV ρ κ a) b ∧ K' b σ1) : ACall P g args σ K' := by
  refine ⟨h.1, fun w0 G w vs hI hr => (h.2 w0 G w vs hI hr).mono ?_⟩
  rintro e w' ⟨v, a, σ', G', rfl, h1, h2, h3, h4⟩
  obtain ⟨σ1, b, ρ, κ, c1, c5, c6⟩ := hk a σ' h4
  obtain ⟨k1, k2⟩ := hI.forget h1 h2 c1
  exact ⟨v, b, σ1, _, rfl, k1, k2, c5 _ _ (h3.ren c1.inj c1.injt c1.domt), c6⟩
def idl (n : Nat) : Nat → Option Nat := fun i => if i < n then some i else none
theorem idl_inj (n : Nat) : Inj (idl n) := by
  intro i i' j h1 h2
  simp only [idl] at h1 h2
  split at h1 <;> split at h2 <;> simp_all
theorem idl_lt {n i j : Nat} (h : idl n i = some j) : i = j ∧ j < n := by
  simp only [idl] at h
  split at h <;> simp_all
theorem kept_same {σ σ' σ1 : St} (hol : σ1.objs.length = σ.objs.length) (htl : σ1.opn.length = σ.opn.length) (hgl : σ1.gl = σ.gl) (ho : ∀ t : Nat, σ1.opn[t]? = some true → σ'.opn[t]? = some true)
    (hobj : ∀ (id : Nat) (c : List AV), σ1.objs[id]? = some c → σ'.objs[id]? = some c ∧ (σ.objs[id]? = some c ∨ cutL (idl σ.objs.length) (idl σ.opn.length) c = c)) : Kept σ σ' σ1 (idl σ.objs.length) (idl σ.opn.length) :=
  ⟨idl_inj _, idl_inj _, fun i hi => by simp [idl, hi], fun i hi => by simp [idl, hi], fun i j h => by rw [hol]; exact (idl_lt h).2, fun i j h => by rw [htl]; exact (idl_lt h).2, by omega, hgl, fun j c hc => by
    have hj : j < σ.objs.length := by rw [← hol]; exact (List.getElem?_eq_some_iff.1 hc).1
    obtain ⟨h1, h2⟩ := hobj j c hc
    exact ⟨j, c, by simp [idl, hj], h1, h2.imp (fun h => ⟨h, rfl⟩) (fun h => h.symm)⟩, fun t u h hu => by
    obtain ⟨rfl, _⟩ := idl_lt h; exact ho t hu⟩
theorem ACall.cut {P : Program} {g : FuncId} {args : List AV} {σ : St} {K K' : AV → St → Prop} (h : ACall P g args σ K)
    (hk : ∀ a σ', K a σ' → ∃ σ1 b, σ1.objs.length = σ.objs.length ∧ σ1.opn.length = σ.opn.length ∧ σ1.gl = σ.gl ∧ (∀ t : Nat, σ1.opn[t]? = some true → σ'.opn[t]? = some true) ∧
      (∀ (id : Nat) (c : List AV), σ1.objs[id]? = some c → σ'.objs[id]? = some c ∧ (σ.objs[id]? = some c ∨ cutL (idl σ.objs.length) (idl σ.opn.length) c = c)) ∧ Wk (cutAV (idl σ.objs.length) (idl σ.opn.length) a) b ∧ K' b σ1) : ACall P g args σ K' :=
  h.ren fun a σ' ha => by
    obtain ⟨σ1, b, c1, c2, cg, c3, c4, c5, c6⟩ := hk a σ' ha
    exact ⟨σ1, b, _, _, kept_same c1 c2 cg c3 c4, c5, c6⟩
section
variable {P : Program} {Ty : TypeId → Option TI} {w0 : World} {G : Ghost} {n : Nat} {a : Act} {w : World} {σ : St} {ops : Array Oper} {S : List Nat}

theorem frT_congr (fr0 : Nat → AV) {aas aas' : Nat → AV} : ∀ i, (∀ k, k < i → aas k = aas' k) → frT ops fr0 aas i = frT ops fr0 aas' i
  | 0, _ => rfl
  | i + 1, h => by
    simp only [frT]
    rw [frT_congr fr0 i (fun k hk => h k (by omega)), h i (by omega)]
inductive AExit where
  | normal
  | exit (id : Nat)
  | ret
def ExitRel : Exit → AExit → Prop
  | .normal, .normal => True
  | .exit i, .exit j => i = j
  | .ret, .ret => True
  | _, _ => False
def AWP (P : Program) (n : Nat) (c : Code) (Q : AExit → (Nat → AV) → St → Prop) (fr : Nat → AV) (σ : St) : Prop :=
  ∀ w0 G a w, Sim w0 G n a w fr σ → Code.wp P c (fun e a' w' => ∃ ae fr' σ' G', ExitRel e ae ∧ G.Le G' ∧ Sim w0 G' n a' w' fr' σ' ∧ Q ae fr' σ') a w
theorem AWP.mono {c : Code} {Q Q' : AExit → (Nat → AV) → St → Prop} {fr : Nat → AV} (h : AWP P n c Q fr σ) (hq : ∀ e fr σ, Q e fr σ → Q' e fr σ) : AWP P n c Q' fr σ :=
  fun w0 G a w hS => wp_mono (h w0 G a w hS) fun _ _ _ ⟨ae, fr', σ', G', h1, h2, h3, h4⟩ => ⟨ae, fr', σ', G', h1, h2, h3, hq _ _ _ h4⟩

def allDst (n : Nat) (ops : Array Oper) : Bool := ops.toList.all fun o => match o.dst with | some t => Nat.ble (t + 1) n | none => true
theorem allDst_spec (h : allDst n ops = true) (j : Nat) (o : Oper) (ho : ops[j]? = some o) : dstOk n o.dst := by
  unfold allDst at h
  rw [List.all_eq_true] at h
  have := h o (Array.mem_toList_iff.2 (Array.mem_of_getElem? ho))
  unfold dstOk
  cases hd : o.dst with
  | none => trivial
  | some t => rw [hd] at this; exact Nat.le_of_ble_eq_true this
theorem awp_region0 {id : Nat} {Q : AExit → (Nat → AV) → St → Prop} {fr : Nat → AV} (hd : allDst n ops = true) (h : wpo P n ops (Q .normal) ops.toList fr σ) : AWP P n (.region id ops false) Q fr σ := by
  intro w0 G a w hS
  refine wp_region ?_
  rw [List.range_eq_range']
  refine wpo_sound (allDst_spec hd) ops.size 0 G a w fr σ (by omega) hS (by simpa using h) (fun G' a' w' fr' σ' h1 h2 h3 => ⟨.normal, fr', σ', G', trivial, h1, h2, h3⟩)
def AReg (P : Program) (n : Nat) (ops : Array Oper) (Q : AExit → (Nat → AV) → St → Prop) (fr : Nat → AV) (σ : St) : Prop :=
  ∀ w0 G a w, Sim w0 G n a w fr σ → wpAny P .any ops (fun e a' w' => ∃ ae fr' σ' G', ExitRel e ae ∧ G.Le G' ∧ Sim w0 G' n a' w' fr' σ' ∧ Q ae fr' σ') ops.size (Array.replicate ops.size false) a { w with drawn := w.drawn + 1 }
theorem AReg.awp (hm : P.follows .mixedOrders = true) {id : Nat} {Q : AExit → (Nat → AV) → St → Prop} {fr : Nat → AV} (h : AReg P n ops Q fr σ) : AWP P n (.region id ops true) Q fr σ :=
  fun w0 G a w hS => wp_region_any hm (h w0 G a w hS)
theorem areg_draw {Q : AExit → (Nat → AV) → St → Prop} {fr : Nat → AV} (hd : allDst n ops = true) {S : List Nat} (hchk : drawChk ops S = true) (aas : Nat → AV) (σs : Nat → St)
    (hin : ∀ (i j : Nat) (o : Oper), ops[i]? = some o → S[j]? = some i → AStep P ops o (frT ops fr aas i) (σs j) (aas i) (σs (j + 1)))
    (hout : ∀ (i : Nat) (o : Oper), ops[i]? = some o → i ∉ S → ∀ j ∈ win ops S i, AStep P ops o (frT ops fr aas i) (σs j) (aas i) (σs j))
    (hQ : Q .normal (frT ops fr aas ops.size) (σs S.length)) (h0 : σs 0 = σ) : AReg P n ops Q fr σ := by
  intro w0 G a w hS
  have hst : stg (Array.replicate ops.size false) S = 0 := by
    cases S with
    | nil => rfl
    | cons s r =>
      simp only [stg]
      rw [if_neg]
      rw [Array.getD_eq_getD_getElem?, Array.getElem?_replicate]
      split <;> simp
  refine draw_main (w0 := w0) (G := G) hchk (allDst_spec hd) fr aas σs hin hout (fun G' a' w' h1 h2 => ⟨.normal, _, _, G', trivial, h1, h2, hQ⟩) ops.size (Array.replicate ops.size false) G a _ ?_ (by simp) ?_ (.refl G) ?_
  · exact Nat.le_trans (List.length_filter_le _ _) (by simp)
  · intro k o ho hk
    unfold Lst at hk
    rw [Array.getD_eq_getD_getElem?, Array.getElem?_replicate] at hk
    split at hk <;> simp at hk
  · rw [hst, h0]
    have hfr : frL ops fr aas (Array.replicate ops.size false) = fr := by
      funext t
      unfold frL
      cases wOf ops t with
      | none => rfl
      | some k =>
        simp only []
        rw [if_neg]
        rw [Array.getD_eq_getD_getElem?, Array.getElem?_replicate]
        split <;> simp
    rw [hfr]
    exact ⟨hS.inv.drew, hS.frm, hS.size, hS.defers⟩
theorem awp_draw (hm : P.follows .mixedOrders = true) {id : Nat} {Q : AExit → (Nat → AV) → St → Prop} {fr : Nat → AV} (hd : allDst n ops = true) {S : List Nat} (hchk : drawChk ops S = true) (aas : Nat → AV) (σs : Nat → St)
    (hin : ∀ (i j : Nat) (o : Oper), ops[i]? = some o → S[j]? = some i → AStep P ops o (frT ops fr aas i) (σs j) (aas i) (σs (j + 1)))
    (hout : ∀ (i : Nat) (o : Oper), ops[i]? = some o → i ∉ S → ∀ j ∈ win ops S i, AStep P ops o (frT ops fr aas i) (σs j) (aas i) (σs j))
    (hQ : Q .normal (frT ops fr aas ops.size) (σs S.length)) (h0 : σs 0 = σ) : AWP P n (.region id ops true) Q fr σ := (areg_draw hd hchk aas σs hin hout hQ h0).awp hm
theorem AWP.wk {c : Code} {Q : AExit → (Nat → AV) → St → Prop} {fr g : Nat → AV} (h : AWP P n c Q g σ) (k : WkF fr g) : AWP P n c Q fr σ :=
  fun w0 G a w hS => h w0 G a w ⟨hS.inv, hS.frm.wk k, hS.size, hS.defers⟩
theorem awp_skip {Q : AExit → (Nat → AV) → St → Prop} {fr : Nat → AV} (h : Q .normal fr σ) : AWP P n .skip Q fr σ := fun w0 G a w hS => wp_skip ⟨.normal, fr, σ, G, trivial, .refl G, hS, h⟩
theorem awp_ret {Q : AExit → (Nat → AV) → St → Prop} {fr : Nat → AV} (h : Q .ret fr σ) : AWP P n .ret Q fr σ := fun w0 G a w hS => wp_ret ⟨.ret, fr, σ, G, trivial, .refl G, hS, h⟩
theorem awp_exit {id : Nat} {Q : AExit → (Nat → AV) → St → Prop} {fr : Nat → AV} (h : Q (.exit id) fr σ) : AWP P n (.exit id) Q fr σ := fun w0 G a w hS => wp_exit ⟨.exit id, fr, σ, G, rfl, .refl G, hS, h⟩
def thenQ (b : (Nat → AV) → St → Prop) (Q : AExit → (Nat → AV) → St → Prop) : AExit → (Nat → AV) → St → Prop
  | .normal, fr, σ => b fr σ
  | e, fr, σ => Q e fr σ
def blockQ (id : Nat) (Q : AExit → (Nat → AV) → St → Prop) : AExit → (Nat → AV) → St → Prop
  | .exit i, fr, σ => bif Nat.beq i id then Q .normal fr σ else Q (.exit i) fr σ
  | e, fr, σ => Q e fr σ
theorem awp_seq {x y : Code} {Q : AExit → (Nat → AV) → St → Prop} {fr : Nat → AV} (h : AWP P n x (thenQ (AWP P n y Q) Q) fr σ) : AWP P n (.seq x y) Q fr σ := fun w0 G a w hS => by
  refine wp_seq (wp_mono (h w0 G a w hS) ?_)
  rintro e a' w' ⟨ae, fr', σ', G', hr, hG, hS', hq⟩
  cases e <;> cases ae <;> simp only [ExitRel] at hr
  · exact wp_mono (hq w0 G' a' w' hS') fun e a2 w2 ⟨ae, fr2, σ2, G2, k1, k2, k3, k4⟩ => ⟨ae, fr2, σ2, G2, k1, hG.trans k2, k3, k4⟩
  · subst hr; exact ⟨.exit _, fr', σ', G', rfl, hG, hS', hq⟩
  · exact ⟨.ret, fr', σ', G', trivial, hG, hS', hq⟩
theorem awp_cond {c : Operand} {x y : Code} {Q : AExit → (Nat → AV) → St → Prop} {fr : Nat → AV} {b : Bool} (hb : aeval fr c = .bool b) (h1 : b = true → AWP P n x Q fr σ) (h2 : b = false → AWP P n y Q fr σ) : AWP P n (.cond c x y) Q fr σ := fun w0 G a w hS => by
  have hr := rel_aeval hS.frm c
  rw [hb] at hr
  cases hv : a.eval c <;> rw [hv] at hr <;> cases hr
  exact wp_cond_split hv (fun ht => h1 ht w0 G a w hS) (fun hf => h2 hf w0 G a w hS)
theorem awp_block {id : Nat} {c : Code} {Q : AExit → (Nat → AV) → St → Prop} {fr : Nat → AV} (h : AWP P n c (blockQ id Q) fr σ) : AWP P n (.block id c) Q fr σ := fun w0 G a w hS => by
  refine wp_block (wp_mono (h w0 G a w hS) ?_)
  rintro e a' w' ⟨ae, fr', σ', G', hr, hG, hS', hq⟩
  cases e <;> cases ae <;> simp only [ExitRel] at hr
  · exact ⟨.normal, fr', σ', G', trivial, hG, hS', hq⟩
  · subst hr
    simp only [Exit.inBlock]
    simp only [blockQ] at hq
    split
    · rename_i he; subst he; rw [show Nat.beq _ _ = true from Nat.beq_refl _] at hq; exact ⟨.normal, fr', σ', G', trivial, hG, hS', hq⟩
    · rename_i he
      rw [show Nat.beq _ id = false from by cases hx : Nat.beq _ id with | false => rfl | true => exact absurd (Nat.eq_of_beq_eq_true hx) he] at hq
      exact ⟨.exit _, fr', σ', G', rfl, hG, hS', hq⟩
  · exact ⟨.ret, fr', σ', G', trivial, hG, hS', hq⟩

def rounds {S X : Type} (body : S → Option (S ⊕ X)) : Nat → S → Option X
  | 0, _ => none
  | k + 1, s => match body s with
    | none => none
    | some (.inl s') => rounds body k s'
    | some (.inr x) => some x
theorem rounds_more {S X : Type} {body : S → Option (S ⊕ X)} : ∀ {k : Nat} {s : S} {x : X}, rounds body k s = some x → ∀ m, k ≤ m → rounds body m s = some x
  | 0, s, x, h, m, hm => by cases h
  | k + 1, s, x, h, m, hm => by
    obtain ⟨m, rfl⟩ : ∃ j, m = j + 1 := ⟨m - 1, by omega⟩
    simp only [rounds] at h ⊢
    split <;> rename_i he <;> rw [he] at h
    · cases h
    · exact rounds_more h m (by omega)
    · exact h
open Classical in
noncomputable def loopO {S X : Type} (body : S → Option (S ⊕ X)) (s : S) : Option X := if h : ∃ k x, rounds body k s = some x then some (Classical.choose (Classical.choose_spec h)) else none
theorem loopO_iff {S X : Type} {body : S → Option (S ⊕ X)} {s : S} {x : X} : loopO body s = some x ↔ ∃ k, rounds body k s = some x := by
  unfold loopO
  constructor
  · intro h
    split at h
    · rename_i hx
      cases h
      exact ⟨_, Classical.choose_spec (Classical.choose_spec hx)⟩
    · cases h
  · rintro ⟨k, hk⟩
    have hx : ∃ k x, rounds body k s = some x := ⟨k, x, hk⟩
    rw [dif_pos hx]
    have h2 := Classical.choose_spec (Classical.choose_spec hx)
    have e1 := rounds_more hk (max k (Classical.choose hx)) (Nat.le_max_left _ _)
    have e2 := rounds_more h2 (max k (Classical.choose hx)) (Nat.le_max_right _ _)
    rw [e1] at e2
    exact e2.symm
theorem loopO_eq {S X : Type} (body : S → Option (S ⊕ X)) (s : S) : loopO body s = match body s with | none => none | some (.inl s') => loopO body s' | some (.inr x) => some x := by
  apply Option.ext
  intro x
  rw [loopO_iff]
  constructor
  · rintro ⟨k, hk⟩
    cases k with
    | zero => cases hk
    | succ k =>
      simp only [rounds] at hk
      split <;> rename_i he <;> rw [he] at hk
      · cases hk
      · exact loopO_iff.2 ⟨k, hk⟩
      · exact hk
  · intro h
    split at h <;> rename_i he
    · cases h
    · obtain ⟨k, hk⟩ := loopO_iff.1 h
      exact ⟨k + 1, by simp only [rounds, he]; exact hk⟩
    · exact ⟨1, by simp only [rounds, he]; exact h⟩
theorem loopO_in {S X : Type} {body : S → Option (S ⊕ X)} {s s' : S} (h : body s = some (.inl s')) : loopO body s = loopO body s' := by rw [loopO_eq, h]
theorem loopO_out {S X : Type} {body : S → Option (S ⊕ X)} {s : S} {x : X} (h : body s = some (.inr x)) : loopO body s = some x := by rw [loopO_eq, h]

theorem awp_loopO {S X : Type} {c : Code} {Q : AExit → (Nat → AV) → St → Prop} {fr : Nat → AV} {body : S → Option (S ⊕ X)} {s : S} {x : X} (H : loopO body s = some x) (I : S → (Nat → AV) → St → Prop) (h0 : I s fr σ)
    (h : ∀ s fr σ y, I s fr σ → body s = some y → (∀ z, y = .inr z → z = x) → AWP P n c (thenQ (fun fr' σ' => ∃ s', y = .inl s' ∧ I s' fr' σ') (fun e fr' σ' => (∃ z, y = .inr z) ∧ Q e fr' σ')) fr σ) : AWP P n (.loop c) Q fr σ := by
  obtain ⟨k, hk⟩ := loopO_iff.1 H
  intro w0 G a w hS b kk cs
  have key : ∀ (k : Nat) (s : S) (G' : Ghost) (a : Act) (w : World) (fr : Nat → AV) (σ : St), rounds body k s = some x → G.Le G' → I s fr σ → Sim w0 G' n a w fr σ → ∃ e a' w', (∃ ae fr' σ' G', ExitRel e ae ∧ G.Le G' ∧ Sim w0 G' n a' w' fr' σ' ∧ Q ae fr' σ') ∧ Arrives P (lone (b.at a (.code c :: .inLoop c :: kk)) cs w) b kk cs e a' w' := by
    intro k
    induction k with
    | zero => intro s G' a w fr σ hk; cases hk
    | succ k ih =>
      intro s G' a w fr σ hk hG hI hS
      simp only [rounds] at hk
      cases hb : body s with
      | none => rw [hb] at hk; cases hk
      | some y =>
        rw [hb] at hk
        have hy : ∀ z, y = .inr z → z = x := by
          rintro z rfl
          simpa using hk
        obtain ⟨e, a1, w1, ⟨ae, fr', σ', G2, hr, hG2, hS2, hq⟩, harr⟩ := h s fr σ y hI hb hy w0 G' a w hS b (.inLoop c :: kk) cs
        cases e with
        | normal =>
          cases ae <;> simp only [ExitRel] at hr
          obtain ⟨s', rfl, hI2⟩ := hq
          obtain ⟨e3, a3, w3, hq3, harr3⟩ := ih s' G2 a1 w1 fr' σ' hk (hG.trans hG2) hI2 hS2
          exact ⟨e3, a3, w3, hq3, .of_steps (Steps.trans harr (.one step_inLoop)) harr3⟩
        | exit id => exact ⟨_, a1, w1, ⟨ae, fr', σ', G2, hr, hG.trans hG2, hS2, by cases ae <;> simp only [ExitRel] at hr <;> exact hq.2⟩, .pass (x := .inLoop c) rfl (fun _ _ => .inl (by simp)) harr⟩
        | ret => exact ⟨_, a1, w1, ⟨ae, fr', σ', G2, hr, hG.trans hG2, hS2, by cases ae <;> simp only [ExitRel] at hr <;> exact hq.2⟩, .pass (x := .inLoop c) rfl (fun _ _ => .inl (by simp)) harr⟩
        | goto l => exact absurd hr (by cases ae <;> simp [ExitRel])
        | panic ch => exact absurd hr (by cases ae <;> simp [ExitRel])
        | outgrown => exact absurd hr (by cases ae <;> simp [ExitRel])
  obtain ⟨e, a', w', hq, harr⟩ := key k s G a w fr σ hk (.refl G) h0 hS
  exact ⟨e, a', w', hq, .of_steps (.one step_loop) harr⟩

def aresOne (Ty : TypeId → Option TI) (fr : Nat → AV) (σ : St) : ResultVar → Option AV
  | .tmp t => some (fr t)
  | .cell t T => aload Ty T (fr t) σ
def aresL (Ty : TypeId → Option TI) (fr : Nat → AV) (σ : St) : List ResultVar → Option (List AV)
  | [] => some []
  | r :: rs => match aresOne Ty fr σ r, aresL Ty fr σ rs with
    | some a, some l => some (a :: l)
    | _, _ => none
def ares (Ty : TypeId → Option TI) (fr : Nat → AV) (σ : St) (rs : List ResultVar) : Option AV :=
  match aresL Ty fr σ rs with
  | some [a] => some a
  | some l => some (.tup l)
  | none => none
def resF (tmps : Array Value) : ResultVar → Sem Value
  | .tmp t => pure (tmps.getD t undef)
  | .cell x t => do loadVar t (← asAddr (tmps.getD x undef))
theorem results_eq (fn : Func) (tmps : Array Value) : results fn tmps = (do let vs ← fn.results.mapM (resF tmps); pure (if h : vs.size = 1 then vs[0] else .tuple vs)) := by
  unfold results
  congr 1
theorem resF_sound (hT : TyOk P Ty) {fr : Nat → AV} (hS : Sim w0 G n a w fr σ) {r : ResultVar} {x : AV} (h : aresOne Ty fr σ r = some x) : ∃ v, (resF a.tmps r).run P w = .ok v w ∧ Rel G v x := by
  cases r with
  | tmp t =>
    simp [aresOne] at h
    subst h
    exact ⟨_, rfl, hS.frm t⟩
  | cell t T =>
    simp only [aresOne] at h
    obtain ⟨v, m1, m2⟩ := aload_sound (P := P) hT hS.inv (hS.frm t) h
    have hp : ∃ ad, a.tmps.getD t undef = .pointer (some ad) := by
      have hr := hS.frm t
      unfold aload at h
      split at h
      case h_2 => cases h
      rename_i cells off hc
      obtain ⟨b, base, news, e, _⟩ := addr_cells hS.inv hr hc
      exact ⟨_, e⟩
    obtain ⟨ad, hp⟩ := hp
    rw [hp] at m1
    refine ⟨v, ?_, m2⟩
    simp only [resF, hp]
    exact m1
theorem aresL_sound (hT : TyOk P Ty) {fr : Nat → AV} (hS : Sim w0 G n a w fr σ) : ∀ (rs : List ResultVar) (l : List AV), aresL Ty fr σ rs = some l → ∃ vs, (rs.mapM (resF a.tmps)).run P w = .ok vs w ∧ RelL G vs l
  | [], l, h => by
    simp [aresL] at h
    subst h
    exact ⟨[], by simp, RelL.nil G⟩
  | r :: rs, l, h => by
    simp only [aresL] at h
    split at h
    case h_2 => cases h
    rename_i x l' h1 h2
    simp at h
    subst h
    obtain ⟨vs, k1, k2⟩ := aresL_sound hT hS rs l' h2
    obtain ⟨v, m1, m2⟩ := resF_sound hT hS h1
    exact ⟨v :: vs, by simp only [List.mapM_cons, Sem.run_bind, Sem.run_pure, Result.andThen_ok, k1, m1], k2.cons m2⟩
theorem ares_sound (hT : TyOk P Ty) {fn : Func} {fr : Nat → AV} (hS : Sim w0 G n a w fr σ) {x : AV} (h : ares Ty fr σ fn.results.toList = some x) : ∃ v, (results fn a.tmps).run P w = .ok v w ∧ Rel G v x := by
  unfold ares at h
  rw [results_eq]
  have key : ∀ l, aresL Ty fr σ fn.results.toList = some l → ∃ vs : Array Value, (fn.results.mapM (resF a.tmps)).run P w = .ok vs w ∧ RelL G vs.toList l := by
    intro l hl
    obtain ⟨vs, k1, k2⟩ := aresL_sound hT hS _ l hl
    refine ⟨vs.toArray, ?_, by simpa using k2⟩
    rw [Array.mapM_eq_mapM_toList]
    simp [k1]
  split at h
  · rename_i y hl
    simp at h
    subst h
    obtain ⟨vs, k1, k2⟩ := key _ hl
    have h1 : vs.size = 1 := by simpa using k2.len
    obtain ⟨v, hv⟩ : ∃ v, vs = #[v] := by
      obtain ⟨l⟩ := vs
      match l, h1 with
      | [v], _ => exact ⟨v, rfl⟩
    subst hv
    exact ⟨v, by simp only [Sem.run_bind, k1, Result.andThen_ok]; rfl, k2.at_ 0 v y rfl rfl⟩
  · rename_i l hne hl
    simp at h
    subst h
    obtain ⟨vs, k1, k2⟩ := key _ hl
    have h1 : ¬ vs.size = 1 := fun h1 => by
      have : l.length = 1 := by rw [← k2.len]; simpa using h1
      obtain ⟨y, rfl⟩ := List.length_eq_one_iff.1 this
      exact hne y rfl
    refine ⟨.tuple vs, by simp only [Sem.run_bind, k1, Result.andThen_ok]; rw [dif_neg h1]; rfl, .tup vs l (by simpa using k2.len) (fun i v a e1 e2 => k2.at_ i v a (by simpa using e1) e2)⟩
  · cases h
def retQ (Ty : TypeId → Option TI) (rs : List ResultVar) (K : AV → St → Prop) : AExit → (Nat → AV) → St → Prop := fun e fr σ' => match e with
  | .exit _ => False
  | _ => ∃ x y, ares Ty fr σ' rs = some x ∧ Wk x y ∧ K y σ'
def frame0 (args : List AV) : Nat → AV := fun t => args.getD t .junk
theorem acall_intro (hT : TyOk P Ty) {g : FuncId} {fn : Func} {c : Code} {args : List AV} {K : AV → St → Prop} (hf : P.funcs[g]? = some fn) (hn : fn.name ≠ "runtime.NumGoroutine") (hb : fn.body = some c) (hl : args.length ≤ fn.ntmps)
    (h : AWP P fn.ntmps c (retQ Ty fn.results.toList K) (frame0 args) σ) : ACall P g args σ K := by
  refine ⟨⟨fn, hf, hn, by rw [hb]; rfl⟩, fun w0 G w vs hI hr => ?_⟩
  have hvl : vs.size = args.length := by simpa using hr.len
  refine calls_of_wp hf hb (wp_mono (h w0 G { tmps := vs ++ Array.replicate (fn.ntmps - vs.size) undef, defers := [] } w ⟨hI, fun t => ?_, by simp; omega, rfl⟩) ?_)
  · unfold frame0
    by_cases ht : t < args.length
    · rw [List.getD_eq_getElem?_getD, List.getElem?_eq_getElem ht, Option.getD_some, Array.getD_eq_getD_getElem?, Array.getElem?_append_left (by omega)]
      obtain ⟨v, hv, hrv⟩ := hr.get (List.getElem?_eq_getElem ht)
      rw [Array.getElem?_toList] at hv
      rw [hv]
      exact hrv
    · rw [List.getD_eq_getElem?_getD, List.getElem?_eq_none (by omega)]
      exact .junk _
  · rintro e a' w' ⟨ae, fr', σ', G', hrel, hG, hS', hq⟩
    cases e <;> cases ae <;> simp only [ExitRel] at hrel
    · obtain ⟨x, y, hx, hw, hk⟩ := hq
      obtain ⟨v, k1, k2⟩ := ares_sound hT hS' hx
      exact ⟨hS'.defers, v, k1, v, y, σ', G', rfl, hG, hS'.inv, hw G' v k2, hk⟩
    · exact hq.elim
    · obtain ⟨x, y, hx, hw, hk⟩ := hq
      obtain ⟨v, k1, k2⟩ := ares_sound hT hS' hx
      exact ⟨hS'.defers, v, k1, v, y, σ', G', rfl, hG, hS'.inv, hw G' v k2, hk⟩
end

def zOk : Value → AV → Bool
  | .slice none 0 0, .sl .no _ [] => true
  | .int k n, .int k' n' => k == k' && n == n'
  | .bool b, .bool b' => b == b'
  | .string s, .str s' => decide (s = s')
  | .pointer none, .nilp => true
  | .slice none 0 0, .nils => true
  | .map none, .nilm => true
  | .nilFunc, .nilf => true
  | .nilIface, .nili => true
  | _, _ => false
theorem zOk_rel {v : Value} {a : AV} (h : zOk v a = true) (G : Ghost) : Rel G v a := by
  unfold zOk at h
  split at h
  · exact .sl0 none 0 .no _ (Nat.zero_le _) (.inl rfl)
  · simp at h; obtain ⟨rfl, rfl⟩ := h; exact .int _ _
  · simp at h; subst h; exact .bool _
  · simp at h; subst h; exact .str _
  · exact .nilp
  · exact .nils
  · exact .nilm
  · exact .nilf
  · exact .nili
  · cases h
def zOkL : List Value → List AV → Bool
  | [], [] => true
  | v :: vs, a :: aas => zOk v a && zOkL vs aas
  | _, _ => false
theorem zOkL_rel : ∀ {vs : List Value} {aas : List AV} (_ : zOkL vs aas = true) (G : Ghost), RelL G vs aas
  | [], [], _, G => RelL.nil G
  | v :: vs, a :: aas, h, G => by
    simp only [zOkL, Bool.and_eq_true] at h
    exact (zOkL_rel h.2 G).cons (zOk_rel h.1 G)
  | [], _ :: _, h, _ => by cases h
  | _ :: _, [], h, _ => by cases h
theorem tiOk_mk {P : Program} {t : TypeId} {i : TI} (z : Value) (d : TdOk P t i.d) (h : (P.info? t).map (fun ti => (ti.size, ti.bytes, ti.zero)) = some (i.sz, i.bytes, some z)) (hz : zOkL z.cells.toList i.zero.cells = true) (h1 : z.cells.size = i.sz) (h2 : i.zero.cells.length = i.sz) (h3 : z.cells.all (·.oneCell') = true) : TiOk P t i := by
  refine ⟨d, ?_⟩
  cases hi : P.info? t with
  | none => rw [hi] at h; cases h
  | some ti =>
    rw [hi] at h
    simp only [Option.map_some, Option.some.injEq, Prod.mk.injEq] at h
    exact ⟨ti, z, rfl, h.1, h.2.1, h.2.2, fun G => zOkL_rel hz G, h1, h2, h3⟩

def fm : List (Nat × AV) → Nat → AV
  | [] => fun _ => .junk
  | p :: l => upd (fm l) p.1 p.2
theorem wkf_nil (f : Nat → AV) : WkF f (fm []) := fun _ => Wk.junk _
theorem wkf_cons {f : Nat → AV} {t : Nat} {a : AV} {l : List (Nat × AV)} (h : Wk (f t) a) (k : WkF f (fm l)) : WkF f (fm ((t, a) :: l)) := by
  intro x
  simp only [fm, upd]
  split
  · rename_i e; subst e; exact h
  · exact k x
def fmArgs : Nat → List AV → List (Nat × AV)
  | _, [] => []
  | i, a :: l => (i, a) :: fmArgs (i + 1) l
theorem fmArgs_at : ∀ (l : List AV) (i t : Nat), fm (fmArgs i l) t = if i ≤ t then l.getD (t - i) .junk else .junk
  | [], i, t => by simp [fmArgs, fm]
  | a :: l, i, t => by
    simp only [fmArgs, fm, upd]
    by_cases h : t = i
    · subst h; simp
    · rw [if_neg h, fmArgs_at l (i + 1) t]
      by_cases h2 : i ≤ t
      · rw [if_pos (by omega), if_pos h2, show t - i = (t - (i + 1)) + 1 by omega]; simp
      · rw [if_neg (by omega), if_neg h2]
theorem frame0_fm (args : List AV) : frame0 args = fm (fmArgs 0 args) := by
  funext t
  rw [fmArgs_at]
  simp [frame0]

def lt {α β : Type} (x : α) (k : α → β) : β := k x
theorem lt_eq {α β : Type} (x : α) (k : α → β) : lt x k = k x := rfl

structure Holds (σ0 : St) (O : List (Nat × List AV)) (A : List Nat) (σ : St) : Prop where
  base : ∀ (id : Nat) (c : List AV), σ0.objs[id]? = some c → (∀ p ∈ O, p.1 ≠ id) → σ.objs[id]? = some c
  opn : ∀ t : Nat, σ0.opn[t]? = some true → σ.opn[t]? = some true
  olen : σ0.objs.length ≤ σ.objs.length
  tlen : σ0.opn.length ≤ σ.opn.length
  obj : ∀ p ∈ O, σ.objs[p.1]? = some p.2
  dist : O.Pairwise fun p q => p.1 ≠ q.1
  tok : ∀ t ∈ A, σ.opn[t]? = some true ∧ σ0.opn.length ≤ t
  tdist : A.Pairwise fun a b => a ≠ b
  gl : σ.gl = σ0.gl

theorem Holds.init (σ : St) : Holds σ [] [] σ :=
  ⟨fun _ _ h _ => h, fun _ h => h, Nat.le_refl _, Nat.le_refl _, fun _ h => (by cases h), .nil, fun _ h => (by cases h), .nil, rfl⟩
theorem Holds.bring {σ0 σ : St} {O : List (Nat × List AV)} {A : List Nat} (h : Holds σ0 O A σ) {id : Nat} {c : List AV} (hc : σ.objs[id]? = some c) (hn : ∀ p ∈ O, id ≠ p.1) : Holds σ0 ((id, c) :: O) A σ :=
  ⟨fun i d h1 h2 => h.base i d h1 (fun p hp => h2 p (List.mem_cons_of_mem _ hp)), h.opn, h.olen, h.tlen, fun p hp => by
    rcases List.mem_cons.1 hp with rfl | hp
    · exact hc
    · exact h.obj p hp, .cons hn h.dist, h.tok, h.tdist, h.gl⟩
theorem Holds.at_ {σ0 σ : St} {O : List (Nat × List AV)} {A : List Nat} (h : Holds σ0 O A σ) (k : Nat) {id : Nat} {c : List AV} (hk : O[k]? = some (id, c)) : σ.objs[id]? = some c := h.obj _ (List.mem_of_getElem? hk)
theorem Holds.open_ {σ0 σ : St} {O : List (Nat × List AV)} {A : List Nat} (h : Holds σ0 O A σ) (k : Nat) {t : Nat} (hk : A[k]? = some t) : σ.opn[t]? = some true := (h.tok _ (List.mem_of_getElem? hk)).1
theorem pairwise_set {α : Type} {R : α → α → Prop} (hs : ∀ a b, R a b → R b a) : ∀ {l : List α} (k : Nat) {x : α}, l.Pairwise R → (∀ y, R x y ∨ l[k]? = some y ∨ y ∉ l) → (∀ i y, l[i]? = some y → i ≠ k → R x y) → (l.set k x).Pairwise R
  | [], _, _, h, _, _ => by simp
  | a :: l, 0, x, h, _, h2 => by
    rw [List.set_cons_zero]
    rw [List.pairwise_cons] at h ⊢
    exact ⟨fun y hy => by
      obtain ⟨i, hi⟩ := List.mem_iff_getElem?.1 hy
      exact h2 (i + 1) y (by simpa using hi) (by omega), h.2⟩
  | a :: l, k + 1, x, h, h1, h2 => by
    rw [List.set_cons_succ]
    rw [List.pairwise_cons] at h ⊢
    refine ⟨fun y hy => ?_, pairwise_set hs k h.2 (fun y => ?_) (fun i y hi hk => h2 (i + 1) y (by simpa using hi) (by omega))⟩
    · rcases List.mem_or_eq_of_mem_set hy with hy | rfl
      · exact h.1 y hy
      · exact hs _ _ (h2 0 a rfl (by omega))
    · by_cases hy : y ∈ l
      · obtain ⟨i, hi⟩ := List.mem_iff_getElem?.1 hy
        by_cases hik : i = k
        · subst hik; exact .inr (.inl hi)
        · exact .inl (h2 (i + 1) y (by simpa using hi) (by omega))
      · exact .inr (.inr hy)
theorem dist_get {O : List (Nat × List AV)} (h : O.Pairwise fun p q => p.1 ≠ q.1) : ∀ {i j : Nat} {p q : Nat × List AV}, O[i]? = some p → O[j]? = some q → i ≠ j → p.1 ≠ q.1 := by
  induction h with
  | nil => intro i j p q h1; simp at h1
  | cons hh ht ih =>
    intro i j p q h1 h2 hij
    cases i with
    | zero =>
      cases j with
      | zero => exact absurd rfl hij
      | succ j =>
        simp at h1 h2
        subst h1
        exact hh q (List.mem_of_getElem? h2)
    | succ i =>
      cases j with
      | zero =>
        simp at h1 h2
        subst h2
        exact Ne.symm (hh p (List.mem_of_getElem? h1))
      | succ j => exact ih (by simpa using h1) (by simpa using h2) (by omega)
theorem tdist_get {A : List Nat} (h : A.Pairwise fun a b => a ≠ b) : ∀ {i j : Nat} {p q : Nat}, A[i]? = some p → A[j]? = some q → i ≠ j → p ≠ q := by
  induction h with
  | nil => intro i j p q h1; simp at h1
  | cons hh ht ih =>
    intro i j p q h1 h2 hij
    cases i with
    | zero =>
      cases j with
      | zero => exact absurd rfl hij
      | succ j =>
        simp at h1 h2
        subst h1
        exact hh q (List.mem_of_getElem? h2)
    | succ i =>
      cases j with
      | zero =>
        simp at h1 h2
        subst h2
        exact Ne.symm (hh p (List.mem_of_getElem? h1))
      | succ j => exact ih (by simpa using h1) (by simpa using h2) (by omega)
theorem Holds.put {σ0 σ : St} {O : List (Nat × List AV)} {A : List Nat} (h : Holds σ0 O A σ) (k : Nat) {id : Nat} {c : List AV} (hk : O[k]? = some (id, c)) (c' : List AV) : Holds σ0 (O.set k (id, c')) A ⟨σ.objs.set id c', σ.opn, σ.gl⟩ := by
  have hlt : id < σ.objs.length := (List.getElem?_eq_some_iff.1 (h.at_ k hk)).1
  have hkl : k < O.length := (List.getElem?_eq_some_iff.1 hk).1
  refine ⟨fun i d h1 h2 => ?_, h.opn, by simpa using h.olen, h.tlen, fun p hp => ?_, ?_, h.tok, h.tdist, h.gl⟩
  · have hi : id ≠ i := h2 (id, c') (List.mem_iff_getElem?.2 ⟨k, by rw [List.getElem?_set_self hkl]⟩)
    simp only [List.getElem?_set_ne hi]
    refine h.base i d h1 (fun p hp => ?_)
    obtain ⟨j, hj⟩ := List.mem_iff_getElem?.1 hp
    by_cases hjk : k = j
    · subst hjk; rw [hk] at hj; cases hj; exact hi
    · exact h2 p (List.mem_iff_getElem?.2 ⟨j, by rw [List.getElem?_set_ne hjk]; exact hj⟩)
  · obtain ⟨j, hj⟩ := List.mem_iff_getElem?.1 hp
    by_cases hjk : k = j
    · subst hjk
      rw [List.getElem?_set_self hkl] at hj
      cases hj
      simp only [List.getElem?_set_self hlt]
    · rw [List.getElem?_set_ne hjk] at hj
      have := dist_get h.dist hk hj hjk
      simp only at this ⊢
      rw [List.getElem?_set_ne this]
      exact h.obj p (List.mem_of_getElem? hj)
  · have key : ∀ (i : Nat) (y : Nat × List AV), O[i]? = some y → i ≠ k → id ≠ y.1 := fun i y hi hik => dist_get h.dist hk hi (Ne.symm hik)
    refine pairwise_set (fun a b h => Ne.symm h) k h.dist (fun y => ?_) (fun i y hi hik => key i y hi hik)
    by_cases hy : y ∈ O
    · obtain ⟨i, hi⟩ := List.mem_iff_getElem?.1 hy
      by_cases hik : i = k
      · subst hik; exact .inr (.inl hi)
      · exact .inl (key i y hi hik)
    · exact .inr (.inr hy)
theorem Holds.add {σ0 σ : St} {O : List (Nat × List AV)} {A : List Nat} (h : Holds σ0 O A σ) (c : List AV) : Holds σ0 ((σ.objs.length, c) :: O) A ⟨σ.objs ++ [c], σ.opn, σ.gl⟩ := by
  refine ⟨fun i d h1 h2 => ?_, h.opn, by have := h.olen; simp; omega, h.tlen, fun p hp => ?_, .cons (fun q hq => ?_) h.dist, h.tok, h.tdist, h.gl⟩
  · have := h.base i d h1 (fun p hp => h2 p (List.mem_cons_of_mem _ hp))
    rw [List.getElem?_append_left (List.getElem?_eq_some_iff.1 this).1]
    exact this
  · rcases List.mem_cons.1 hp with rfl | hp
    · simp
    · have := h.obj p hp
      simp only
      rw [List.getElem?_append_left (List.getElem?_eq_some_iff.1 this).1]
      exact this
  · have := (List.getElem?_eq_some_iff.1 (h.obj q hq)).1
    simp only
    omega
theorem Holds.drop {σ0 σ : St} {p : Nat × List AV} {O : List (Nat × List AV)} {A : List Nat} (h : Holds σ0 (p :: O) A σ) (hn : σ0.objs.length ≤ p.1) : Holds σ0 O A σ :=
  ⟨fun i d h1 h2 => h.base i d h1 (fun q hq => by
    rcases List.mem_cons.1 hq with rfl | hq
    · have := (List.getElem?_eq_some_iff.1 h1).1; omega
    · exact h2 q hq), h.opn, h.olen, h.tlen, fun q hq => h.obj q (List.mem_cons_of_mem _ hq), (List.pairwise_cons.1 h.dist).2, h.tok, h.tdist, h.gl⟩
theorem Holds.unbring {σ0 σ : St} {id : Nat} {c : List AV} {O : List (Nat × List AV)} {A : List Nat} (h : Holds σ0 ((id, c) :: O) A σ) (h0 : σ0.objs[id]? = some c) : Holds σ0 O A σ :=
  ⟨fun i d h1 h2 => by
    by_cases hi : i = id
    · subst hi
      rw [h0] at h1
      cases h1
      exact h.obj (i, c) List.mem_cons_self
    · exact h.base i d h1 (fun q hq => by
        rcases List.mem_cons.1 hq with rfl | hq
        · exact Ne.symm hi
        · exact h2 q hq), h.opn, h.olen, h.tlen, fun q hq => h.obj q (List.mem_cons_of_mem _ hq), (List.pairwise_cons.1 h.dist).2, h.tok, h.tdist, h.gl⟩
def St.tok (σ : St) (t : Nat) : St := ⟨σ.objs, σ.opn.set t false ++ [true], σ.gl⟩
def St.more (σ : St) : St := ⟨σ.objs, σ.opn ++ [true], σ.gl⟩
theorem opn_more {l : List Bool} {t : Nat} (h : l[t]? = some true) : (l ++ [true])[t]? = some true := by
  rw [List.getElem?_append_left (List.getElem?_eq_some_iff.1 h).1]; exact h
theorem Holds.more {σ0 σ : St} {O : List (Nat × List AV)} {A : List Nat} (h : Holds σ0 O A σ) : Holds σ0 O (σ.opn.length :: A) σ.more := by
  refine ⟨h.base, fun t ht => opn_more (h.opn t ht), h.olen, by have := h.tlen; simp [St.more]; omega, h.obj, h.dist, fun t ht => ?_, .cons (fun t ht => ?_) h.tdist, h.gl⟩
  · rcases List.mem_cons.1 ht with rfl | ht
    · exact ⟨by simp [St.more], h.tlen⟩
    · exact ⟨opn_more (h.tok t ht).1, (h.tok t ht).2⟩
  · have := (List.getElem?_eq_some_iff.1 (h.tok t ht).1).1
    omega
theorem Holds.turn {σ0 σ : St} {O : List (Nat × List AV)} {A : List Nat} (h : Holds σ0 O A σ) (k : Nat) {t : Nat} (hk : A[k]? = some t) : Holds σ0 O (A.set k σ.opn.length) (σ.tok t) := by
  have hkl : k < A.length := (List.getElem?_eq_some_iff.1 hk).1
  have key : ∀ u : Nat, σ.opn[u]? = some true → u ≠ t → (σ.tok t).opn[u]? = some true := fun u hu hut => by
    simp only [St.tok]
    rw [List.getElem?_append_left (by simpa using (List.getElem?_eq_some_iff.1 hu).1), List.getElem?_set_ne (Ne.symm hut)]
    exact hu
  have ht := h.tok t (List.mem_of_getElem? hk)
  refine ⟨h.base, fun u hu => key u (h.opn u hu) (fun e => ?_), h.olen, by have := h.tlen; simp [St.tok]; omega, h.obj, h.dist, fun u hu => ?_, ?_, h.gl⟩
  · subst e
    have := (List.getElem?_eq_some_iff.1 hu).1
    omega
  · obtain ⟨j, hj⟩ := List.mem_iff_getElem?.1 hu
    by_cases hjk : k = j
    · subst hjk
      rw [List.getElem?_set_self hkl] at hj
      cases hj
      exact ⟨by simp [St.tok], h.tlen⟩
    · rw [List.getElem?_set_ne hjk] at hj
      exact ⟨key u (h.tok u (List.mem_of_getElem? hj)).1 (Ne.symm (tdist_get h.tdist hk hj hjk)), (h.tok u (List.mem_of_getElem? hj)).2⟩
  · have hnew : ∀ u ∈ A, σ.opn.length ≠ u := fun u hu => by
      have := (List.getElem?_eq_some_iff.1 (h.tok u hu).1).1
      omega
    refine pairwise_set (fun a b h => Ne.symm h) k h.tdist (fun y => ?_) (fun i y hi _ => hnew y (List.mem_of_getElem? hi))
    by_cases hy : y ∈ A
    · exact .inl (hnew y hy)
    · exact .inr (.inr hy)
theorem Holds.noT {σ0 σ : St} {O : List (Nat × List AV)} {A : List Nat} (h : Holds σ0 O A σ) : Holds σ0 O [] σ :=
  ⟨h.base, h.opn, h.olen, h.tlen, h.obj, h.dist, fun u hu => (by cases hu), .nil, h.gl⟩
theorem Holds.pick {σ0 σ : St} {O O' : List (Nat × List AV)} {A A' : List Nat} (h : Holds σ0 O A σ) (ho : ∀ p ∈ O', p ∈ O) (hd : O'.Pairwise fun p q => p.1 ≠ q.1) (hn : ∀ p ∈ O, σ0.objs.length ≤ p.1 ∨ ∃ q ∈ O', q.1 = p.1) (ht : ∀ t ∈ A', t ∈ A) (hdt : A'.Pairwise fun a b => a ≠ b) : Holds σ0 O' A' σ :=
  ⟨fun i d h1 h2 => h.base i d h1 (fun p hp => by
    rcases hn p hp with hn | ⟨q, hq, he⟩
    · have := (List.getElem?_eq_some_iff.1 h1).1; omega
    · rw [← he]; exact h2 q hq), h.opn, h.olen, h.tlen, fun p hp => h.obj p (ho p hp), hd, fun t hh => h.tok t (ht t hh), hdt, h.gl⟩

section
variable {P : Program} {Ty : TypeId → Option TI} {n : Nat} {σ : St} {ops : Array Oper}
theorem ACall.pure {g : FuncId} {args : List AV} {b : AV} (h : ACall P g args σ (fun a σ' => Wk (cutAV (idl σ.objs.length) (idl σ.opn.length) a) b ∧ Holds σ [] [] σ')) : ACall P g args σ (fun a σ' => a = b ∧ σ' = σ) :=
  h.cut fun a σ' ⟨ha, hH⟩ => ⟨σ, b, rfl, rfl, rfl, hH.opn, fun id c hc => ⟨hH.base id c hc (fun p hp => by cases hp), .inl hc⟩, ha, rfl, rfl⟩
def St.puts (σ : St) (M : List (Nat × List AV)) : St := ⟨M.foldl (fun o p => o.set p.1 p.2) σ.objs, σ.opn, σ.gl⟩
theorem puts_len (M : List (Nat × List AV)) : ∀ o : List (List AV), (M.foldl (fun o p => o.set p.1 p.2) o).length = o.length := by
  induction M with
  | nil => intro o; rfl
  | cons p M ih => intro o; rw [List.foldl_cons, ih]; simp
theorem puts_get (M : List (Nat × List AV)) : ∀ (o : List (List AV)) (i : Nat) (c : List AV), (M.foldl (fun o p => o.set p.1 p.2) o)[i]? = some c → (i, c) ∈ M ∨ (o[i]? = some c ∧ ∀ p ∈ M, p.1 ≠ i) := by
  induction M with
  | nil => intro o i c h; exact .inr ⟨h, fun p hp => by cases hp⟩
  | cons p M ih =>
    intro o i c h
    rw [List.foldl_cons] at h
    rcases ih _ i c h with h1 | ⟨h1, h2⟩
    · exact .inl (List.mem_cons_of_mem _ h1)
    · rw [List.getElem?_set] at h1
      split at h1
      · rename_i he
        split at h1
        · cases h1; subst he; exact .inl List.mem_cons_self
        · cases h1
      · rename_i he
        exact .inr ⟨h1, fun q hq => by
          rcases List.mem_cons.1 hq with rfl | hq
          · exact he
          · exact h2 q hq⟩
theorem ACall.out {g : FuncId} {args : List AV} {b : AV} (M : List (Nat × List AV)) (hc : ∀ p ∈ M, ∀ ρ κ, cutL ρ κ p.2 = p.2) (h : ACall P g args σ (fun a σ' => Wk (cutAV (idl σ.objs.length) (idl σ.opn.length) a) b ∧ Holds σ M [] σ')) : ACall P g args σ (fun a σ' => a = b ∧ σ' = σ.puts M) :=
  h.cut fun a σ' ⟨ha, hH⟩ => ⟨σ.puts M, b, puts_len M _, rfl, rfl, hH.opn, fun id c hid => by
    rcases puts_get M σ.objs id c hid with h1 | ⟨h1, h2⟩
    · exact ⟨hH.obj _ h1, .inr (hc _ h1 _ _)⟩
    · exact ⟨hH.base id c h1 h2, .inl h1⟩, ha, rfl, rfl⟩
theorem ACall.app {g : FuncId} {args : List AV} {sz : Nat} {es : List AV} (hc : ∀ ρ κ, cutL ρ κ es = es) (h : ACall P g args σ (fun a σ' => ∃ t, a = .sl (.own t) sz es ∧ Holds σ [] [t] σ')) : ACall P g args σ (fun a σ' => a = .sl (.own σ.opn.length) sz es ∧ σ' = σ.more) :=
  h.ren fun a σ' ⟨t0, ha, hH⟩ => by
    subst ha
    obtain ⟨ho, hge⟩ := hH.tok t0 (by simp)
    refine ⟨σ.more, .sl (.own σ.opn.length) sz es, idl σ.objs.length, fun i => if i = t0 then some σ.opn.length else idl σ.opn.length i, ⟨idl_inj _, fun i i' j h1 h2 => ?_, fun i hi => by simp [idl, hi], fun i hi => ?_, fun i j h => (idl_lt h).2, fun t u h => ?_, by simp [St.more], rfl, fun j d hj => ?_, fun t u h hu => ?_⟩, ?_, rfl, rfl⟩
    · try simp only at h1 h2
      split at h1 <;> split at h2
      · rename_i e1 e2; rw [e1, e2]
      · have := (idl_lt h2).2; cases h1; omega
      · have := (idl_lt h1).2; cases h2; omega
      · exact idl_inj _ _ _ _ h1 h2
    · try simp only
      rw [if_neg (by omega)]
      simp [idl, hi]
    · try simp only at h
      split at h
      · cases h; simp [St.more]
      · have := (idl_lt h).2; simp [St.more]; omega
    · have hlt : j < σ.objs.length := (List.getElem?_eq_some_iff.1 hj).1
      exact ⟨j, d, by simp [idl, hlt], hH.base j d hj (fun p hp => by cases hp), .inl ⟨hj, rfl⟩⟩
    · try simp only at h
      split at h
      · rename_i e; subst e; exact ho
      · obtain ⟨rfl, hlt⟩ := idl_lt h
        refine hH.opn t ?_
        simp only [St.more] at hu
        rw [List.getElem?_append_left hlt] at hu
        exact hu
    · simp only [cutAV, cutTok, if_true, hc]
      exact Wk.refl _
theorem ACall.unapp {g : FuncId} {args : List AV} {sz : Nat} {es : List AV} (hc : ∀ ρ κ, cutL ρ κ es = es) (h : ACall P g args σ (fun a σ' => a = .sl (.own σ.opn.length) sz es ∧ σ' = σ.more)) : ACall P g args σ (fun a σ' => a = .sl .no sz es ∧ σ' = σ) :=
  h.cut fun a σ' ⟨ha, hs⟩ => ⟨σ, .sl .no sz es, rfl, rfl, rfl, fun t ht => by subst hs; exact opn_more ht, fun id c hid => by subst hs; exact ⟨hid, .inl hid⟩, by
    subst ha
    simp only [cutAV, cutTok, hc]
    rw [show idl σ.opn.length σ.opn.length = none by simp [idl]]
    exact Wk.refl _, rfl, rfl⟩
theorem acall_start (hT : TyOk P Ty) {g : FuncId} {fn : Func} {c : Code} {args : List AV} {K : AV → St → Prop} (hf : P.funcs[g]? = some fn) (hn : fn.name ≠ "runtime.NumGoroutine") (hb : fn.body = some c) (hl : args.length ≤ fn.ntmps)
    (h : AWP P fn.ntmps c (retQ Ty fn.results.toList K) (fm (fmArgs 0 args)) σ) : ACall P g args σ K :=
  acall_intro hT hf hn hb hl (by rw [frame0_fm]; exact h)

def OpP (P : Program) (o : Oper) (fr : Nat → AV) (a : AV) : Prop := ∀ τ, OpS P o fr τ (fun a' τ' => a' = a ∧ τ' = τ)
theorem OpP.of_aop (hT : TyOk P Ty) {mu : Bool} {o : Oper} {fr : Nat → AV} (hc : callOf o = none) {a b : AV} (h : ∀ τ, aop Ty mu o (aeval fr) τ = some (a, τ)) (hw : Wk a b) : OpP P o fr b :=
  fun τ => OpS.of_aop hT hc (aeval fr) (fun x _ => Wk.refl _) (h τ) hw
theorem OpP.of_aop' (hT : TyOk P Ty) {mu : Bool} {o : Oper} {fr : Nat → AV} (hc : callOf o = none) {a : AV} (h : ∀ τ, aop Ty mu o (aeval fr) τ = some (a, τ)) : OpP P o fr a := OpP.of_aop hT hc h (Wk.refl _)
theorem OpP.of_call {o : Oper} {fr : Nat → AV} {f : Operand} {xs : List Operand} {g : FuncId} {first cap args : List AV} {b : AV} (hc : callOf o = some (f, xs)) (hf : aeval fr f = .fn (.func g) first cap) (hargs : WkL (first ++ xs.map (aeval fr) ++ cap) args) (hcall : ∀ τ, ACall P g args τ (fun a τ' => a = b ∧ τ' = τ)) : OpP P o fr b :=
  fun τ => OpS.of_call hc hf hargs (hcall τ)

theorem awp_region {Q : AExit → (Nat → AV) → St → Prop} {id : Nat} {fr : Nat → AV} (hd : allDst n ops = true) (h : wpo P n ops (Q .normal) ops.toList fr σ) : AWP P n (.region id ops false) Q fr σ := awp_region0 hd h
theorem wpo_nil {K : (Nat → AV) → St → Prop} {fr : Nat → AV} (h : K fr σ) : wpo P n ops K [] fr σ := h
theorem wpo_any {K : (Nat → AV) → St → Prop} {o : Oper} {rest : List Oper} {fr : Nat → AV} {R : AV → St → Prop} (hd : dstOk n o.dst) (hg : guardOf ops o fr = some true) (ho : OpS P o fr σ R) (h : ∀ a σ', R a σ' → wpo P n ops K rest (putO fr o.dst a) σ') : wpo P n ops K (o :: rest) fr σ := by
  refine ⟨hd, ?_⟩
  rw [hg]
  exact ho.mono h
theorem wpo_lt {α β : Type} {z : α} {k : α → Option β} {r : β} (H : lt z k = some r) (enc : α → AV) {K : (Nat → AV) → St → Prop} {o : Oper} {rest : List Oper} {l : List (Nat × AV)} {t : Nat} (hd : o.dst = some t) (hn : Nat.ble (t + 1) n = true) (hg : guardOf ops o (fm l) = some true)
    (ho : OpP P o (fm l) (enc z)) (h : ∀ x, k x = some r → wpo P n ops K rest (fm ((t, enc x) :: l)) σ) : wpo P n ops K (o :: rest) (fm l) σ := by
  refine wpo_any (by rw [hd]; exact Nat.le_of_ble_eq_true hn) hg (ho σ) ?_
  rintro a σ' ⟨rfl, rfl⟩
  rw [hd]
  exact h z H
theorem wpo_bd {α β : Type} {z : Option α} {k : α → Option β} {r : β} (H : z.bind k = some r) (enc : α → AV) {K : (Nat → AV) → St → Prop} {o : Oper} {rest : List Oper} {l : List (Nat × AV)} {t : Nat} (hd : o.dst = some t) (hn : Nat.ble (t + 1) n = true) (hg : guardOf ops o (fm l) = some true)
    (ho : ∀ x, z = some x → OpP P o (fm l) (enc x)) (h : ∀ x, z = some x → k x = some r → wpo P n ops K rest (fm ((t, enc x) :: l)) σ) : wpo P n ops K (o :: rest) (fm l) σ := by
  obtain ⟨x, hx, H⟩ := Option.bind_eq_some_iff.1 H
  refine wpo_any (by rw [hd]; exact Nat.le_of_ble_eq_true hn) hg (ho x hx σ) ?_
  rintro a σ' ⟨rfl, rfl⟩
  rw [hd]
  exact h x hx H
theorem wpo_bdr {α β : Type} {z : Option α} {k : α → Option β} {r : β} (H : z.bind k = some r) (enc : α → AV) {K : (Nat → AV) → St → Prop} {o : Oper} {rest : List Oper} {l : List (Nat × AV)} {t : Nat} (hd : o.dst = some t) (hn : Nat.ble (t + 1) n = true) (hg : guardOf ops o (fm l) = some true)
    (ho : ∀ x, z = some x → OpS P o (fm l) σ (fun a τ => a = enc x ∧ τ = σ)) (h : ∀ x, z = some x → k x = some r → wpo P n ops K rest (fm ((t, enc x) :: l)) σ) : wpo P n ops K (o :: rest) (fm l) σ := by
  obtain ⟨x, hx, H⟩ := Option.bind_eq_some_iff.1 H
  refine wpo_any (by rw [hd]; exact Nat.le_of_ble_eq_true hn) hg (ho x hx) ?_
  rintro a σ' ⟨rfl, rfl⟩
  rw [hd]
  exact h x hx H
theorem wpo_mv {a : AV} {K : (Nat → AV) → St → Prop} {o : Oper} {rest : List Oper} {l : List (Nat × AV)} {t : Nat} (hd : o.dst = some t) (hn : Nat.ble (t + 1) n = true) (hg : guardOf ops o (fm l) = some true)
    (ho : OpP P o (fm l) a) (h : wpo P n ops K rest (fm ((t, a) :: l)) σ) : wpo P n ops K (o :: rest) (fm l) σ := by
  refine wpo_any (by rw [hd]; exact Nat.le_of_ble_eq_true hn) hg (ho σ) ?_
  rintro a σ' ⟨rfl, rfl⟩
  rw [hd]
  exact h
theorem wpo_skip {K : (Nat → AV) → St → Prop} {o : Oper} {rest : List Oper} {l : List (Nat × AV)} {t : Nat} (hd : o.dst = some t) (hn : Nat.ble (t + 1) n = true) (hg : guardOf ops o (fm l) = some false) (h : wpo P n ops K rest (fm ((t, .tup []) :: l)) σ) : wpo P n ops K (o :: rest) (fm l) σ := by
  refine ⟨by rw [hd]; exact Nat.le_of_ble_eq_true hn, ?_⟩
  rw [hg]
  simp only [hd, putO]
  exact h
theorem wpo_s {R : AV → St → Prop} {K : (Nat → AV) → St → Prop} {o : Oper} {rest : List Oper} {l : List (Nat × AV)} {t : Nat} (hd : o.dst = some t) (hn : Nat.ble (t + 1) n = true) (hg : guardOf ops o (fm l) = some true)
    (ho : OpS P o (fm l) σ R) (h : ∀ a τ, R a τ → wpo P n ops K rest (fm ((t, a) :: l)) τ) : wpo P n ops K (o :: rest) (fm l) σ := by
  refine wpo_any (by rw [hd]; exact Nat.le_of_ble_eq_true hn) hg ho ?_
  intro a σ' hr
  rw [hd]
  exact h a σ' hr
theorem wpo_s1 {a : AV} {τ : St} {K : (Nat → AV) → St → Prop} {o : Oper} {rest : List Oper} {l : List (Nat × AV)} {t : Nat} (hd : o.dst = some t) (hn : Nat.ble (t + 1) n = true) (hg : guardOf ops o (fm l) = some true)
    (ho : OpS P o (fm l) σ (fun a' τ' => a' = a ∧ τ' = τ)) (h : wpo P n ops K rest (fm ((t, a) :: l)) τ) : wpo P n ops K (o :: rest) (fm l) σ := by
  refine wpo_s hd hn hg ho ?_
  rintro _ _ ⟨rfl, rfl⟩
  exact h
theorem wpo_s0 {a : AV} {τ : St} {K : (Nat → AV) → St → Prop} {o : Oper} {rest : List Oper} {l : List (Nat × AV)} (hd : o.dst = none) (hg : guardOf ops o (fm l) = some true)
    (ho : OpS P o (fm l) σ (fun a' τ' => a' = a ∧ τ' = τ)) (h : wpo P n ops K rest (fm l) τ) : wpo P n ops K (o :: rest) (fm l) σ := by
  refine wpo_any (by rw [hd]; trivial) hg ho ?_
  rintro a σ' ⟨rfl, rfl⟩
  rw [hd]
  exact h
theorem if_split {b : Bool} {β : Type} {A B : Option β} {r : β} {G : Prop} (H : (if b = true then A else B) = some r) (h1 : b = true → A = some r → G) (h2 : b = false → B = some r → G) : G := by
  cases b with
  | true => exact h1 rfl (by simpa using H)
  | false => exact h2 rfl (by simpa using H)
theorem awp_if {b : Bool} {β : Type} {A B : Option β} {r : β} (H : (if b = true then A else B) = some r) {c : Operand} {x y : Code} {Q : AExit → (Nat → AV) → St → Prop} {fr : Nat → AV} (hb : aeval fr c = .bool b) (h1 : A = some r → AWP P n x Q fr σ) (h2 : B = some r → AWP P n y Q fr σ) : AWP P n (.cond c x y) Q fr σ :=
  awp_cond hb (fun hb => h1 (by subst hb; simpa using H)) (fun hb => h2 (by subst hb; simpa using H))
theorem awp_true {c : Operand} {x y : Code} {Q : AExit → (Nat → AV) → St → Prop} {fr : Nat → AV} (hb : aeval fr c = .bool true) (h1 : AWP P n x Q fr σ) : AWP P n (.cond c x y) Q fr σ := awp_cond hb (fun _ => h1) (fun h => by cases h)
theorem awp_false {c : Operand} {x y : Code} {Q : AExit → (Nat → AV) → St → Prop} {fr : Nat → AV} (hb : aeval fr c = .bool false) (h1 : AWP P n y Q fr σ) : AWP P n (.cond c x y) Q fr σ := awp_cond hb (fun h => by cases h) (fun _ => h1)
theorem AWP.fm {c : Code} {Q : AExit → (Nat → AV) → St → Prop} {fr : Nat → AV} (l : List (Nat × AV)) (k : WkF fr (Va.fm l)) (h : AWP P n c Q (Va.fm l) σ) : AWP P n c Q fr σ := h.wk k
theorem AWP.tokNil {c : Code} {Q : AExit → (Nat → AV) → St → Prop} {l : List (Nat × AV)} (t sz : Nat) (ht : Va.fm l t = .nils ∨ (∃ e, Va.fm l t = .sl .full sz e ∧ e = []))  (h : AWP P n c Q (Va.fm ((t, .sl (.own σ.opn.length) sz []) :: l)) σ.more) : AWP P n c Q (Va.fm l) σ := fun w0 G a w hS => by
  obtain ⟨hle, hI⟩ := hS.inv.closed .no
  refine wp_mono (h w0 _ a w ⟨hI, fun u => ?_, hS.size, hS.defers⟩) ?_
  · simp only [Va.fm, upd]
    split
    · rename_i e
      subst e
      have hr := hS.frm u
      rcases ht with ht | ⟨e, ht, rfl⟩
      · rw [ht] at hr
        cases hv : a.tmps.getD u undef <;> rw [hv] at hr <;> cases hr
        exact .sl0 none 0 _ _ (Nat.zero_le _) (.inr ⟨rfl, Nat.lt_succ_self _⟩)
      · rw [ht] at hr
        generalize a.tmps.getD u undef = v at hr
        cases hr with
        | sl b o c t sz es val hc hm hz hf h ht => exact .sl0 _ _ _ _ hm (.inr ⟨ht.1.symm, Nat.lt_succ_self _⟩)
        | sl0 A c t sz hm ht => exact .sl0 _ _ _ _ hm (.inr ⟨(ht.resolve_left (by simp)).1, Nat.lt_succ_self _⟩)
    · exact (hS.frm u).mono hle
  · rintro e a' w' ⟨ae, fr', σ', G', k1, k2, k3, k4⟩
    exact ⟨ae, fr', σ', G', k1, hle.trans k2, k3, k4⟩
theorem inj_inl {α β : Type} {a : α} {y : α ⊕ β} (H : some (Sum.inl a) = some y) : y = .inl a := by cases H; rfl
theorem inj_inr {α β : Type} {a : β} {y : α ⊕ β} (H : some (Sum.inr a) = some y) : y = .inr a := by cases H; rfl
end

def eI (n : Int) : AV := .int .i64 n
def eK (k : IntKind) (n : Int) : AV := .int k n
def eU (k : IntKind) {w : Nat} (x : BitVec w) : AV := .int k (x.toNat : Int)
def eB (b : Bool) : AV := .bool b
def mkB (l : List (BitVec 8)) : ByteArray := ⟨(l.map UInt8.ofBitVec).toArray⟩
def eS (s : List (BitVec 8)) : AV := .str (mkB s)

def w64 (n : Int) : Int := IntKind.i64.wrap n
theorem w64_eq {n : Int} (h1 : -9223372036854775808 ≤ n) (h2 : n ≤ 9223372036854775807) : w64 n = n := by unfold w64; rw [IntKind.wrap_i64]; omega
def shl64 (x : Int) (n : Nat) : Int := w64 (x * 2 ^ min n 64)
def shr64 (x : Int) (n : Nat) : Int := x.fdiv (2 ^ min n 64)
def quo64 (x y : Int) : Int := w64 (x.tdiv y)
def dv (y : Int) : Option Int := if y = 0 then none else some y
def dvU {w : Nat} (y : BitVec w) : Option (BitVec w) := if y = 0#w then none else some y
def sc (y : Int) : Option Nat := if y < 0 then none else some y.toNat

section
variable {P : Program} {Ty : TypeId → Option TI} {n : Nat} {σ : St} {ops : Array Oper} {fr : Nat → AV} {d : Option Tmp} {ty : TypeId} {pos : String} {af : Array Edge} {g : Option (Nat × Bool)} {ox oy : Operand} {T T' : TypeId}

theorem o_ar (hT : TyOk P Ty) {op : BinOp} {k : IntKind} {x y : Int} {a : AV} (hx : aeval fr ox = .int k x) (hy : aeval fr oy = .int k y) (h : aarith op k x y = some a) : OpP P ⟨d, .binOp op T ox oy T', ty, pos, af, g⟩ fr a := by
  have hne : op ≠ .shl ∧ op ≠ .shr := ⟨(by rintro rfl; cases h), (by rintro rfl; cases h)⟩
  refine OpP.of_aop' hT (mu := false) rfl (fun τ => ?_)
  simp only [aop, hx, hy]
  have : abin' Ty op T ox oy (.int k x) (.int k y) = some a := by
    simp only [abin', abin]
    split
    · exact absurd rfl hne.1
    · exact absurd rfl hne.2
    · simpa using h
  rw [this]; rfl
theorem o_sh (hT : TyOk P Ty) {op : BinOp} {k k' : IntKind} {x y : Int} {a : AV} (hx : aeval fr ox = .int k x) (hy : aeval fr oy = .int k' y) (h : ashift op k x y = some a) : OpP P ⟨d, .binOp op T ox oy T', ty, pos, af, g⟩ fr a := by
  have hne : op = .shl ∨ op = .shr := by
    unfold ashift at h
    split at h
    · cases h
    · split at h <;> simp_all
  refine OpP.of_aop' hT (mu := false) rfl (fun τ => ?_)
  simp only [aop, hx, hy]
  have : abin' Ty op T ox oy (.int k x) (.int k' y) = some a := by
    rcases hne with rfl | rfl <;> simp only [abin', abin] <;> exact h
  rw [this]; rfl
theorem quo_ok (x y : Int) {z : Int} (h : dv y = some z) : aarith .quo .i64 x y = some (eI (quo64 x z)) := by
  unfold dv at h
  split at h <;> cases h
  rename_i h0
  simp only [aarith, if_neg h0]; rfl
theorem rem_ok (x y : Int) {z : Int} (h : dv y = some z) : aarith .rem .i64 x y = some (eI (x.tmod z)) := by
  unfold dv at h
  split at h <;> cases h
  rename_i h0
  simp only [aarith, if_neg h0]; rfl
theorem o_quo (hT : TyOk P Ty) {x y z : Int} (h : dv y = some z) (hx : aeval fr ox = .int .i64 x) (hy : aeval fr oy = .int .i64 y) : OpP P ⟨d, .binOp .quo T ox oy T', ty, pos, af, g⟩ fr (eI (quo64 x z)) := o_ar hT hx hy (quo_ok x y h)
theorem o_rem (hT : TyOk P Ty) {x y z : Int} (h : dv y = some z) (hx : aeval fr ox = .int .i64 x) (hy : aeval fr oy = .int .i64 y) : OpP P ⟨d, .binOp .rem T ox oy T', ty, pos, af, g⟩ fr (eI (x.tmod z)) := o_ar hT hx hy (rem_ok x y h)
theorem sc_lit {y : Int} {m : Nat} (h : sc y = some m) : ¬ y < 0 ∧ y.toNat = m := by
  unfold sc at h
  split at h <;> cases h
  exact ⟨by assumption, rfl⟩
theorem o_shl (hT : TyOk P Ty) {k' : IntKind} {x y : Int} {m : Nat} (h : sc y = some m) (hx : aeval fr ox = .int .i64 x) (hy : aeval fr oy = .int k' y) : OpP P ⟨d, .binOp .shl T ox oy T', ty, pos, af, g⟩ fr (eI (shl64 x m)) := by
  obtain ⟨h0, rfl⟩ := sc_lit h
  exact o_sh hT hx hy (by simp only [ashift, if_neg h0]; rfl)
theorem o_shr (hT : TyOk P Ty) {k' : IntKind} {x y : Int} {m : Nat} (h : sc y = some m) (hx : aeval fr ox = .int .i64 x) (hy : aeval fr oy = .int k' y) : OpP P ⟨d, .binOp .shr T ox oy T', ty, pos, af, g⟩ fr (eI (shr64 x m)) := by
  obtain ⟨h0, rfl⟩ := sc_lit h
  exact o_sh hT hx hy (by simp only [ashift, if_neg h0]; rfl)

theorem wrapU {k : IntKind} (hs : k.signed = false) (m : Int) : k.wrap m = m % 2 ^ k.bits := by
  simp [IntKind.wrap, hs]
theorem mul_u {k : IntKind} (hs : k.signed = false) (x y : BitVec k.bits) : k.wrap ((x.toNat : Int) * y.toNat) = ((x * y).toNat : Int) := by
  rw [wrapU hs, BitVec.toNat_mul, Int.natCast_emod]; simp
theorem ofInt_toNat {m : Nat} (x : BitVec m) : BitVec.ofInt m (x.toNat : Int) = x := by
  apply BitVec.eq_of_toNat_eq
  rw [BitVec.toNat_ofInt]
  have := x.isLt
  rw [Int.emod_eq_of_lt (by omega) (by exact_mod_cast this)]
  simp
theorem wrap_bv {k : IntKind} (hs : k.signed = false) (x : BitVec k.bits) : k.wrap (x.toNat : Int) = (x.toNat : Int) := by
  rw [wrapU hs, Int.emod_eq_of_lt (by omega)]
  exact_mod_cast x.isLt
theorem beq_bv {m : Nat} (x y : BitVec m) : ((x.toNat : Int) == (y.toNat : Int)) = (x == y) := by
  rw [Bool.eq_iff_iff]
  simp only [beq_iff_eq]
  constructor
  · intro h; exact BitVec.eq_of_toNat_eq (by omega)
  · rintro rfl; rfl
theorem o_mul_u (hT : TyOk P Ty) {k : IntKind} {x y : BitVec k.bits} (hs : k.signed = false) (hx : aeval fr ox = eU k x) (hy : aeval fr oy = eU k y) : OpP P ⟨d, .binOp .mul T ox oy T', ty, pos, af, g⟩ fr (eU k (x * y)) := o_ar hT hx hy (by simp only [aarith, mul_u hs]; rfl)
theorem bits_u {k : IntKind} (hs : k.signed = false) (x y : BitVec k.bits) : bits .and k x.toNat y.toNat = ((x &&& y).toNat : Int) ∧ bits .or k x.toNat y.toNat = ((x ||| y).toNat : Int) ∧ bits .xor k x.toNat y.toNat = ((x ^^^ y).toNat : Int) ∧ bits .andNot k x.toNat y.toNat = ((x &&& ~~~ y).toNat : Int) := by
  refine ⟨?_, ?_, ?_, ?_⟩ <;> simp only [bits, ofInt_toNat] <;> exact wrap_bv hs _
theorem o_xor_u (hT : TyOk P Ty) {k : IntKind} {x y : BitVec k.bits} (hs : k.signed = false) (hx : aeval fr ox = eU k x) (hy : aeval fr oy = eU k y) : OpP P ⟨d, .binOp .xor T ox oy T', ty, pos, af, g⟩ fr (eU k (x ^^^ y)) := o_ar hT hx hy (by simp only [aarith, (bits_u hs x y).2.2.1]; rfl)
theorem dvU_int {w : Nat} {y z : BitVec w} (h : dvU y = some z) : y = z ∧ ¬ (z.toNat : Int) = 0 := by
  unfold dvU at h
  split at h <;> cases h
  rename_i h0
  exact ⟨rfl, fun e => h0 (BitVec.eq_of_toNat_eq (by simp; omega))⟩
theorem o_rem_u (hT : TyOk P Ty) {k : IntKind} {x y z : BitVec k.bits} (hs : k.signed = false) (h : dvU y = some z) (hx : aeval fr ox = eU k x) (hy : aeval fr oy = eU k y) : OpP P ⟨d, .binOp .rem T ox oy T', ty, pos, af, g⟩ fr (eU k (x % z)) := by
  obtain ⟨rfl, h0⟩ := dvU_int h
  refine o_ar hT hx hy ?_
  simp only [aarith, if_neg h0]
  have : (x.toNat : Int).tmod y.toNat = ((x % y).toNat : Int) := by
    rw [BitVec.toNat_umod, Int.tmod_eq_emod_of_nonneg (by omega)]; simp
  rw [this]; rfl
theorem o_neq_u (hT : TyOk P Ty) {k : IntKind} {w : Nat} {x y : BitVec w} (hx : aeval fr ox = eU k x) (hy : aeval fr oy = eU k y) : OpP P ⟨d, .binOp .neq T ox oy T', ty, pos, af, g⟩ fr (eB (x != y)) := o_ar hT hx hy (by simp only [aarith, bne, beq_bv]; rfl)
theorem shr_u {k : IntKind} (hs : k.signed = false) (x : BitVec k.bits) {y : Int} {m : Nat} (h : sc y = some m) : ashift .shr k x.toNat y = some (eU k (x >>> m)) := by
  obtain ⟨h0, rfl⟩ := sc_lit h
  simp only [ashift, if_neg h0, eU, Option.some.injEq, AV.int.injEq, true_and]
  rw [BitVec.toNat_ushiftRight, Nat.shiftRight_eq_div_pow]
  have e : ∀ j : Nat, ((2 : Int) ^ j) = ((2 ^ j : Nat) : Int) := fun j => by simp
  rw [e, Int.fdiv_eq_ediv_of_nonneg _ (Int.natCast_nonneg _)]
  by_cases hy : y.toNat ≤ k.bits
  · rw [Nat.min_eq_left hy]; norm_cast
  · rw [Nat.min_eq_right (by omega)]
    have h1 : x.toNat / 2 ^ k.bits = 0 := Nat.div_eq_of_lt x.isLt
    have h2 : x.toNat / 2 ^ y.toNat = 0 := Nat.div_eq_of_lt (Nat.lt_of_lt_of_le x.isLt (Nat.pow_le_pow_right (by omega) (by omega)))
    norm_cast
    rw [h1, h2]
theorem o_shr_u (hT : TyOk P Ty) {k k' : IntKind} {x : BitVec k.bits} {y : Int} {m : Nat} (hs : k.signed = false) (h : sc y = some m) (hx : aeval fr ox = eU k x) (hy : aeval fr oy = .int k' y) : OpP P ⟨d, .binOp .shr T ox oy T', ty, pos, af, g⟩ fr (eU k (x >>> m)) := o_sh hT hx hy (shr_u hs x h)
theorem o_un (hT : TyOk P Ty) {op : UnOp} {x a : AV} (hx : aeval fr ox = x) (h : aun op x = some a) : OpP P ⟨d, .unOp op T ox, ty, pos, af, g⟩ fr a :=
  OpP.of_aop' hT (mu := false) rfl (fun τ => by simp only [aop, hx, h]; rfl)
theorem o_cv (hT : TyOk P Ty) {s t : TypeId} {x a : AV} (hx : aeval fr ox = x) (h : aconv Ty s t x = some a) : OpP P ⟨d, .convert s t ox, ty, pos, af, g⟩ fr a :=
  OpP.of_aop' hT (mu := false) rfl (fun τ => by simp only [aop, hx, h])
theorem o_cv_int (hT : TyOk P Ty) {s t : TypeId} {k k' : IntKind} {x y : Int} (h1 : tdOf Ty s = .int k) (h2 : tdOf Ty t = .int k') (hw : k'.wrap x = y) (hx : aeval fr ox = .int k x) : OpP P ⟨d, .convert s t ox, ty, pos, af, g⟩ fr (.int k' y) :=
  o_cv hT hx (by simp only [aconv, h1, h2, hw])
theorem cv_iu {k : IntKind} (hs : k.signed = false) (x : Int) : k.wrap x = ((BitVec.ofInt k.bits x).toNat : Int) := by
  rw [wrapU hs, BitVec.toNat_ofInt]
  have : (0 : Int) < ((2 ^ k.bits : Nat) : Int) := by have := Nat.two_pow_pos k.bits; omega
  have h2 := Int.emod_nonneg x (Int.ne_of_gt this)
  rw [Int.toNat_of_nonneg h2]; simp
theorem cv_uu {k : IntKind} (hs : k.signed = false) {w : Nat} (x : BitVec w) : k.wrap (x.toNat : Int) = ((x.setWidth k.bits).toNat : Int) := by
  rw [wrapU hs, BitVec.toNat_setWidth, Int.natCast_emod]; simp
theorem cv_ui {w : Nat} (x : BitVec w) (h : w ≤ 32) : IntKind.i64.wrap (x.toNat : Int) = (x.toNat : Int) := by
  have h1 := x.isLt
  have h2 : 2 ^ w ≤ 2 ^ 32 := Nat.pow_le_pow_right (by omega) h
  rw [IntKind.wrap_i64]; omega
theorem cv_64 (x : BitVec 64) : IntKind.i64.wrap (x.toNat : Int) = x.toInt := by
  rw [IntKind.wrap_i64, BitVec.toInt]
  have h1 := x.isLt
  split <;> omega
theorem o_cv_iu (hT : TyOk P Ty) {s t : TypeId} {k : IntKind} {x : Int} (h1 : tdOf Ty s = .int .i64) (h2 : tdOf Ty t = .int k) (hs : k.signed = false) (hx : aeval fr ox = eI x) : OpP P ⟨d, .convert s t ox, ty, pos, af, g⟩ fr (eU k (BitVec.ofInt k.bits x)) := o_cv_int hT h1 h2 (cv_iu hs x) hx
theorem o_cv_uu (hT : TyOk P Ty) {s t : TypeId} {k k' : IntKind} {w : Nat} {x : BitVec w} (h1 : tdOf Ty s = .int k) (h2 : tdOf Ty t = .int k') (hs : k'.signed = false) (hx : aeval fr ox = eU k x) : OpP P ⟨d, .convert s t ox, ty, pos, af, g⟩ fr (eU k' (x.setWidth k'.bits)) := o_cv_int hT h1 h2 (cv_uu hs x) hx
theorem o_cv_ui (hT : TyOk P Ty) {s t : TypeId} {k : IntKind} {w : Nat} {x : BitVec w} (h1 : tdOf Ty s = .int k) (h2 : tdOf Ty t = .int .i64) (h : w ≤ 32) (hx : aeval fr ox = eU k x) : OpP P ⟨d, .convert s t ox, ty, pos, af, g⟩ fr (eI (x.toNat : Int)) := o_cv_int hT h1 h2 (cv_ui x h) hx
theorem o_cv_64 (hT : TyOk P Ty) {s t : TypeId} {k : IntKind} {x : BitVec 64} (h1 : tdOf Ty s = .int k) (h2 : tdOf Ty t = .int .i64) (hx : aeval fr ox = eU k x) : OpP P ⟨d, .convert s t ox, ty, pos, af, g⟩ fr (eI x.toInt) := o_cv_int hT h1 h2 (cv_64 x) hx

theorem om_shl (hT : TyOk P Ty) {k' : IntKind} {x y v : Int} (h : (sc y).map (fun m => shl64 x m) = some v) (hx : aeval fr ox = .int .i64 x) (hy : aeval fr oy = .int k' y) : OpP P ⟨d, .binOp .shl T ox oy T', ty, pos, af, g⟩ fr (eI v) := by
  obtain ⟨m, hm, rfl⟩ := Option.map_eq_some_iff.1 h; exact o_shl hT hm hx hy
theorem om_rem_u (hT : TyOk P Ty) {k : IntKind} {x y v : BitVec k.bits} (hs : k.signed = false) (h : (dvU y).map (fun m => x % m) = some v) (hx : aeval fr ox = eU k x) (hy : aeval fr oy = eU k y) : OpP P ⟨d, .binOp .rem T ox oy T', ty, pos, af, g⟩ fr (eU k v) := by
  obtain ⟨m, hm, rfl⟩ := Option.map_eq_some_iff.1 h; exact o_rem_u hT hs hm hx hy

theorem o_mv (hT : TyOk P Ty) {a b : AV} (hx : aeval fr ox = a) (hw : Wk a b) : OpP P ⟨d, .move ox, ty, pos, af, g⟩ fr b := OpP.of_aop hT (mu := false) rfl (fun τ => rfl) (by rw [hx]; exact hw)
theorem o_as (hT : TyOk P Ty) {a b : AV} (hx : aeval fr ox = a) (hw : Wk a b) : OpP P ⟨d, .assign ox, ty, pos, af, g⟩ fr b := OpP.of_aop hT (mu := false) rfl (fun τ => rfl) (by rw [hx]; exact hw)
theorem o_pick_t (hT : TyOk P Ty) {oc : Operand} {a b : AV} (hc : aeval fr oc = .bool true) (hx : aeval fr ox = a) (hw : Wk a b) : OpP P ⟨d, .pick oc ox oy, ty, pos, af, g⟩ fr b := OpP.of_aop hT (mu := false) rfl (fun τ => by simp only [aop, hc, hx]; rfl) hw
theorem o_pick_f (hT : TyOk P Ty) {oc : Operand} {a b : AV} (hc : aeval fr oc = .bool false) (hx : aeval fr oy = a) (hw : Wk a b) : OpP P ⟨d, .pick oc ox oy, ty, pos, af, g⟩ fr b := OpP.of_aop hT (mu := false) rfl (fun τ => by simp only [aop, hc, hx]; rfl) hw
theorem o_ext (hT : TyOk P Ty) {vs : List AV} {i : Nat} {a : AV} (hx : aeval fr ox = .tup vs) (h : vs[i]? = some a) : OpP P ⟨d, .extract ox i, ty, pos, af, g⟩ fr a := OpP.of_aop' hT (mu := false) rfl (fun τ => by simp only [aop, hx, aext, h]; rfl)
theorem o_c (hT : TyOk P Ty) (mu : Bool) {o : Oper} {a : AV} (hc : callOf o = none) (h : ∀ τ, aop Ty mu o (aeval fr) τ = some (a, τ)) : OpP P o fr a := OpP.of_aop' hT hc h
theorem mkB_size (s : List (BitVec 8)) : (mkB s).size = s.length := by simp [mkB, ByteArray.size]
theorem mkB_data (s : List (BitVec 8)) : (mkB s).data.toList = s.map UInt8.ofBitVec := by simp [mkB]
theorem ofBV_inj {x y : BitVec 8} (h : UInt8.ofBitVec x = UInt8.ofBitVec y) : x = y := by cases h; rfl
theorem mkB_inj {s t : List (BitVec 8)} : mkB s = mkB t ↔ s = t := by
  constructor
  · intro h
    have h2 : (mkB s).data.toList = (mkB t).data.toList := by rw [h]
    rw [mkB_data, mkB_data] at h2
    exact (List.map_inj_right (fun x y => ofBV_inj)).1 h2
  · rintro rfl; rfl
theorem mkB_of (s : ByteArray) : mkB (s.data.toList.map (·.toBitVec)) = s := by
  apply ByteArray.ext
  apply Array.ext'
  rw [mkB_data, List.map_map]
  exact List.map_id'' (fun x => rfl) _
theorem o_str (hT : TyOk P Ty) {op : BinOp} {x y : ByteArray} {a : AV} (hx : aeval fr ox = .str x) (hy : aeval fr oy = .str y) (h : astr op x y = some a) : OpP P ⟨d, .binOp op T ox oy T', ty, pos, af, g⟩ fr a :=
  OpP.of_aop' hT (mu := false) rfl (fun τ => by simp only [aop, hx, hy, abin', abin, h]; rfl)
theorem o_eql_s (hT : TyOk P Ty) {x y : List (BitVec 8)} (hx : aeval fr ox = eS x) (hy : aeval fr oy = eS y) : OpP P ⟨d, .binOp .eql T ox oy T', ty, pos, af, g⟩ fr (eB (x == y)) :=
  o_str hT hx hy (by simp only [astr, eB, Option.some.injEq, AV.bool.injEq]; rw [Bool.eq_iff_iff]; simp [mkB_inj])
theorem o_bool_eql (hT : TyOk P Ty) {x y : Bool} (ht : tdOf Ty T = .bool) (hx : aeval fr ox = .bool x) (hy : aeval fr oy = .bool y) : OpP P ⟨d, .binOp .eql T ox oy T', ty, pos, af, g⟩ fr (eB (x == y)) :=
  OpP.of_aop' hT (mu := false) rfl (fun τ => by simp only [aop, hx, hy, abin', abin, ht]; rfl)
theorem o_bool_neq (hT : TyOk P Ty) {x y : Bool} (ht : tdOf Ty T = .bool) (hx : aeval fr ox = .bool x) (hy : aeval fr oy = .bool y) : OpP P ⟨d, .binOp .neq T ox oy T', ty, pos, af, g⟩ fr (eB (x != y)) :=
  OpP.of_aop' hT (mu := false) rfl (fun τ => by simp only [aop, hx, hy, abin', abin, ht]; rfl)
end

def eL {α : Type} (sz : Nat) (e : α → AV) (l : List α) : AV := .sl .no sz (l.map e)
def cL {α : Type} (e : α → AV) (l : List α) : List AV := flat (l.map e)
def eA {α : Type} (e : α → AV) (l : List α) : AV := .agg (cL e l)
def eT {α : Type} (t sz : Nat) (e : α → AV) (l : List α) : AV := .sl (.own t) sz (l.map e)
def eF {α : Type} (sz : Nat) (e : α → AV) (l : List α) : AV := .sl .full sz (l.map e)

structure Enc (Ty : TypeId → Option TI) (T : TypeId) (sz : Nat) {α : Type} (e : α → AV) : Prop where
  ty : szOf Ty T = sz
  pos : sz ≠ 0
  len : ∀ x, (e x).cells.length = sz
  agg : isAggTD (tdOf Ty T) = true → ∀ x, e x = .agg (e x).cells
  one : isAggTD (tdOf Ty T) = false → ∀ x, (e x).cells = [e x]
  flat : ∀ x, (e x).cells.all flatAV = true
  cut : ∀ nl nt x, cutAV nl nt (e x) = e x
theorem enc_i64 {Ty : TypeId → Option TI} {T : TypeId} (h : tdOf Ty T = .int .i64) (hs : szOf Ty T = 1) : Enc Ty T 1 eI := ⟨hs, by decide, fun _ => rfl, fun ha => (by rw [h] at ha; cases ha), fun _ _ => rfl, fun _ => rfl, fun _ _ _ => rfl⟩
theorem enc_u {Ty : TypeId → Option TI} {T : TypeId} {k : IntKind} {w : Nat} (h : tdOf Ty T = .int k) (hs : szOf Ty T = 1) : Enc Ty T 1 (@eU k w) := ⟨hs, by decide, fun _ => rfl, fun ha => (by rw [h] at ha; cases ha), fun _ _ => rfl, fun _ => rfl, fun _ _ _ => rfl⟩
theorem enc_b {Ty : TypeId → Option TI} {T : TypeId} (h : tdOf Ty T = .bool) (hs : szOf Ty T = 1) : Enc Ty T 1 eB := ⟨hs, by decide, fun _ => rfl, fun ha => (by rw [h] at ha; cases ha), fun _ _ => rfl, fun _ => rfl, fun _ _ _ => rfl⟩
theorem enc_s {Ty : TypeId → Option TI} {T : TypeId} (h : tdOf Ty T = .str) (hs : szOf Ty T = 1) : Enc Ty T 1 eS := ⟨hs, by decide, fun _ => rfl, fun ha => (by rw [h] at ha; cases ha), fun _ _ => rfl, fun _ => rfl, fun _ _ _ => rfl⟩
theorem cutL_enc {α : Type} {e : α → AV} (h : ∀ nl nt x, cutAV nl nt (e x) = e x) (nl nt : Nat → Option Nat) (l : List α) : cutL nl nt (l.map e) = l.map e := by
  rw [cutL_map, List.map_map]
  exact List.map_congr_left (fun x _ => h nl nt x)
theorem cut_eL {α : Type} {e : α → AV} (h : ∀ nl nt x, cutAV nl nt (e x) = e x) (sz : Nat) (nl nt : Nat → Option Nat) (l : List α) : cutAV nl nt (eL sz e l) = eL sz e l := by
  simp only [eL, cutAV, cutL_enc h, cutTok]
theorem enc_l {Ty : TypeId → Option TI} {T E : TypeId} (h : tdOf Ty T = .slice E) (hs : szOf Ty T = 1) {α : Type} {e : α → AV} {sz : Nat} (he : ∀ nl nt x, cutAV nl nt (e x) = e x) : Enc Ty T 1 (eL sz e) :=
  ⟨hs, by decide, fun _ => rfl, fun ha => (by rw [h] at ha; cases ha), fun _ _ => rfl, fun _ => rfl, fun nl nt x => cut_eL he sz nl nt x⟩
theorem cells_cut {α : Type} {e : α → AV} (h : ∀ nl nt x, cutAV nl nt (e x) = e x) (nl nt : Nat → Option Nat) (x : α) : cutL nl nt (e x).cells = (e x).cells := by
  by_cases hagg : ∃ cs, e x = .agg cs
  · obtain ⟨cs, hc⟩ := hagg
    have := h nl nt x
    rw [hc] at this ⊢
    simp only [cutAV, AV.agg.injEq] at this
    exact this
  · have hn : ∀ cs, e x ≠ .agg cs := fun cs he => hagg ⟨cs, he⟩
    have hc : (e x).cells = [e x] := by cases he : e x <;> first | rfl | exact absurd he (hn _)
    rw [hc]
    simp only [cutL, h]
theorem cutL_append (nl nt : Nat → Option Nat) (l m : List AV) : cutL nl nt (l ++ m) = cutL nl nt l ++ cutL nl nt m := by simp [cutL_map]
theorem cut_cL {α : Type} {e : α → AV} (h : ∀ nl nt x, cutAV nl nt (e x) = e x) (nl nt : Nat → Option Nat) : ∀ l : List α, cutL nl nt (cL e l) = cL e l
  | [] => rfl
  | x :: l => by
    have := cut_cL h nl nt l
    simp only [cL, List.map_cons, flat_cons, cutL_append, cells_cut h] at this ⊢
    rw [this]
theorem wk_no {t : Tok} {sz : Nat} {es : List AV} : Wk (.sl t sz es) (.sl .no sz es) := by
  intro G v h
  cases h with
  | sl b o c t sz es val hc hm hz hf h ht => exact .sl b o c .no sz es val hc hm hz hf h trivial
  | sl0 A c t sz hm ht => exact .sl0 A c .no sz hm (.inl rfl)
theorem wk_nils (sz : Nat) : Wk .nils (.sl .no sz []) := by
  intro G v h
  cases h
  exact .sl0 none 0 .no sz (Nat.zero_le _) (.inl rfl)
theorem wk_tup {aas bs : List AV} (h : WkL aas bs) : Wk (.tup aas) (.tup bs) := by
  intro G v hv
  cases hv with
  | tup vs _ hl hr =>
    have := h.rel (vs := vs.toList) (G := G) ⟨by simpa using hl, fun i v a e1 e2 => hr i v a (by simpa using e1) e2⟩
    exact .tup vs bs (by simpa using this.len) (fun i v a e1 e2 => this.at_ i v a (by simpa using e1) e2)
theorem wk_agg {aas bs : List AV} (h : WkL aas bs) : Wk (.agg aas) (.agg bs) := by
  intro G v hv
  cases hv with
  | agg vs _ hl hr =>
    have := h.rel (vs := vs.toList) (G := G) ⟨by simpa using hl, fun i v a e1 e2 => hr i v a (by simpa using e1) e2⟩
    exact .agg vs bs (by simpa using this.len) (fun i v a e1 e2 => this.at_ i v a (by simpa using e1) e2)

def ix {α : Type} (l : List α) (i : Int) : Option α := if 0 ≤ i then l[i.toNat]? else none
def cutTo {α : Type} (l : List α) (h : Int) : Option (List α) := if 0 ≤ h ∧ h ≤ l.length then some (l.take h.toNat) else none
def cutFrom {α : Type} (l : List α) (k : Int) : Option (List α) := if 0 ≤ k ∧ k ≤ l.length then some (l.drop k.toNat) else none
def app {α : Type} (b : Nat) (l m : List α) : Option (List α) := if (l.length + m.length) * b ≤ 140737488355328 then some (l ++ m) else none
def toBytes (s : List (BitVec 8)) : Option (List (BitVec 8)) := if s.length ≤ 140737488355328 then some s else none
def ixA {α : Type} (n : Nat) (l : List α) (i : Int) : Option α := if 0 ≤ i ∧ i < n then l[i.toNat]? else none
def whole {α : Type} (n : Nat) (l : List α) : Option (List α) := if l.length = n then some l else none

theorem ix_some {α : Type} {l : List α} {i : Int} {y : α} (h : ix l i = some y) : 0 ≤ i ∧ l[i.toNat]? = some y := by
  unfold ix at h
  split at h
  · exact ⟨by assumption, h⟩
  · cases h
theorem ixA_some {α : Type} {n : Nat} {l : List α} {i : Int} {y : α} (h : ixA n l i = some y) : 0 ≤ i ∧ i < n ∧ l[i.toNat]? = some y := by
  unfold ixA at h
  split at h
  · rename_i hc; exact ⟨hc.1, hc.2, h⟩
  · cases h

section
variable {P : Program} {Ty : TypeId → Option TI} {n : Nat} {σ : St} {ops : Array Oper} {fr : Nat → AV} {d : Option Tmp} {ty : TypeId} {pos : String} {af : Array Edge} {g : Option (Nat × Bool)} {ox oy oi : Operand} {T T' E U : TypeId} {α : Type} {e : α → AV} {sz : Nat} {k : Tok}

theorem o_len (hT : TyOk P Ty) {ts : List TypeId} {l : List α} (hd : tdOf Ty T = .slice E) (hx : aeval fr ox = .sl k sz (l.map e)) : OpP P ⟨d, .call ⟨.builtin .len, #[ox], (T :: ts).toArray⟩, ty, pos, af, g⟩ fr (eI l.length) :=
  OpP.of_aop' hT (mu := false) rfl (fun τ => by simp only [aop, hx, alen, hd, List.length_map]; rfl)
theorem o_len_s (hT : TyOk P Ty) {ts : List TypeId} {l : List (BitVec 8)} (hd : tdOf Ty T = .str) (hx : aeval fr ox = eS l) : OpP P ⟨d, .call ⟨.builtin .len, #[ox], (T :: ts).toArray⟩, ty, pos, af, g⟩ fr (eI l.length) :=
  OpP.of_aop' hT (mu := false) rfl (fun τ => by simp only [aop, hx, eS, alen, hd, mkB_size]; rfl)
theorem o_ixa (hT : TyOk P Ty) {l : List α} {kk : IntKind} {i : Int} {y : α} (h : ix l i = some y) (hd : tdOf Ty T = .slice E) (he : Enc Ty E sz e) (hx : aeval fr ox = .sl k sz (l.map e)) (hi : aeval fr oi = .int kk i) : OpP P ⟨d, .indexAddr T ox oi, ty, pos, af, g⟩ fr (.fptr (e y).cells 0) := by
  obtain ⟨h0, h1⟩ := ix_some h
  refine OpP.of_aop' hT (mu := false) rfl (fun τ => ?_)
  simp only [aop, hx, hi, aindexAddr, hd]
  rw [if_pos ⟨h0, he.ty.symm, he.pos⟩, List.getElem?_map, h1]
  rfl
theorem o_ld (hT : TyOk P Ty) {cs : List AV} {off : Nat} {a : AV} (hx : aeval fr ox = .fptr cs off) (h : acut Ty T cs off = some a) : OpP P ⟨d, .load T ox, ty, pos, af, g⟩ fr a :=
  OpP.of_aop' hT (mu := false) rfl (fun τ => by simp only [aop, hx, aload, acells, h]; rfl)
theorem acut_enc (he : Enc Ty T sz e) (hs : (Ty T).isSome = true) (y : α) : acut Ty T (e y).cells 0 = some (e y) := by
  obtain ⟨i, hi⟩ := Option.isSome_iff_exists.1 hs
  have hsz : i.sz = sz := by have := he.ty; unfold szOf at this; rw [hi] at this; exact this
  have htd : tdOf Ty T = i.d := by unfold tdOf; rw [hi]
  unfold acut
  rw [hi]
  simp only
  split
  · rename_i ha
    rw [if_pos (by rw [he.len, hsz]; omega), hsz, List.drop_zero, List.take_of_length_le (by rw [he.len]; exact Nat.le_refl _), ← he.agg (by rw [htd]; exact ha)]
  · rename_i ha
    rw [he.one (by rw [htd]; simpa using ha)]; rfl
theorem o_ld_e (hT : TyOk P Ty) (he : Enc Ty T sz e) (hs : (Ty T).isSome = true) {y : α} (hx : aeval fr ox = .fptr (e y).cells 0) : OpP P ⟨d, .load T ox, ty, pos, af, g⟩ fr (e y) := o_ld hT hx (acut_enc he hs y)
theorem abnd_i {kk : IntKind} {i : Int} (dflt : Nat) (h : 0 ≤ i) : abnd dflt (some (.int kk i)) = some i.toNat := by simp only [abnd, if_pos h]
theorem o_cutTo (hT : TyOk P Ty) {l z : List α} {kh : IntKind} {hi : Int} {oh : Operand} (h : cutTo l hi = some z) (hd : tdOf Ty T = .slice E) (he : Enc Ty E sz e) (hx : aeval fr ox = .sl k sz (l.map e)) (hh : aeval fr oh = .int kh hi) : OpP P ⟨d, .slice T ox none (some oh) none, ty, pos, af, g⟩ fr (eL sz e z) := by
  unfold cutTo at h
  split at h <;> cases h
  rename_i hc
  refine OpP.of_aop hT (mu := false) rfl (fun τ => ?_) (wk_no (t := if hi.toNat = (l.map e).length then k else .no))
  simp only [aop, hx, Option.map_some, Option.map_none, hh, aslice, hd, abnd_i _ hc.1]
  simp only [abnd]
  rw [if_pos ⟨by omega, by rw [List.length_map]; omega, he.ty.symm, he.pos⟩]
  rw [List.drop_zero, List.map_take]; rfl
theorem o_cutFrom (hT : TyOk P Ty) {l z : List α} {kl : IntKind} {lo : Int} {ol : Operand} (h : cutFrom l lo = some z) (hd : tdOf Ty T = .slice E) (he : Enc Ty E sz e) (hx : aeval fr ox = .sl k sz (l.map e)) (hl : aeval fr ol = .int kl lo) : OpP P ⟨d, .slice T ox (some ol) none none, ty, pos, af, g⟩ fr (eL sz e z) := by
  unfold cutFrom at h
  split at h <;> cases h
  rename_i hc
  refine OpP.of_aop hT (mu := false) rfl (fun τ => ?_) (wk_no (t := if (l.map e).length = (l.map e).length then k else .no))
  simp only [aop, hx, Option.map_some, Option.map_none, hl, aslice, hd, abnd_i _ hc.1]
  simp only [abnd]
  rw [if_pos ⟨by rw [List.length_map]; omega, Nat.le_refl _, he.ty.symm, he.pos⟩]
  rw [List.take_length, List.map_drop]; rfl
def SrcOk (Ty : TypeId → Option TI) (U : TypeId) (sz : Nat) (σ : St) (a : AV) (es : List AV) : Prop := srcOf Ty U sz σ a = some es
theorem src_l {k : Tok} {l : List α} {a : AV} (hd : tdOf Ty U = .slice E) (hx : a = .sl k sz (l.map e)) : SrcOk Ty U sz σ a (l.map e) := by
  subst hx
  simp only [SrcOk, srcOf, hd, if_true]
theorem app_some {b : Nat} {l m z : List α} (h : app b l m = some z) : (l.length + m.length) * b ≤ 140737488355328 ∧ z = l ++ m := by
  unfold app at h
  split at h <;> cases h
  exact ⟨by assumption, rfl⟩
theorem o_app (hT : TyOk P Ty) {i : TI} {tk : Nat} {l m z : List α} (h : app i.bytes l m = some z) (hd : tdOf Ty T = .slice E) (hi : Ty E = some i) (hsz : i.sz = sz) (hb : 0 < i.bytes) (hx : aeval fr ox = .sl (.own tk) sz (l.map e)) (ho : σ.opn[tk]? = some true) (hs : SrcOk Ty U sz σ (aeval fr oy) (m.map e)) :
    OpS P ⟨d, .call ⟨.builtin .append, #[ox, oy], #[T, U]⟩, ty, pos, af, g⟩ fr σ (fun a τ => a = eT σ.opn.length sz e z ∧ τ = σ.tok tk) := by
  obtain ⟨h1, rfl⟩ := app_some h
  subst hsz
  refine OpS.of_aop hT (mu := false) rfl (aeval fr) (fun x _ => Wk.refl _) (a := eT σ.opn.length i.sz e (l ++ m)) (b := eT σ.opn.length i.sz e (l ++ m)) (σ' := σ.tok tk) ?_ (Wk.refl _)
  simp only [aop, hx, aappend, hd, hi, baseOf, ho, and_self, if_true]
  unfold SrcOk at hs
  rw [hs]
  simp only [List.length_map]
  rw [if_pos ⟨hb, h1⟩, ← List.map_append]
  rfl
theorem o_app0 (hT : TyOk P Ty) {i : TI} {l m z : List α} (h : app i.bytes l m = some z) (hd : tdOf Ty T = .slice E) (hi : Ty E = some i) (hsz : i.sz = sz) (hb : 0 < i.bytes) (hx : (aeval fr ox = .nils ∧ l = []) ∨ aeval fr ox = .sl .full sz (l.map e)) (hs : SrcOk Ty U sz σ (aeval fr oy) (m.map e)) :
    OpS P ⟨d, .call ⟨.builtin .append, #[ox, oy], #[T, U]⟩, ty, pos, af, g⟩ fr σ (fun a τ => a = eT σ.opn.length sz e z ∧ τ = σ.more) := by
  obtain ⟨h1, rfl⟩ := app_some h
  subst hsz
  refine OpS.of_aop hT (mu := false) rfl (aeval fr) (fun x _ => Wk.refl _) (a := eT σ.opn.length i.sz e (l ++ m)) (b := eT σ.opn.length i.sz e (l ++ m)) (σ' := σ.more) ?_ (Wk.refl _)
  unfold SrcOk at hs
  rcases hx with ⟨hx, rfl⟩ | hx
  · simp only [aop, hx, aappend, hd, hi, baseOf, hs, List.length_nil, List.length_map]
    simp only [List.length_nil] at h1
    rw [if_pos ⟨hb, h1⟩]
    rfl
  · simp only [aop, hx, aappend, hd, hi, baseOf, hs, if_true, List.length_map]
    rw [if_pos ⟨hb, h1⟩, ← List.map_append]
    rfl
theorem o_s2b (hT : TyOk P Ty) {s z : List (BitVec 8)} (h : toBytes s = some z) (h1 : tdOf Ty T = .str) (h2 : tdOf Ty T' = .slice E) (h3 : tdOf Ty E = .int .u8) (hx : aeval fr ox = eS s) : OpP P ⟨d, .convert T T' ox, ty, pos, af, g⟩ fr (eL 1 (eU .u8) z) := by
  unfold toBytes at h
  split at h <;> cases h
  refine OpP.of_aop' hT (mu := false) rfl (fun τ => ?_)
  simp only [aop, hx, eS, aconv, aconvM, h1, h2, h3, mkB_size]
  rw [if_pos (by assumption)]
  simp only [byteAVs, mkB_data, List.map_map]
  rfl
theorem o_six (hT : TyOk P Ty) {s : List (BitVec 8)} {kk : IntKind} {i : Int} {y : BitVec 8} (h : ix s i = some y) (hd : tdOf Ty T = .str) (hx : aeval fr ox = eS s) (hi : aeval fr oi = .int kk i) : OpP P ⟨d, .index T ox oi, ty, pos, af, g⟩ fr (eU .u8 y) := by
  obtain ⟨h0, h1⟩ := ix_some h
  refine OpP.of_aop' hT (mu := false) rfl (fun τ => ?_)
  simp only [aop, hx, eS, hi, aindex, hd, if_pos h0, mkB_data, List.getElem?_map, h1, Option.map_some]
  rfl
theorem cL_length (he : ∀ x, (e x).cells.length = sz) (l : List α) : (cL e l).length = l.length * sz := by
  unfold cL
  rw [flat_length (sz := sz) (fun x hx => by obtain ⟨y, _, rfl⟩ := List.mem_map.1 hx; exact he y), List.length_map]
theorem acut_at (he : Enc Ty E sz e) {T : TypeId} {l : List α} {i o : Nat} {y : α} {a : AV} (hl : l[i]? = some y) (h : acut Ty T (e y).cells o = some a) (ho : (Ty T).isSome = true → isAggTD (tdOf Ty T) = true → o + szOf Ty T ≤ sz) : acut Ty T (cL e l) (i * sz + o) = some a := by
  have hall : ∀ x ∈ l.map e, x.cells.length = sz := fun x hx => by obtain ⟨y, _, rfl⟩ := List.mem_map.1 hx; exact he.len y
  have hget : (l.map e)[i]? = some (e y) := by rw [List.getElem?_map, hl]; rfl
  unfold acut at h ⊢
  cases hi : Ty T with
  | none => rw [hi] at h; cases h
  | some ti =>
    rw [hi] at h
    simp only at h ⊢
    split
    · rename_i ha
      rw [if_pos ha] at h
      split at h
      case isFalse => cases h
      rename_i hle
      cases h
      have hlen : (cL e l).length = l.length * sz := cL_length he.len l
      have hil : i < l.length := (List.getElem?_eq_some_iff.1 hl).1
      rw [he.len] at hle
      have h2 : i * sz + sz ≤ l.length * sz := by rw [← Nat.succ_mul]; exact Nat.mul_le_mul_right _ hil
      rw [if_pos (by omega)]
      congr 2
      apply List.ext_getElem?
      intro j
      rw [List.getElem?_take, List.getElem?_take]
      split
      · rename_i hj
        rw [List.getElem?_drop, List.getElem?_drop]
        have hj2 : o + j < (e y).cells.length := by rw [he.len]; omega
        have := flat_get hall hget (List.getElem?_eq_getElem hj2)
        rw [show i * sz + o + j = i * sz + (o + j) by omega, List.getElem?_eq_getElem hj2]
        exact this
      · rfl
    · rename_i ha
      rw [if_neg ha] at h
      exact flat_get hall hget h
theorem o_alloc (hT : TyOk P Ty) {i : TI} (hi : Ty T = some i) : OpS P ⟨d, .alloc T, ty, pos, af, g⟩ fr σ (fun a τ => a = .ref σ.objs.length 0 ∧ τ = ⟨σ.objs ++ [i.zero.cells], σ.opn, σ.gl⟩) :=
  OpS.of_aop hT (mu := false) rfl (aeval fr) (fun x _ => Wk.refl _) (by simp only [aop, aalloc, hi]) (Wk.refl _)
open Classical in
theorem o_box (hT : TyOk P Ty) {a b : AV} (hx : aeval fr ox = a) (hw : Wk a b) (hf : b.cells.all flatAV = true) : OpS P ⟨d, .box T ox, ty, pos, af, g⟩ fr σ (fun a τ => a = .ref σ.objs.length 0 ∧ τ = ⟨σ.objs ++ [b.cells], σ.opn, σ.gl⟩) := by
  refine OpS.of_aop hT (mu := true) rfl (fun x => if x = ox then b else .junk) (fun x hx' => ?_) (a := .ref σ.objs.length 0) (b := .ref σ.objs.length 0) (σ' := ⟨σ.objs ++ [b.cells], σ.opn, σ.gl⟩) ?_ (Wk.refl _)
  · simp [Op.operands] at hx'
    subst hx'
    rw [if_pos rfl, hx]; exact hw
  · simp only [aop, if_true, abox, hf]
open Classical in
theorem o_boxf (hT : TyOk P Ty) {a b : AV} (hx : aeval fr ox = a) (hw : Wk a b) (hf : b.cells.all flatAV = true) : OpP P ⟨d, .box T ox, ty, pos, af, g⟩ fr (.fptr b.cells 0) := fun σ => by
  refine OpS.of_aop hT (mu := false) rfl (fun x => if x = ox then b else .junk) (fun x hx' => ?_) (a := .fptr b.cells 0) (b := .fptr b.cells 0) (σ' := σ) ?_ (Wk.refl _)
  · simp [Op.operands] at hx'
    subst hx'
    rw [if_pos rfl, hx]; exact hw
  · simp only [aop, if_true, abox, hf]; rfl
theorem o_ldv (hT : TyOk P Ty) {id off : Nat} {cs : List AV} {a : AV} (hc : σ.objs[id]? = some cs) (hsp : spcl cs = false) (h : acut Ty T cs off = some a) (hx : aeval fr ox = .ref id off) : OpS P ⟨d, .load T ox, ty, pos, af, g⟩ fr σ (fun a' τ => a' = a ∧ τ = σ) :=
  OpS.of_aop hT (mu := false) rfl (aeval fr) (fun x _ => Wk.refl _) (by simp only [aop, hx, aload, acells, row_eq hc hsp, h]; rfl) (Wk.refl _)
open Classical in
theorem o_stv (hT : TyOk P Ty) {i : TI} {id off : Nat} {cs : List AV} {y b : AV} (hc : σ.objs[id]? = some cs) (hsp : spcl cs = false) (hi : Ty T = some i) (hne : oy ≠ ox) (hx : aeval fr ox = .ref id off) (hy : aeval fr oy = y) (hw : Wk y b) (hf : b.cells.all flatAV = true) (hl : b.cells.length = i.sz) (hle : off + i.sz ≤ cs.length) (cs' : List AV) (hcs : repl cs off b.cells = cs') :
    OpS P ⟨d, .store T ox oy, ty, pos, af, g⟩ fr σ (fun a τ => a = .junk ∧ τ = ⟨σ.objs.set id cs', σ.opn, σ.gl⟩) := by
  subst hcs
  refine OpS.of_aop hT (mu := false) rfl (fun x => if x = ox then .ref id off else b) (fun x hx' => ?_) (a := .junk) (b := .junk) (σ' := ⟨σ.objs.set id (repl cs off b.cells), σ.opn, σ.gl⟩) ?_ (Wk.refl _)
  · simp [Op.operands] at hx'
    rcases hx' with rfl | rfl
    · rw [if_pos rfl, hx]; exact Wk.refl _
    · rw [if_neg hne, hy]; exact hw
  · simp only [aop, if_true, if_neg hne, astore, hi, row_eq hc hsp]
    rw [if_pos ⟨hf, hl, hle⟩]
theorem o_arrv (hT : TyOk P Ty) {m id off : Nat} {kk : IntKind} {i : Int} (h0 : 0 ≤ i) (h1 : i < m) (hd : tdOf Ty T = .arr m E) (hz : szOf Ty E = sz) (hs : sz ≠ 0) (hx : aeval fr ox = .ref id off) (hi : aeval fr oi = .int kk i) : OpP P ⟨d, .indexAddr T ox oi, ty, pos, af, g⟩ fr (.ref id (off + i.toNat * sz)) := by
  refine OpP.of_aop' hT (mu := false) rfl (fun τ => ?_)
  simp only [aop, hx, hi, aindexAddr, hd]
  rw [if_pos ⟨h0, h1, by rw [hz]; exact hs⟩, hz]
  rfl
theorem repl_get {cs new : List AV} {o : Nat} (h : o + new.length ≤ cs.length) (j : Nat) : (repl cs o new)[j]? = if j < o then cs[j]? else if j < o + new.length then new[j - o]? else cs[j]? := by
  unfold repl
  rw [List.getElem?_append, List.getElem?_append]
  simp only [List.length_append, List.length_take, List.getElem?_take, List.getElem?_drop]
  have : min o cs.length = o := by omega
  rw [this]
  by_cases c1 : j < o
  · rw [if_pos (by omega), if_pos c1, if_pos c1, if_pos c1]
  · by_cases c2 : j < o + new.length
    · rw [if_pos c2, if_neg c1, if_neg c1, if_pos c2]
    · rw [if_neg c2, if_neg c1, if_neg c2]
      congr 1; omega
theorem repl_at (he : ∀ x, (e x).cells.length = sz) {l : List α} {i o : Nat} {y z : α} {new : List AV} (hl : l[i]? = some y) (h : repl (e y).cells o new = (e z).cells) (hle : o + new.length ≤ sz) : repl (cL e l) (i * sz + o) new = cL e (l.set i z) := by
  have hall : ∀ x ∈ l.map e, x.cells.length = sz := fun x hx => by obtain ⟨y, _, rfl⟩ := List.mem_map.1 hx; exact he y
  have hil : i < l.length := (List.getElem?_eq_some_iff.1 hl).1
  have hlen : (flat (l.map e)).length = l.length * sz := by rw [flat_length hall, List.length_map]
  have h2 : i * sz + sz ≤ l.length * sz := by rw [← Nat.succ_mul]; exact Nat.mul_le_mul_right _ hil
  unfold cL
  rw [List.map_set, flat_set hall (by rw [List.length_map]; exact hil) (he z), ← h]
  have hrl : (repl (e y).cells o new).length = sz := by rw [h, he]
  have hat : ∀ j, j < sz → (flat (l.map e))[i * sz + j]? = (e y).cells[j]? := fun j hj => by
    have hj2 : j < (e y).cells.length := by rw [he]; exact hj
    rw [List.getElem?_eq_getElem hj2]
    exact flat_get hall (by rw [List.getElem?_map, hl]; rfl) (List.getElem?_eq_getElem hj2)
  apply List.ext_getElem?
  intro j
  rw [repl_get (by omega), repl_get (by omega), hrl]
  by_cases c1 : j < i * sz
  · rw [if_pos (by omega), if_pos c1]
  · rw [if_neg c1]
    by_cases c2 : j < i * sz + sz
    · rw [if_pos c2, repl_get (by rw [he]; exact hle)]
      have hj : j = i * sz + (j - i * sz) := by omega
      by_cases c3 : j < i * sz + o
      · rw [if_pos c3, if_pos (by omega), ← hat _ (by omega), ← hj]
      · by_cases c4 : j < i * sz + o + new.length
        · rw [if_neg c3, if_pos c4, if_neg (by omega), if_pos (by omega)]; congr 1; omega
        · rw [if_neg c3, if_neg c4, if_neg (by omega), if_neg (by omega), ← hat _ (by omega), ← hj]
    · rw [if_neg (by omega), if_neg (by omega), if_neg c2]
theorem all_flat_cL (he : Enc Ty E sz e) (l : List α) : (eA e l).cells.all flatAV = true := by
  show (cL e l).all flatAV = true
  unfold cL flat
  rw [List.all_eq_true]
  intro a ha
  obtain ⟨x, hx, ha⟩ := List.mem_flatMap.1 ha
  obtain ⟨y, _, rfl⟩ := List.mem_map.1 hx
  exact List.all_eq_true.1 (he.flat y) a ha
theorem spcl_len : ∀ {l : List AV}, l.length ≠ 1 → spcl l = false
  | [], _ => rfl
  | [a], h => absurd rfl h
  | _ :: _ :: _, _ => rfl
theorem spcl_cL (he : Enc Ty E sz e) (l : List α) : spcl (cL e l) = false := flat_nsp (all_flat_cL he l)
theorem spcl_mid (he : Enc Ty E sz e) {A B : List AV} {l : List α} (hl : 0 < l.length) : spcl (A ++ (cL e l ++ B)) = false := by
  by_cases h : A = [] ∧ B = []
  · obtain ⟨rfl, rfl⟩ := h
    rw [List.nil_append, List.append_nil]; exact spcl_cL he l
  · refine spcl_len fun h1 => h ?_
    have h2 : 0 < (cL e l).length := by rw [cL_length he.len]; exact Nat.mul_pos hl (Nat.pos_of_ne_zero he.pos)
    simp only [List.length_append] at h1
    exact ⟨List.eq_nil_of_length_eq_zero (by omega), List.eq_nil_of_length_eq_zero (by omega)⟩
def chk (m : Nat) (i : Int) : Option Unit := if 0 ≤ i ∧ i < m then some () else none
theorem chk_some {m : Nat} {i : Int} {u : Unit} (h : chk m i = some u) : 0 ≤ i ∧ i < m := by
  unfold chk at h
  split at h
  · assumption
  · cases h
def updA {α : Type} (m : Nat) (l : List α) (i : Int) (f : α → α) : Option (List α) := (ixA m l i).map fun x => l.set i.toNat (f x)
theorem updA_some {m : Nat} {l c : List α} {i : Int} {f : α → α} (h : updA m l i f = some c) : ∃ x, l[i.toNat]? = some x ∧ c = l.set i.toNat (f x) := by
  unfold updA at h
  obtain ⟨x, h1, rfl⟩ := Option.map_eq_some_iff.1 h
  exact ⟨x, (ixA_some h1).2.2, rfl⟩
theorem repl_all {cs new : List AV} {n : Nat} (h : cs.length = n) (h2 : new.length = n) : repl cs 0 new = new := by
  simp only [repl, List.take_zero, List.nil_append, Nat.zero_add]
  rw [List.drop_of_length_le (by omega), List.append_nil]
end

def cnt (S : List Nat) (i : Nat) : Nat := (S.filter fun s => Nat.blt s i).length
def srt (S : List Nat) (n : Nat) : Bool := ((List.range S.length).all fun j => cnt S (S.getD j 0) == j) && ((List.range n).all fun i => cnt S (i + 1) == (if S.contains i then cnt S i + 1 else cnt S i))
section
variable (P : Program)
def wpdS (ops : Array Oper) (S : List Nat) (K : (Nat → AV) → St → Prop) : Nat → List Oper → (Nat → AV) → St → Prop
  | _, [], fr, σ => K fr σ
  | i, o :: rest, fr, σ => if S.contains i = true then ∃ a σ', AStep P ops o fr σ a σ' ∧ wpdS ops S K (i + 1) rest (putO fr o.dst a) σ'
    else ∃ a, ((∀ τ, AStep P ops o fr τ a τ) ∨ ((win ops S i).all (· == cnt S i) = true ∧ AStep P ops o fr σ a σ)) ∧ wpdS ops S K (i + 1) rest (putO fr o.dst a) σ
end
section
variable {P : Program} {w0 : World} {n : Nat} {σ : St} {ops : Array Oper} {S : List Nat}
theorem wpdS_steps {K : (Nat → AV) → St → Prop} (fr0 : Nat → AV) (hs : srt S ops.size = true) : ∀ (m i : Nat) (aas : Nat → AV) (σs : Nat → St), i + m = ops.size → wpdS P ops S K i (ops.toList.drop i) (frT ops fr0 aas i) (σs (cnt S i)) →
    ∃ (aas' : Nat → AV) (σs' : Nat → St), (∀ k, k < i → aas' k = aas k) ∧ (∀ j, j ≤ cnt S i → σs' j = σs j) ∧ K (frT ops fr0 aas' ops.size) (σs' (cnt S ops.size)) ∧
      ∀ (k : Nat) (o : Oper), i ≤ k → ops[k]? = some o → (S.contains k = true → AStep P ops o (frT ops fr0 aas' k) (σs' (cnt S k)) (aas' k) (σs' (cnt S k + 1))) ∧
        (S.contains k = false → ∀ j ∈ win ops S k, AStep P ops o (frT ops fr0 aas' k) (σs' j) (aas' k) (σs' j))
  | 0, i, aas, σs, hi, h => by
    rw [List.drop_of_length_le (by simp; omega)] at h
    have : i = ops.size := by omega
    subst this
    exact ⟨aas, σs, fun _ _ => rfl, fun _ _ => rfl, h, fun k o hk ho => by have := (Array.getElem?_eq_some_iff.1 ho).1; omega⟩
  | m + 1, i, aas, σs, hi, h => by
    have hlt : i < ops.size := by omega
    have hc : cnt S (i + 1) = if S.contains i then cnt S i + 1 else cnt S i := by
      have h2 := hs
      simp only [srt, Bool.and_eq_true, List.all_eq_true] at h2
      simpa using h2.2 i (by simpa using hlt)
    rw [List.drop_eq_getElem_cons (by simpa using hlt)] at h
    simp only [Array.getElem_toList] at h
    have hd : dstAt ops i = ops[i].dst := by simp [dstAt, Array.getElem?_eq_getElem hlt]
    have e1 (x : AV) : frT ops fr0 (fun k => if k = i then x else aas k) i = frT ops fr0 aas i := frT_congr fr0 i (fun k hk => by rw [if_neg (by omega)])
    have e2 (x : AV) : frT ops fr0 (fun k => if k = i then x else aas k) (i + 1) = putO (frT ops fr0 aas i) ops[i].dst x := by
      simp only [frT]
      rw [e1, hd]
      simp
    simp only [wpdS] at h
    split at h
    · rename_i hin
      obtain ⟨x, σ', h1, h2⟩ := h
      rw [if_pos hin] at hc
      rw [← e2] at h2
      obtain ⟨f, hf1, hf2⟩ : ∃ f : Nat → St, (∀ j, j ≤ cnt S i → f j = σs j) ∧ f (cnt S i + 1) = σ' := ⟨fun j => if j = cnt S i + 1 then σ' else σs j, fun j hj => if_neg (by omega), if_pos rfl⟩
      obtain ⟨aas', σs', k1, k2, k3, k4⟩ := wpdS_steps (K := K) fr0 hs m (i + 1) (fun k => if k = i then x else aas k) f (by omega) (by rw [hc, hf2]; exact h2)
      have hk : ∀ k, k < i → aas' k = aas k := fun k hk => by rw [k1 k (by omega), if_neg (by omega)]
      have hj : ∀ j, j ≤ cnt S i → σs' j = σs j := fun j hj => by rw [k2 j (by omega), hf1 j hj]
      refine ⟨aas', σs', hk, hj, k3, fun k o hik ho => ?_⟩
      by_cases hki : k = i
      · subst hki
        rw [Array.getElem?_eq_getElem hlt] at ho
        cases ho
        have ha : aas' k = x := by rw [k1 k (by omega)]; simp
        refine ⟨fun _ => ?_, fun hno => by rw [hin] at hno; cases hno⟩
        rw [ha, frT_congr fr0 k hk, hj _ (Nat.le_refl _), k2 (cnt S k + 1) (by omega), hf2]
        exact h1
      · exact k4 k o (by omega) ho
    · rename_i hin
      obtain ⟨x, h1, h2⟩ := h
      rw [if_neg hin] at hc
      rw [← e2] at h2
      obtain ⟨aas', σs', k1, k2, k3, k4⟩ := wpdS_steps fr0 hs m (i + 1) _ σs (by omega) (by rw [hc]; exact h2)
      have hk : ∀ k, k < i → aas' k = aas k := fun k hk => by rw [k1 k (by omega), if_neg (by omega)]
      have hj : ∀ j, j ≤ cnt S i → σs' j = σs j := fun j hj => k2 j (by omega)
      refine ⟨aas', σs', hk, hj, k3, fun k o hik ho => ?_⟩
      by_cases hki : k = i
      · subst hki
        rw [Array.getElem?_eq_getElem hlt] at ho
        cases ho
        have ha : aas' k = x := by rw [k1 k (by omega)]; simp
        refine ⟨fun hyes => absurd hyes hin, fun _ j hjw => ?_⟩
        rw [ha, frT_congr fr0 k hk]
        rcases h1 with h1 | ⟨hw, h1⟩
        · exact h1 _
        · rw [List.all_eq_true] at hw
          have : j = cnt S k := by simpa using hw j hjw
          rw [this, hj _ (Nat.le_refl _)]
          exact h1
      · exact k4 k o (by omega) ho
theorem areg_drawS {Q : AExit → (Nat → AV) → St → Prop} {fr : Nat → AV} (S : List Nat) (hd : allDst n ops = true) (hchk : drawChk ops S = true) (hs : srt S ops.size = true) (hl : cnt S ops.size = S.length) (h : wpdS P ops S (Q .normal) 0 ops.toList fr σ) : AReg P n ops Q fr σ := by
  have hc0 : cnt S 0 = 0 := by simp [cnt, Nat.blt]
  obtain ⟨aas, σs, _, h2, h3, h4⟩ := wpdS_steps (P := P) (ops := ops) (S := S) (K := Q .normal) fr hs ops.size 0 (fun _ => .junk) (fun _ => σ) (by omega) (by simpa [frT] using h)
  refine areg_draw (P := P) hd hchk aas σs (fun i j o ho hj => ?_) (fun i o ho hi j hj => ?_) (by rw [← hl]; exact h3) (h2 0 (by omega))
  · have hi : S.contains i = true := by simpa using List.mem_of_getElem? hj
    have hcj : cnt S i = j := by
      have h2 := hs
      simp only [srt, Bool.and_eq_true, List.all_eq_true] at h2
      have hjl := (List.getElem?_eq_some_iff.1 hj).1
      have := h2.1 j (by simpa using hjl)
      rw [List.getD_eq_getElem?_getD, hj] at this
      simpa using this
    have := (h4 i o (Nat.zero_le _) ho).1 hi
    rw [hcj] at this
    exact this
  · exact (h4 i o (Nat.zero_le _) ho).2 (by simpa using hi) j hj
theorem awp_drawS (hm : P.follows .mixedOrders = true) {id : Nat} {Q : AExit → (Nat → AV) → St → Prop} {fr : Nat → AV} (S : List Nat) (hd : allDst n ops = true) (hchk : drawChk ops S = true) (hs : srt S ops.size = true) (hl : cnt S ops.size = S.length) (h : wpdS P ops S (Q .normal) 0 ops.toList fr σ) : AWP P n (.region id ops true) Q fr σ := (areg_drawS S hd hchk hs hl h).awp hm
theorem wpdS_nil {K : (Nat → AV) → St → Prop} {i : Nat} {fr : Nat → AV} (h : K fr σ) : wpdS P ops S K i [] fr σ := h
theorem wpdS_p {K : (Nat → AV) → St → Prop} {i : Nat} {o : Oper} {rest : List Oper} {l : List (Nat × AV)} {a : AV} {t : Tmp} (hS : S.contains i = false) (hd : o.dst = some t) (hg : guardOf ops o (fm l) = some true) (ho : OpP P o (fm l) a) (h : wpdS P ops S K (i + 1) rest (fm ((t, a) :: l)) σ) : wpdS P ops S K i (o :: rest) (fm l) σ := by
  simp only [wpdS]
  rw [if_neg (by rw [hS]; simp)]
  refine ⟨a, .inl fun τ => ?_, by rw [hd]; exact h⟩
  simp only [AStep, hg]
  exact ho τ
theorem wpdS_lt {α β : Type} {z : α} {k : α → Option β} {r : β} (H : lt z k = some r) (enc : α → AV) {K : (Nat → AV) → St → Prop} {i : Nat} {o : Oper} {rest : List Oper} {l : List (Nat × AV)} {t : Nat} (hS : S.contains i = false) (hd : o.dst = some t) (hg : guardOf ops o (fm l) = some true)
    (ho : OpP P o (fm l) (enc z)) (h : ∀ x, k x = some r → wpdS P ops S K (i + 1) rest (fm ((t, enc x) :: l)) σ) : wpdS P ops S K i (o :: rest) (fm l) σ := wpdS_p hS hd hg ho (h z H)
theorem wpdS_bd {α β : Type} {z : Option α} {k : α → Option β} {r : β} (H : z.bind k = some r) (enc : α → AV) {K : (Nat → AV) → St → Prop} {i : Nat} {o : Oper} {rest : List Oper} {l : List (Nat × AV)} {t : Nat} (hS : S.contains i = false) (hd : o.dst = some t) (hg : guardOf ops o (fm l) = some true)
    (ho : ∀ x, z = some x → OpP P o (fm l) (enc x)) (h : ∀ x, z = some x → k x = some r → wpdS P ops S K (i + 1) rest (fm ((t, enc x) :: l)) σ) : wpdS P ops S K i (o :: rest) (fm l) σ := by
  obtain ⟨x, hx, H⟩ := Option.bind_eq_some_iff.1 H
  exact wpdS_p hS hd hg (ho x hx) (h x hx H)
theorem wpdS_mv {a : AV} {K : (Nat → AV) → St → Prop} {i : Nat} {o : Oper} {rest : List Oper} {l : List (Nat × AV)} {t : Nat} (hS : S.contains i = false) (hd : o.dst = some t) (hg : guardOf ops o (fm l) = some true)
    (ho : OpP P o (fm l) a) (h : wpdS P ops S K (i + 1) rest (fm ((t, a) :: l)) σ) : wpdS P ops S K i (o :: rest) (fm l) σ := wpdS_p hS hd hg ho h
theorem wpdS_skip {K : (Nat → AV) → St → Prop} {i : Nat} {o : Oper} {rest : List Oper} {l : List (Nat × AV)} {t : Tmp} (hS : S.contains i = false) (hd : o.dst = some t) (hg : guardOf ops o (fm l) = some false) (h : wpdS P ops S K (i + 1) rest (fm ((t, .tup []) :: l)) σ) : wpdS P ops S K i (o :: rest) (fm l) σ := by
  simp only [wpdS]
  rw [if_neg (by rw [hS]; simp)]
  refine ⟨.tup [], .inl fun τ => ?_, by rw [hd]; exact h⟩
  simp only [AStep, hg]
  exact ⟨trivial, trivial⟩
theorem wpdS_rd {a : AV} {K : (Nat → AV) → St → Prop} {i : Nat} {o : Oper} {rest : List Oper} {l : List (Nat × AV)} {t : Tmp} (hS : S.contains i = false) (hw : (win ops S i).all (· == cnt S i) = true) (hd : o.dst = some t) (hg : guardOf ops o (fm l) = some true) (ho : OpS P o (fm l) σ (fun a' τ => a' = a ∧ τ = σ)) (h : wpdS P ops S K (i + 1) rest (fm ((t, a) :: l)) σ) : wpdS P ops S K i (o :: rest) (fm l) σ := by
  simp only [wpdS]
  rw [if_neg (by rw [hS]; simp)]
  refine ⟨a, .inr ⟨hw, ?_⟩, by rw [hd]; exact h⟩
  simp only [AStep, hg]
  exact ho
theorem wpdS_bdr {α β : Type} {z : Option α} {k : α → Option β} {r : β} (H : z.bind k = some r) (enc : α → AV) {K : (Nat → AV) → St → Prop} {i : Nat} {o : Oper} {rest : List Oper} {l : List (Nat × AV)} {t : Nat} (hS : S.contains i = false) (hw : (win ops S i).all (· == cnt S i) = true) (hd : o.dst = some t) (hg : guardOf ops o (fm l) = some true)
    (ho : ∀ x, z = some x → OpS P o (fm l) σ (fun a τ => a = enc x ∧ τ = σ)) (h : ∀ x, z = some x → k x = some r → wpdS P ops S K (i + 1) rest (fm ((t, enc x) :: l)) σ) : wpdS P ops S K i (o :: rest) (fm l) σ := by
  obtain ⟨x, hx, H⟩ := Option.bind_eq_some_iff.1 H
  exact wpdS_rd hS hw hd hg (ho x hx) (h x hx H)
theorem wpdS_s1 {a : AV} {τ : St} {K : (Nat → AV) → St → Prop} {i : Nat} {o : Oper} {rest : List Oper} {l : List (Nat × AV)} {t : Tmp} (hS : S.contains i = true) (hd : o.dst = some t) (hg : guardOf ops o (fm l) = some true) (ho : OpS P o (fm l) σ (fun a' τ' => a' = a ∧ τ' = τ)) (h : wpdS P ops S K (i + 1) rest (fm ((t, a) :: l)) τ) : wpdS P ops S K i (o :: rest) (fm l) σ := by
  simp only [wpdS]
  rw [if_pos hS]
  refine ⟨a, τ, ?_, by rw [hd]; exact h⟩
  simp only [AStep, hg]
  exact ho
theorem wpdS_s0 {a : AV} {τ : St} {K : (Nat → AV) → St → Prop} {i : Nat} {o : Oper} {rest : List Oper} {l : List (Nat × AV)} (hS : S.contains i = true) (hd : o.dst = none) (hg : guardOf ops o (fm l) = some true) (ho : OpS P o (fm l) σ (fun a' τ' => a' = a ∧ τ' = τ)) (h : wpdS P ops S K (i + 1) rest (fm l) τ) : wpdS P ops S K i (o :: rest) (fm l) σ := by
  simp only [wpdS]
  rw [if_pos hS]
  refine ⟨a, τ, ?_, by rw [hd]; exact h⟩
  simp only [AStep, hg]
  exact ho
theorem lt_ex {α β : Type} {z : α} {k : α → Option β} {r : β} (H : lt z k = some r) : ∃ x, z = x ∧ k x = some r := ⟨z, rfl, H⟩
theorem awp_cutn {n : Nat} {c : Code} {Q : AExit → (Nat → AV) → St → Prop} {fr : Nat → AV} (M : (Nat → AV) → St → Prop) (hM : ∀ fr τ, M fr τ → Q .normal fr τ) (h : AWP P n c (thenQ M Q) fr σ) : AWP P n c Q fr σ :=
  h.mono fun e fr σ he => by
    cases e with
    | normal => exact hM _ _ he
    | _ => exact he
def exitQ (id : Nat) (M : (Nat → AV) → St → Prop) (Q : AExit → (Nat → AV) → St → Prop) : AExit → (Nat → AV) → St → Prop
  | .exit i, fr, σ => bif Nat.beq i id then M fr σ else Q (.exit i) fr σ
  | e, fr, σ => Q e fr σ
theorem awp_cutx {n : Nat} {c : Code} {Q : AExit → (Nat → AV) → St → Prop} {fr : Nat → AV} (id : Nat) (M : (Nat → AV) → St → Prop) (hM : ∀ fr τ, M fr τ → Q (.exit id) fr τ) (h : AWP P n c (exitQ id M Q) fr σ) : AWP P n c Q fr σ :=
  h.mono fun e fr σ he => by
    cases e with
    | exit i =>
      simp only [exitQ] at he
      cases hb : Nat.beq i id with
      | true => rw [hb] at he; have := Nat.eq_of_beq_eq_true hb; subst this; exact hM _ _ he
      | false => rw [hb] at he; exact he
    | _ => exact he
theorem AWP.tokN {n : Nat} {c : Code} {Q : AExit → (Nat → AV) → St → Prop} {l : List (Nat × AV)} {σ0 : St} {O : List (Nat × List AV)} {A : List Nat} (hH : Holds σ0 O A σ) (t sz : Nat) (ht : Va.fm l t = .nils) (h : ∀ k τ, Holds σ0 O (k :: A) τ → AWP P n c Q (Va.fm ((t, .sl (.own k) sz []) :: l)) τ) : AWP P n c Q (Va.fm l) σ :=
  AWP.tokNil t sz (.inl ht) (h _ _ hH.more)
theorem AWP.tokF {n : Nat} {c : Code} {Q : AExit → (Nat → AV) → St → Prop} {l : List (Nat × AV)} {σ0 : St} {O : List (Nat × List AV)} {A : List Nat} (hH : Holds σ0 O A σ) (t : Nat) {sz : Nat} {es : List AV} (ht : Va.fm l t = .sl .full sz es) (h : ∀ k τ, Holds σ0 O (k :: A) τ → AWP P n c Q (Va.fm ((t, .sl (.own k) sz es) :: l)) τ) : AWP P n c Q (Va.fm l) σ := fun w0 G a w hS => by
  obtain ⟨hle, hI⟩ := hS.inv.closed .no
  refine wp_mono (h σ.opn.length σ.more hH.more w0 _ a w ⟨hI, fun u => ?_, hS.size, hS.defers⟩) ?_
  · simp only [Va.fm, upd]
    split
    · rename_i e
      subst e
      have hr := (hS.frm u).mono hle
      rw [ht] at hr
      generalize a.tmps.getD u undef = v at hr
      cases hr with
      | sl b o c t sz es val hc hm hz hf h ht => exact .sl b o c _ sz es val hc hm hz hf h ⟨Nat.lt_succ_self _, .inl ht.1⟩
      | sl0 A c t sz hm hz => exact .sl0 _ _ _ _ hm (.inr ⟨(hz.resolve_left (by simp)).1, Nat.lt_succ_self _⟩)
    · exact (hS.frm u).mono hle
  · rintro e a' w' ⟨ae, fr', σ', G', k1, k2, k3, k4⟩
    exact ⟨ae, fr', σ', G', k1, hle.trans k2, k3, k4⟩
theorem wpo_rd {a : AV} {K : (Nat → AV) → St → Prop} {n : Nat} {o : Oper} {rest : List Oper} {l : List (Nat × AV)} {t : Nat} (hd : o.dst = some t) (hn : Nat.ble (t + 1) n = true) (hg : guardOf ops o (fm l) = some true)
    (ho : OpS P o (fm l) σ (fun a' τ => a' = a ∧ τ = σ)) (h : wpo P n ops K rest (fm ((t, a) :: l)) σ) : wpo P n ops K (o :: rest) (fm l) σ := wpo_s1 hd hn hg ho h
theorem wpo_a {av : Nat → AV} {R : Nat → St → Prop} {K : (Nat → AV) → St → Prop} {n : Nat} {o : Oper} {rest : List Oper} {l : List (Nat × AV)} {t : Nat} (hd : o.dst = some t) (hn : Nat.ble (t + 1) n = true) (hg : guardOf ops o (fm l) = some true)
    (ho : ∃ b τ, OpS P o (fm l) σ (fun a' τ' => a' = av b ∧ τ' = τ) ∧ R b τ) (h : ∀ b τ, R b τ → wpo P n ops K rest (fm ((t, av b) :: l)) τ) : wpo P n ops K (o :: rest) (fm l) σ := by
  obtain ⟨b, τ, h1, h2⟩ := ho
  exact wpo_s1 hd hn hg h1 (h b τ h2)
theorem wpo_z {R : St → Prop} {K : (Nat → AV) → St → Prop} {n : Nat} {o : Oper} {rest : List Oper} {l : List (Nat × AV)} (hd : o.dst = none) (hg : guardOf ops o (fm l) = some true)
    (ho : ∃ τ, OpS P o (fm l) σ (fun a' τ' => a' = .junk ∧ τ' = τ) ∧ R τ) (h : ∀ τ, R τ → wpo P n ops K rest (fm l) τ) : wpo P n ops K (o :: rest) (fm l) σ := by
  obtain ⟨τ, h1, h2⟩ := ho
  exact wpo_s0 hd hg h1 (h τ h2)
theorem wpdS_a {av : Nat → AV} {R : Nat → St → Prop} {K : (Nat → AV) → St → Prop} {i : Nat} {o : Oper} {rest : List Oper} {l : List (Nat × AV)} {t : Nat} (hS : S.contains i = true) (hd : o.dst = some t) (hg : guardOf ops o (fm l) = some true)
    (ho : ∃ b τ, OpS P o (fm l) σ (fun a' τ' => a' = av b ∧ τ' = τ) ∧ R b τ) (h : ∀ b τ, R b τ → wpdS P ops S K (i + 1) rest (fm ((t, av b) :: l)) τ) : wpdS P ops S K i (o :: rest) (fm l) σ := by
  obtain ⟨b, τ, h1, h2⟩ := ho
  exact wpdS_s1 hS hd hg h1 (h b τ h2)
theorem wpdS_z {R : St → Prop} {K : (Nat → AV) → St → Prop} {i : Nat} {o : Oper} {rest : List Oper} {l : List (Nat × AV)} (hS : S.contains i = true) (hd : o.dst = none) (hg : guardOf ops o (fm l) = some true)
    (ho : ∃ τ, OpS P o (fm l) σ (fun a' τ' => a' = .junk ∧ τ' = τ) ∧ R τ) (h : ∀ τ, R τ → wpdS P ops S K (i + 1) rest (fm l) τ) : wpdS P ops S K i (o :: rest) (fm l) σ := by
  obtain ⟨τ, h1, h2⟩ := ho
  exact wpdS_s0 hS hd hg h1 (h τ h2)
theorem OpS.wk {o : Oper} {fr fr' : Nat → AV} {K : AV → St → Prop} (k : WkF fr fr') (h : OpS P o fr' σ K) : OpS P o fr σ K :=
  fun w0 G act w Q K' hI hr hK => h w0 G act w Q K' hI (fun x hx => by
    have := hr x hx
    cases x with
    | tmp t => exact k t G _ this
    | _ => exact this) hK
theorem OpP.wk {o : Oper} {fr fr' : Nat → AV} {b : AV} (k : WkF fr fr') (h : OpP P o fr' b) : OpP P o fr b := fun τ => (h τ).wk k
theorem wkf_up {l : List (Nat × AV)} {t : Nat} {a : AV} (h : Wk (fm l t) a) : WkF (fm l) (fm ((t, a) :: l)) := by
  intro x
  simp only [fm, upd]
  split
  · rename_i e; subst e; exact h
  · exact Wk.refl _
theorem wpo_cb {α β : Type} {z : Option α} {k : α → Option β} {r : β} (H : z.bind k = some r) (av : α → Nat → AV) {R : α → Nat → St → Prop} {K : (Nat → AV) → St → Prop} {n : Nat} {o : Oper} {rest : List Oper} {l : List (Nat × AV)} {t : Nat} (hd : o.dst = some t) (hn : Nat.ble (t + 1) n = true) (hg : guardOf ops o (fm l) = some true)
    (ho : ∀ x, z = some x → ∃ b τ, OpS P o (fm l) σ (fun a' τ' => a' = av x b ∧ τ' = τ) ∧ R x b τ) (h : ∀ x b τ, z = some x → k x = some r → R x b τ → wpo P n ops K rest (fm ((t, av x b) :: l)) τ) : wpo P n ops K (o :: rest) (fm l) σ := by
  obtain ⟨x, hx, H⟩ := Option.bind_eq_some_iff.1 H
  obtain ⟨b, τ, h1, h2⟩ := ho x hx
  exact wpo_s1 hd hn hg h1 (h x b τ hx H h2)
theorem wpdS_cb {α β : Type} {z : Option α} {k : α → Option β} {r : β} (H : z.bind k = some r) (av : α → Nat → AV) {R : α → Nat → St → Prop} {K : (Nat → AV) → St → Prop} {i : Nat} {o : Oper} {rest : List Oper} {l : List (Nat × AV)} {t : Nat} (hS : S.contains i = true) (hd : o.dst = some t) (hg : guardOf ops o (fm l) = some true)
    (ho : ∀ x, z = some x → ∃ b τ, OpS P o (fm l) σ (fun a' τ' => a' = av x b ∧ τ' = τ) ∧ R x b τ) (h : ∀ x b τ, z = some x → k x = some r → R x b τ → wpdS P ops S K (i + 1) rest (fm ((t, av x b) :: l)) τ) : wpdS P ops S K i (o :: rest) (fm l) σ := by
  obtain ⟨x, hx, H⟩ := Option.bind_eq_some_iff.1 H
  obtain ⟨b, τ, h1, h2⟩ := ho x hx
  exact wpdS_s1 hS hd hg h1 (h x b τ hx H h2)
section
variable {Ty : TypeId → Option TI} {σ0 : St} {O : List (Nat × List AV)} {A : List Nat} {fr : Nat → AV} {d : Option Tmp} {ty : TypeId} {pos : String} {af : Array Edge} {g : Option (Nat × Bool)} {ox oy oi : Operand} {T T' E U : TypeId} {α : Type} {e : α → AV} {sz : Nat}
theorem h_alloc (hT : TyOk P Ty) (hH : Holds σ0 O A σ) {i : TI} (hi : Ty T = some i) (c : List AV) (hc : i.zero.cells = c) : ∃ id τ, OpS P ⟨d, .alloc T, ty, pos, af, g⟩ fr σ (fun a' τ' => a' = (fun id => AV.ref id 0) id ∧ τ' = τ) ∧ (Holds σ0 ((id, c) :: O) A τ ∧ σ0.objs.length ≤ id) :=
  ⟨_, _, o_alloc hT hi, by rw [hc]; exact hH.add c, hH.olen⟩
theorem h_box (hT : TyOk P Ty) (hH : Holds σ0 O A σ) {a b : AV} (hx : aeval fr ox = a) (hw : Wk a b) (hf : b.cells.all flatAV = true) (c : List AV) (hc : b.cells = c) : ∃ id τ, OpS P ⟨d, .box T ox, ty, pos, af, g⟩ fr σ (fun a' τ' => a' = (fun id => AV.ref id 0) id ∧ τ' = τ) ∧ (Holds σ0 ((id, c) :: O) A τ ∧ σ0.objs.length ≤ id) :=
  ⟨_, _, o_box hT hx hw hf, by rw [hc]; exact hH.add c, hH.olen⟩
theorem h_st (hT : TyOk P Ty) (hH : Holds σ0 O A σ) (k : Nat) {i : TI} {id off : Nat} {cs : List AV} {y b : AV} (hk : O[k]? = some (id, cs)) (hi : Ty T = some i) (hne : oy ≠ ox) (hx : aeval fr ox = .ref id off) (hy : aeval fr oy = y) (hw : Wk y b) (hf : b.cells.all flatAV = true) (hl : b.cells.length = i.sz) (hle : off + i.sz ≤ cs.length) (cs' : List AV) (hcs : repl cs off b.cells = cs') (hsp : spcl cs = false := by first | rfl | exact spcl_cL (by assumption) _) :
    ∃ τ, OpS P ⟨d, .store T ox oy, ty, pos, af, g⟩ fr σ (fun a' τ' => a' = .junk ∧ τ' = τ) ∧ Holds σ0 (O.set k (id, cs')) A τ :=
  ⟨_, o_stv hT (hH.at_ k hk) hsp hi hne hx hy hw hf hl hle cs' hcs, hH.put k hk cs'⟩
theorem h_app (hT : TyOk P Ty) (hH : Holds σ0 O A σ) (k : Nat) {i : TI} {tk : Nat} {l m z : List α} (h : app i.bytes l m = some z) (hk : A[k]? = some tk) (hd : tdOf Ty T = .slice E) (hi : Ty E = some i) (hsz : i.sz = sz) (hb : 0 < i.bytes) (hx : aeval fr ox = .sl (.own tk) sz (l.map e)) (hs : SrcOk Ty U sz σ (aeval fr oy) (m.map e)) :
    ∃ t τ, OpS P ⟨d, .call ⟨.builtin .append, #[ox, oy], #[T, U]⟩, ty, pos, af, g⟩ fr σ (fun a' τ' => a' = (fun t => eT t sz e z) t ∧ τ' = τ) ∧ Holds σ0 O (A.set k t) τ :=
  ⟨_, _, o_app hT h hd hi hsz hb hx (hH.open_ k hk) hs, hH.turn k hk⟩
theorem h_app0 (hT : TyOk P Ty) (hH : Holds σ0 O A σ) {i : TI} {l m z : List α} (h : app i.bytes l m = some z) (hd : tdOf Ty T = .slice E) (hi : Ty E = some i) (hsz : i.sz = sz) (hb : 0 < i.bytes) (hx : (aeval fr ox = .nils ∧ l = []) ∨ aeval fr ox = .sl .full sz (l.map e)) (hs : SrcOk Ty U sz σ (aeval fr oy) (m.map e)) :
    ∃ t τ, OpS P ⟨d, .call ⟨.builtin .append, #[ox, oy], #[T, U]⟩, ty, pos, af, g⟩ fr σ (fun a' τ' => a' = (fun t => eT t sz e z) t ∧ τ' = τ) ∧ Holds σ0 O (t :: A) τ :=
  ⟨_, _, o_app0 hT h hd hi hsz hb hx hs, hH.more⟩
theorem h_ld (hT : TyOk P Ty) (hH : Holds σ0 O A σ) (k : Nat) {id off : Nat} {cs : List AV} {a : AV} (hk : O[k]? = some (id, cs)) (h : acut Ty T cs off = some a) (hx : aeval fr ox = .ref id off) (hsp : spcl cs = false := by first | rfl | exact spcl_cL (by assumption) _) : OpS P ⟨d, .load T ox, ty, pos, af, g⟩ fr σ (fun a' τ => a' = a ∧ τ = σ) := o_ldv hT (hH.at_ k hk) hsp h hx
theorem h_ldx (hT : TyOk P Ty) (hH : Holds σ0 O A σ) (k : Nat) {id m : Nat} {l : List α} {i : Int} {y : α} {o : Nat} {a : AV} (h : ixA m l i = some y) (hk : O[k]? = some (id, cL e l)) (he : Enc Ty E sz e) (ha : acut Ty T (e y).cells o = some a) (ho : o + szOf Ty T ≤ sz) (hx : aeval fr ox = .ref id (0 + i.toNat * sz + o)) :
    OpS P ⟨d, .load T ox, ty, pos, af, g⟩ fr σ (fun a' τ => a' = a ∧ τ = σ) := by
  obtain ⟨_, _, h2⟩ := ixA_some h
  refine h_ld hT hH k hk ?_ hx (spcl_cL he l)
  rw [Nat.zero_add]
  exact acut_at he h2 ha (fun _ _ => ho)
theorem h_stx (hT : TyOk P Ty) (hH : Holds σ0 O A σ) (k : Nat) {ti : TI} {id m : Nat} {l c : List α} {i : Int} {f : α → α} {y b : AV} {o : Nat} (h : updA m l i f = some c) (hk : O[k]? = some (id, cL e l)) (he : Enc Ty E sz e) (hi : Ty T = some ti) (hne : oy ≠ ox) (hx : aeval fr ox = .ref id (0 + i.toNat * sz + o)) (hy : aeval fr oy = y) (hw : Wk y b)
    (hf : b.cells.all flatAV = true) (hl : b.cells.length = ti.sz) (hle : o + ti.sz ≤ sz) (hcs : ∀ x, repl (e x).cells o b.cells = (e (f x)).cells) :
    ∃ τ, OpS P ⟨d, .store T ox oy, ty, pos, af, g⟩ fr σ (fun a' τ' => a' = .junk ∧ τ' = τ) ∧ Holds σ0 (O.set k (id, cL e c)) A τ := by
  obtain ⟨x, h2, rfl⟩ := updA_some h
  have hil : i.toNat < l.length := (List.getElem?_eq_some_iff.1 h2).1
  have hlen := cL_length he.len l
  have h3 : i.toNat * sz + sz ≤ l.length * sz := by rw [← Nat.succ_mul]; exact Nat.mul_le_mul_right _ hil
  refine h_st hT hH k hk hi hne hx hy hw hf hl (by omega) (cL e (l.set i.toNat (f x))) ?_ (spcl_cL he l)
  rw [Nat.zero_add]
  exact repl_at he.len h2 (hcs x) (by omega)
def putL (O : List (Nat × List AV)) : List (Nat × (Nat × List AV)) → List (Nat × List AV)
  | [] => O
  | p :: M => putL (O.set p.1 p.2) M
def hasL : List (Nat × List AV) → List (Nat × (Nat × List AV)) → Prop
  | _, [] => True
  | O, p :: M => (∃ c, O[p.1]? = some (p.2.1, c)) ∧ hasL (O.set p.1 p.2) M
theorem Holds.puts : ∀ {M : List (Nat × (Nat × List AV))} {O : List (Nat × List AV)} {σ : St}, Holds σ0 O A σ → hasL O M → Holds σ0 (putL O M) A (σ.puts (M.map (·.2)))
  | [], _, _, h, _ => h
  | p :: M, O, σ, h, hh => by
    obtain ⟨⟨c, hk⟩, h2⟩ := hh
    exact (h.put p.1 hk p.2.2).puts h2
theorem h_call1 (hH : Holds σ0 O A σ) {o : Oper} {f : Operand} {xs : List Operand} {gg : FuncId} {first cap args : List AV} {b : AV} (M : List (Nat × (Nat × List AV))) (hM : hasL O M) (hc : callOf o = some (f, xs)) (hf : aeval fr f = .fn (.func gg) first cap) (hargs : WkL (first ++ xs.map (aeval fr) ++ cap) args)
    (hcall : ACall P gg args σ (fun a τ => a = b ∧ τ = σ.puts (M.map (·.2)))) : ∃ (_ : Nat) (τ : St), OpS P o fr σ (fun a' τ' => a' = b ∧ τ' = τ) ∧ Holds σ0 (putL O M) A τ :=
  ⟨0, _, OpS.of_call hc hf hargs hcall, hH.puts hM⟩
theorem h_callr {o : Oper} {f : Operand} {xs : List Operand} {gg : FuncId} {first cap args : List AV} {b : AV} (hc : callOf o = some (f, xs)) (hf : aeval fr f = .fn (.func gg) first cap) (hargs : WkL (first ++ xs.map (aeval fr) ++ cap) args)
    (hcall : ACall P gg args σ (fun a τ => a = b ∧ τ = σ)) : OpS P o fr σ (fun a' τ => a' = b ∧ τ = σ) := OpS.of_call hc hf hargs hcall
theorem h_calla (hH : Holds σ0 O A σ) {o : Oper} {f : Operand} {xs : List Operand} {gg : FuncId} {first cap args : List AV} {es : List AV} (hc : callOf o = some (f, xs)) (hf : aeval fr f = .fn (.func gg) first cap) (hargs : WkL (first ++ xs.map (aeval fr) ++ cap) args)
    (hcall : ACall P gg args σ (fun a τ => a = .sl (.own σ.opn.length) sz es ∧ τ = σ.more)) : ∃ t τ, OpS P o fr σ (fun a' τ' => a' = .sl (.own t) sz es ∧ τ' = τ) ∧ Holds σ0 O (t :: A) τ :=
  ⟨_, _, OpS.of_call hc hf hargs hcall, hH.more⟩
end
theorem ares_1 {Ty : TypeId → Option TI} {fr : Nat → AV} {r : ResultVar} {a : AV} (h : aresOne Ty fr σ r = some a) : ares Ty fr σ [r] = some a := by simp only [ares, aresL, h]
theorem ares_2 {Ty : TypeId → Option TI} {fr : Nat → AV} {r s : ResultVar} {a b : AV} (h : aresOne Ty fr σ r = some a) (h2 : aresOne Ty fr σ s = some b) : ares Ty fr σ [r, s] = some (.tup [a, b]) := by simp only [ares, aresL, h, h2]
theorem ares_3 {Ty : TypeId → Option TI} {fr : Nat → AV} {r s t : ResultVar} {a b c : AV} (h : aresOne Ty fr σ r = some a) (h2 : aresOne Ty fr σ s = some b) (h3 : aresOne Ty fr σ t = some c) : ares Ty fr σ [r, s, t] = some (.tup [a, b, c]) := by simp only [ares, aresL, h, h2, h3]
theorem ares_cell {Ty : TypeId → Option TI} {σ0 : St} {O : List (Nat × List AV)} {A : List Nat} (hH : Holds σ0 O A σ) (k : Nat) {fr : Nat → AV} {t T id off : Nat} {cs : List AV} {a : AV} (hx : fr t = .ref id off) (hk : O[k]? = some (id, cs)) (h : acut Ty T cs off = some a) (hsp : spcl cs = false := by first | rfl | exact spcl_cL (by assumption) _) : aresOne Ty fr σ (.cell t T) = some a := by
  simp only [aresOne, aload, hx, acells, row_eq (hH.at_ k hk) hsp, h]
end
theorem Holds.sub {σ0 σ : St} {O : List (Nat × List AV)} {A A' : List Nat} (h : Holds σ0 O A σ) (hs : A'.Sublist A) : Holds σ0 O A' σ :=
  ⟨h.base, h.opn, h.olen, h.tlen, h.obj, h.dist, fun u hu => h.tok u (hs.subset hu), h.tdist.sublist hs, h.gl⟩
theorem Holds.one {σ : St} {id : Nat} {c : List AV} (h : σ.objs[id]? = some c) : Holds σ [(id, c)] [] σ := (Holds.init σ).bring h (fun _ h => by cases h)
section
variable (P : Program)
def wpdR (F : St → Prop) (m0 : Nat) (ops : Array Oper) (S : List Nat) (K : (Nat → AV) → St → Prop) : Nat → List Oper → (Nat → AV) → St → Prop
  | _, [], fr, σ => K fr σ
  | i, o :: rest, fr, σ => if S.contains i = true then ∃ a σ', AStep P ops o fr σ a σ' ∧ (cnt S i + 1 ≤ m0 → F σ') ∧ wpdR F m0 ops S K (i + 1) rest (putO fr o.dst a) σ'
    else ∃ a, ((∀ τ, AStep P ops o fr τ a τ) ∨ ((win ops S i).all (fun j => Nat.ble j m0) = true ∧ ∀ τ, F τ → AStep P ops o fr τ a τ) ∨ ((win ops S i).all (· == cnt S i) = true ∧ AStep P ops o fr σ a σ)) ∧ wpdR F m0 ops S K (i + 1) rest (putO fr o.dst a) σ
end
section
variable {P : Program} {w0 : World} {n : Nat} {σ : St} {ops : Array Oper} {S : List Nat} {F : St → Prop} {m0 : Nat}
theorem wpdR_steps {K : (Nat → AV) → St → Prop} (fr0 : Nat → AV) (hs : srt S ops.size = true) (hl : cnt S ops.size = S.length) : ∀ (m i : Nat) (aas : Nat → AV) (σs : Nat → St), i + m = ops.size → (∀ j, j ≤ cnt S i → j ≤ m0 → F (σs j)) → wpdR P F m0 ops S K i (ops.toList.drop i) (frT ops fr0 aas i) (σs (cnt S i)) →
    ∃ (aas' : Nat → AV) (σs' : Nat → St), (∀ k, k < i → aas' k = aas k) ∧ (∀ j, j ≤ cnt S i → σs' j = σs j) ∧ (∀ j, j ≤ cnt S ops.size → j ≤ m0 → F (σs' j)) ∧ K (frT ops fr0 aas' ops.size) (σs' (cnt S ops.size)) ∧
      ∀ (k : Nat) (o : Oper), i ≤ k → ops[k]? = some o → (S.contains k = true → AStep P ops o (frT ops fr0 aas' k) (σs' (cnt S k)) (aas' k) (σs' (cnt S k + 1))) ∧
        (S.contains k = false → ∀ j ∈ win ops S k, AStep P ops o (frT ops fr0 aas' k) (σs' j) (aas' k) (σs' j))
  | 0, i, aas, σs, hi, hF, h => by
    rw [List.drop_of_length_le (by simp; omega)] at h
    have : i = ops.size := by omega
    subst this
    exact ⟨aas, σs, fun _ _ => rfl, fun _ _ => rfl, hF, h, fun k o hk ho => by have := (Array.getElem?_eq_some_iff.1 ho).1; omega⟩
  | m + 1, i, aas, σs, hi, hF, h => by
    have hlt : i < ops.size := by omega
    have hc : cnt S (i + 1) = if S.contains i then cnt S i + 1 else cnt S i := by
      have h2 := hs
      simp only [srt, Bool.and_eq_true, List.all_eq_true] at h2
      simpa using h2.2 i (by simpa using hlt)
    rw [List.drop_eq_getElem_cons (by simpa using hlt)] at h
    simp only [Array.getElem_toList] at h
    have hd : dstAt ops i = ops[i].dst := by simp [dstAt, Array.getElem?_eq_getElem hlt]
    have e1 (x : AV) : frT ops fr0 (fun k => if k = i then x else aas k) i = frT ops fr0 aas i := frT_congr fr0 i (fun k hk => by rw [if_neg (by omega)])
    have e2 (x : AV) : frT ops fr0 (fun k => if k = i then x else aas k) (i + 1) = putO (frT ops fr0 aas i) ops[i].dst x := by
      simp only [frT]
      rw [e1, hd]
      simp
    simp only [wpdR] at h
    split at h
    · rename_i hin
      obtain ⟨x, σ', h1, hFs, h2⟩ := h
      rw [if_pos hin] at hc
      rw [← e2] at h2
      obtain ⟨f, hf1, hf2⟩ : ∃ f : Nat → St, (∀ j, j ≤ cnt S i → f j = σs j) ∧ f (cnt S i + 1) = σ' := ⟨fun j => if j = cnt S i + 1 then σ' else σs j, fun j hj => if_neg (by omega), if_pos rfl⟩
      obtain ⟨aas', σs', k1, k2, kF, k3, k4⟩ := wpdR_steps (K := K) fr0 hs hl m (i + 1) (fun k => if k = i then x else aas k) f (by omega) (fun j hj hm => by
        by_cases e : j = cnt S i + 1
        · rw [e, hf2]; exact hFs (by omega)
        · rw [hf1 j (by omega)]; exact hF j (by omega) hm) (by rw [hc, hf2]; exact h2)
      have hk : ∀ k, k < i → aas' k = aas k := fun k hk => by rw [k1 k (by omega), if_neg (by omega)]
      have hj : ∀ j, j ≤ cnt S i → σs' j = σs j := fun j hj => by rw [k2 j (by omega), hf1 j hj]
      refine ⟨aas', σs', hk, hj, kF, k3, fun k o hik ho => ?_⟩
      by_cases hki : k = i
      · subst hki
        rw [Array.getElem?_eq_getElem hlt] at ho
        cases ho
        have ha : aas' k = x := by rw [k1 k (by omega)]; simp
        refine ⟨fun _ => ?_, fun hno => by rw [hin] at hno; cases hno⟩
        rw [ha, frT_congr fr0 k hk, hj _ (Nat.le_refl _), k2 (cnt S k + 1) (by omega), hf2]
        exact h1
      · exact k4 k o (by omega) ho
    · rename_i hin
      obtain ⟨x, h1, h2⟩ := h
      rw [if_neg hin] at hc
      rw [← e2] at h2
      obtain ⟨aas', σs', k1, k2, kF, k3, k4⟩ := wpdR_steps fr0 hs hl m (i + 1) _ σs (by omega) (fun j hj hm => hF j (by omega) hm) (by rw [hc]; exact h2)
      have hk : ∀ k, k < i → aas' k = aas k := fun k hk => by rw [k1 k (by omega), if_neg (by omega)]
      have hj : ∀ j, j ≤ cnt S i → σs' j = σs j := fun j hj => k2 j (by omega)
      refine ⟨aas', σs', hk, hj, kF, k3, fun k o hik ho => ?_⟩
      by_cases hki : k = i
      · subst hki
        rw [Array.getElem?_eq_getElem hlt] at ho
        cases ho
        have ha : aas' k = x := by rw [k1 k (by omega)]; simp
        refine ⟨fun hyes => absurd hyes hin, fun _ j hjw => ?_⟩
        rw [ha, frT_congr fr0 k hk]
        rcases h1 with h1 | ⟨hw, h1⟩ | ⟨hw, h1⟩
        · exact h1 _
        · rw [List.all_eq_true] at hw
          have hjm := Nat.le_of_ble_eq_true (hw j hjw)
          refine h1 _ (kF j ?_ hjm)
          unfold win at hjw
          have := List.mem_range.1 (List.mem_filter.1 hjw).1
          omega
        · rw [List.all_eq_true] at hw
          have : j = cnt S k := by simpa using hw j hjw
          rw [this, hj _ (Nat.le_refl _)]
          exact h1
      · exact k4 k o (by omega) ho
theorem awp_drawR (hm : P.follows .mixedOrders = true) {id : Nat} {Q : AExit → (Nat → AV) → St → Prop} {fr : Nat → AV} (S : List Nat) (hd : allDst n ops = true) (hchk : drawChk ops S = true) (hs : srt S ops.size = true) (hl : cnt S ops.size = S.length) (F : St → Prop) (m0 : Nat) (hF : F σ) (h : wpdR P F m0 ops S (Q .normal) 0 ops.toList fr σ) : AWP P n (.region id ops true) Q fr σ := by
  have hc0 : cnt S 0 = 0 := by simp [cnt, Nat.blt]
  obtain ⟨aas, σs, _, h2, _, h3, h4⟩ := wpdR_steps (P := P) (ops := ops) (S := S) (K := Q .normal) (F := F) (m0 := m0) fr hs hl ops.size 0 (fun _ => .junk) (fun _ => σ) (by omega) (fun _ _ _ => hF) (by simpa [frT] using h)
  refine awp_draw (P := P) hm hd hchk aas σs (fun i j o ho hj => ?_) (fun i o ho hi j hj => ?_) (by rw [← hl]; exact h3) (h2 0 (by omega))
  · have hi : S.contains i = true := by simpa using List.mem_of_getElem? hj
    have hcj : cnt S i = j := by
      have h2 := hs
      simp only [srt, Bool.and_eq_true, List.all_eq_true] at h2
      have hjl := (List.getElem?_eq_some_iff.1 hj).1
      have := h2.1 j (by simpa using hjl)
      rw [List.getD_eq_getElem?_getD, hj] at this
      simpa using this
    have := (h4 i o (Nat.zero_le _) ho).1 hi
    rw [hcj] at this
    exact this
  · exact (h4 i o (Nat.zero_le _) ho).2 (by simpa using hi) j hj
theorem wpdR_nil {K : (Nat → AV) → St → Prop} {i : Nat} {fr : Nat → AV} (h : K fr σ) : wpdR P F m0 ops S K i [] fr σ := h
theorem wpdR_p {K : (Nat → AV) → St → Prop} {i : Nat} {o : Oper} {rest : List Oper} {l : List (Nat × AV)} {a : AV} {t : Tmp} (hS : S.contains i = false) (hd : o.dst = some t) (hg : guardOf ops o (fm l) = some true) (ho : OpP P o (fm l) a) (h : wpdR P F m0 ops S K (i + 1) rest (fm ((t, a) :: l)) σ) : wpdR P F m0 ops S K i (o :: rest) (fm l) σ := by
  simp only [wpdR]
  rw [if_neg (by rw [hS]; simp)]
  refine ⟨a, .inl fun τ => ?_, by rw [hd]; exact h⟩
  simp only [AStep, hg]
  exact ho τ
theorem wpdR_lt {α β : Type} {z : α} {k : α → Option β} {r : β} (H : lt z k = some r) (enc : α → AV) {K : (Nat → AV) → St → Prop} {i : Nat} {o : Oper} {rest : List Oper} {l : List (Nat × AV)} {t : Nat} (hS : S.contains i = false) (hd : o.dst = some t) (hg : guardOf ops o (fm l) = some true)
    (ho : OpP P o (fm l) (enc z)) (h : ∀ x, k x = some r → wpdR P F m0 ops S K (i + 1) rest (fm ((t, enc x) :: l)) σ) : wpdR P F m0 ops S K i (o :: rest) (fm l) σ := wpdR_p hS hd hg ho (h z H)
theorem wpdR_bd {α β : Type} {z : Option α} {k : α → Option β} {r : β} (H : z.bind k = some r) (enc : α → AV) {K : (Nat → AV) → St → Prop} {i : Nat} {o : Oper} {rest : List Oper} {l : List (Nat × AV)} {t : Nat} (hS : S.contains i = false) (hd : o.dst = some t) (hg : guardOf ops o (fm l) = some true)
    (ho : ∀ x, z = some x → OpP P o (fm l) (enc x)) (h : ∀ x, z = some x → k x = some r → wpdR P F m0 ops S K (i + 1) rest (fm ((t, enc x) :: l)) σ) : wpdR P F m0 ops S K i (o :: rest) (fm l) σ := by
  obtain ⟨x, hx, H⟩ := Option.bind_eq_some_iff.1 H
  exact wpdR_p hS hd hg (ho x hx) (h x hx H)
theorem wpdR_mv {a : AV} {K : (Nat → AV) → St → Prop} {i : Nat} {o : Oper} {rest : List Oper} {l : List (Nat × AV)} {t : Nat} (hS : S.contains i = false) (hd : o.dst = some t) (hg : guardOf ops o (fm l) = some true)
    (ho : OpP P o (fm l) a) (h : wpdR P F m0 ops S K (i + 1) rest (fm ((t, a) :: l)) σ) : wpdR P F m0 ops S K i (o :: rest) (fm l) σ := wpdR_p hS hd hg ho h
theorem wpdR_rd {a : AV} {K : (Nat → AV) → St → Prop} {i : Nat} {o : Oper} {rest : List Oper} {l : List (Nat × AV)} {t : Tmp} (hS : S.contains i = false) (hw : (win ops S i).all (· == cnt S i) = true) (hd : o.dst = some t) (hg : guardOf ops o (fm l) = some true) (ho : OpS P o (fm l) σ (fun a' τ => a' = a ∧ τ = σ)) (h : wpdR P F m0 ops S K (i + 1) rest (fm ((t, a) :: l)) σ) : wpdR P F m0 ops S K i (o :: rest) (fm l) σ := by
  simp only [wpdR]
  rw [if_neg (by rw [hS]; simp)]
  refine ⟨a, .inr (.inr ⟨hw, ?_⟩), by rw [hd]; exact h⟩
  simp only [AStep, hg]
  exact ho
theorem wpdR_rdp {a : AV} {K : (Nat → AV) → St → Prop} {i : Nat} {o : Oper} {rest : List Oper} {l : List (Nat × AV)} {t : Tmp} (hS : S.contains i = false) (hw : (win ops S i).all (fun j => Nat.ble j m0) = true) (hd : o.dst = some t) (hg : guardOf ops o (fm l) = some true) (ho : ∀ σ, F σ → OpS P o (fm l) σ (fun a' τ => a' = a ∧ τ = σ)) (h : wpdR P F m0 ops S K (i + 1) rest (fm ((t, a) :: l)) σ) : wpdR P F m0 ops S K i (o :: rest) (fm l) σ := by
  simp only [wpdR]
  rw [if_neg (by rw [hS]; simp)]
  refine ⟨a, .inr (.inl ⟨hw, fun τ hτ => ?_⟩), by rw [hd]; exact h⟩
  simp only [AStep, hg]
  exact ho τ hτ
theorem wpdR_s1 {a : AV} {τ : St} {K : (Nat → AV) → St → Prop} {i : Nat} {o : Oper} {rest : List Oper} {l : List (Nat × AV)} {t : Tmp} (hS : S.contains i = true) (hd : o.dst = some t) (hg : guardOf ops o (fm l) = some true) (ho : OpS P o (fm l) σ (fun a' τ' => a' = a ∧ τ' = τ)) (h : (cnt S i + 1 ≤ m0 → F τ) ∧ wpdR P F m0 ops S K (i + 1) rest (fm ((t, a) :: l)) τ) : wpdR P F m0 ops S K i (o :: rest) (fm l) σ := by
  simp only [wpdR]
  rw [if_pos hS]
  refine ⟨a, τ, ?_, h.1, by rw [hd]; exact h.2⟩
  simp only [AStep, hg]
  exact ho
theorem wpdR_s0 {a : AV} {τ : St} {K : (Nat → AV) → St → Prop} {i : Nat} {o : Oper} {rest : List Oper} {l : List (Nat × AV)} (hS : S.contains i = true) (hd : o.dst = none) (hg : guardOf ops o (fm l) = some true) (ho : OpS P o (fm l) σ (fun a' τ' => a' = a ∧ τ' = τ)) (h : (cnt S i + 1 ≤ m0 → F τ) ∧ wpdR P F m0 ops S K (i + 1) rest (fm l) τ) : wpdR P F m0 ops S K i (o :: rest) (fm l) σ := by
  simp only [wpdR]
  rw [if_pos hS]
  refine ⟨a, τ, ?_, h.1, by rw [hd]; exact h.2⟩
  simp only [AStep, hg]
  exact ho
theorem wpdR_z {R : St → Prop} {K : (Nat → AV) → St → Prop} {i : Nat} {o : Oper} {rest : List Oper} {l : List (Nat × AV)} (hS : S.contains i = true) (hd : o.dst = none) (hg : guardOf ops o (fm l) = some true)
    (ho : ∃ τ, OpS P o (fm l) σ (fun a' τ' => a' = .junk ∧ τ' = τ) ∧ R τ) (h : ∀ τ, R τ → (cnt S i + 1 ≤ m0 → F τ) ∧ wpdR P F m0 ops S K (i + 1) rest (fm l) τ) : wpdR P F m0 ops S K i (o :: rest) (fm l) σ := by
  obtain ⟨τ, h1, h2⟩ := ho
  exact wpdR_s0 hS hd hg h1 (h τ h2)
theorem wpdR_cb {α β : Type} {z : Option α} {k : α → Option β} {r : β} (H : z.bind k = some r) (av : α → Nat → AV) {R : α → Nat → St → Prop} {K : (Nat → AV) → St → Prop} {i : Nat} {o : Oper} {rest : List Oper} {l : List (Nat × AV)} {t : Nat} (hS : S.contains i = true) (hd : o.dst = some t) (hg : guardOf ops o (fm l) = some true)
    (ho : ∀ x, z = some x → ∃ b τ, OpS P o (fm l) σ (fun a' τ' => a' = av x b ∧ τ' = τ) ∧ R x b τ) (h : ∀ x b τ, z = some x → k x = some r → R x b τ → (cnt S i + 1 ≤ m0 → F τ) ∧ wpdR P F m0 ops S K (i + 1) rest (fm ((t, av x b) :: l)) τ) : wpdR P F m0 ops S K i (o :: rest) (fm l) σ := by
  obtain ⟨x, hx, H⟩ := Option.bind_eq_some_iff.1 H
  obtain ⟨b, τ, h1, h2⟩ := ho x hx
  exact wpdR_s1 hS hd hg h1 (h x b τ hx H h2)
end
section
variable {P : Program} {Ty : TypeId → Option TI} {fr : Nat → AV} {d : Option Tmp} {ty : TypeId} {pos : String} {af : Array Edge} {g : Option (Nat × Bool)} {ox oy : Operand} {ts : Array TypeId}
theorem o_max (hT : TyOk P Ty) {k : IntKind} {x y : Int} (hx : aeval fr ox = .int k x) (hy : aeval fr oy = .int k y) : OpP P ⟨d, .call ⟨.builtin .max, #[ox, oy], ts⟩, ty, pos, af, g⟩ fr (.int k (if y > x then y else x)) :=
  OpP.of_aop' hT (mu := false) rfl (fun τ => by simp only [aop, hx, hy, amm]; rfl)
theorem o_min (hT : TyOk P Ty) {k : IntKind} {x y : Int} (hx : aeval fr ox = .int k x) (hy : aeval fr oy = .int k y) : OpP P ⟨d, .call ⟨.builtin .min, #[ox, oy], ts⟩, ty, pos, af, g⟩ fr (.int k (if y < x then y else x)) :=
  OpP.of_aop' hT (mu := false) rfl (fun τ => by simp only [aop, hx, hy, amm]; rfl)
end
section
variable {P : Program} {σ : St} {Ty : TypeId → Option TI} {σ0 : St} {O : List (Nat × List AV)} {A' : List Nat} {fr : Nat → AV} {d : Option Tmp} {ty : TypeId} {pos : String} {af : Array Edge} {g : Option (Nat × Bool)} {ox oy oi : Operand} {T T' E U : TypeId} {α : Type} {e : α → AV} {sz : Nat}
def updV {α : Type} {n : Nat} (v : Vector α n) (i : Int) (f : α → α) : Option (Vector α n) := if h : 0 ≤ i ∧ i.toNat < n then some (v.set i.toNat (f v[i.toNat])) else none
theorem updV_some {α : Type} {n : Nat} {v v' : Vector α n} {i : Int} {f : α → α} (h : updV v i f = some v') : ∃ x, v.toList[i.toNat]? = some x ∧ v'.toList = v.toList.set i.toNat (f x) := by
  unfold updV at h
  split at h
  · rename_i hi
    cases h
    exact ⟨v[i.toNat], by simp [hi.2], by first | rfl | simp⟩
  · cases h
theorem acut_r {A B : List AV} {L o : Nat} {a : AV} (hL : A.length = L) (h : acut Ty T B o = some a) : acut Ty T (A ++ B) (L + o) = some a := by
  subst hL
  unfold acut at h ⊢
  cases hi : Ty T with
  | none => rw [hi] at h; cases h
  | some ti =>
    rw [hi] at h
    simp only at h ⊢
    split
    · rename_i ha
      rw [if_pos ha] at h
      split at h
      · rename_i hle
        rw [if_pos (by simp; omega), ← h, List.drop_length_add_append]
      · cases h
    · rename_i ha
      rw [if_neg ha] at h
      rw [List.getElem?_append_right (by omega), Nat.add_sub_cancel_left]; exact h
theorem acut_l {A B : List AV} {o : Nat} {a : AV} (hle : o + szOf Ty T ≤ A.length) (h : acut Ty T A o = some a) : acut Ty T (A ++ B) o = some a := by
  unfold acut at h ⊢
  cases hi : Ty T with
  | none => rw [hi] at h; cases h
  | some ti =>
    rw [hi] at h
    have hz : szOf Ty T = ti.sz := by simp [szOf, hi]
    simp only at h ⊢
    split
    · rename_i ha
      rw [if_pos ha] at h
      split at h
      · rename_i hle
        rw [if_pos (by simp; omega), ← h, List.drop_append_of_le_length (by omega), List.take_append_of_le_length (by simp; omega)]
      · cases h
    · rename_i ha
      rw [if_neg ha] at h
      rw [List.getElem?_append_left (List.getElem?_eq_some_iff.1 h).1]; exact h
theorem repl_r {A B new : List AV} {L o : Nat} (hL : A.length = L) : repl (A ++ B) (L + o) new = A ++ repl B o new := by
  subst hL
  simp only [repl, List.take_length_add_append, List.append_assoc]
  rw [show A.length + o + new.length = A.length + (o + new.length) by omega, List.drop_length_add_append]
theorem repl_l {A B new : List AV} {o : Nat} (h : o + new.length ≤ A.length) : repl (A ++ B) o new = repl A o new ++ B := by
  simp only [repl, List.append_assoc]
  rw [List.take_append_of_le_length (by omega), List.drop_append_of_le_length (by omega)]
theorem o_arrb (hT : TyOk P Ty) {m id off : Nat} {kk : IntKind} {i : Int} {u : Unit} (h : chk m i = some u) (hd : tdOf Ty T = .arr m E) (hz : szOf Ty E = sz) (hs : sz ≠ 0) (hx : aeval fr ox = .ref id off) (hi : aeval fr oi = .int kk i) : OpP P ⟨d, .indexAddr T ox oi, ty, pos, af, g⟩ fr (.ref id (off + i.toNat * sz + 0)) := o_arrv hT (chk_some h).1 (chk_some h).2 hd hz hs hx hi
theorem h_ldb (hT : TyOk P Ty) (hH : Holds σ0 O A' σ) (k : Nat) {id m base : Nat} {A B c : List AV} {l : List α} {i : Int} {y : α} {o : Nat} {a : AV} (h : ixA m l i = some y) (hk : O[k]? = some (id, c)) (hc : c = A ++ (cL e l ++ B)) (hA : A.length = base) (he : Enc Ty E sz e) (ha : acut Ty T (e y).cells o = some a) (ho : o + szOf Ty T ≤ sz) (hx : aeval fr ox = .ref id (base + i.toNat * sz + o)) :
    OpS P ⟨d, .load T ox, ty, pos, af, g⟩ fr σ (fun a' τ => a' = a ∧ τ = σ) := by
  obtain ⟨_, _, h2⟩ := ixA_some h
  have hil : i.toNat < l.length := (List.getElem?_eq_some_iff.1 h2).1
  have h3 : i.toNat * sz + sz ≤ l.length * sz := by rw [← Nat.succ_mul]; exact Nat.mul_le_mul_right _ hil
  refine h_ld hT hH k hk ?_ hx (by rw [hc]; exact spcl_mid he (by omega))
  rw [hc, Nat.add_assoc]
  exact acut_r hA (acut_l (by rw [cL_length he.len]; omega) (acut_at he h2 ha (fun _ _ => ho)))
theorem h_stb (hT : TyOk P Ty) (hH : Holds σ0 O A' σ) (k : Nat) {ti : TI} {id n base : Nat} {A B c c' : List AV} {v v' : Vector α n} {i : Int} {f : α → α} {y b : AV} {o : Nat} (h : updV v i f = some v') (hk : O[k]? = some (id, c)) (hc : c = A ++ (cL e v.toList ++ B)) (hc' : c' = A ++ (cL e v'.toList ++ B)) (hA : A.length = base) (he : Enc Ty E sz e) (hi : Ty T = some ti) (hne : oy ≠ ox) (hx : aeval fr ox = .ref id (base + i.toNat * sz + o)) (hy : aeval fr oy = y) (hw : Wk y b)
    (hf : b.cells.all flatAV = true) (hl : b.cells.length = ti.sz) (hle : o + ti.sz ≤ sz) (hcs : ∀ x, repl (e x).cells o b.cells = (e (f x)).cells) :
    ∃ τ, OpS P ⟨d, .store T ox oy, ty, pos, af, g⟩ fr σ (fun a' τ' => a' = .junk ∧ τ' = τ) ∧ Holds σ0 (O.set k (id, c')) A' τ := by
  obtain ⟨x, h2, h3⟩ := updV_some h
  have hil : i.toNat < v.toList.length := (List.getElem?_eq_some_iff.1 h2).1
  have hlen := cL_length he.len v.toList
  have h4 : i.toNat * sz + sz ≤ v.toList.length * sz := by rw [← Nat.succ_mul]; exact Nat.mul_le_mul_right _ hil
  refine h_st hT hH k hk hi hne hx hy hw hf hl (by rw [hc]; simp only [List.length_append]; omega) c' ?_ (by rw [hc]; exact spcl_mid he (by omega))
  rw [hc, hc', Nat.add_assoc, repl_r hA, repl_l (by omega), h3]
  rw [repl_at he.len h2 (hcs x) (by omega)]
end
def NewO {α : Type} (cS : α → List AV) (rest : List AV) (σ : St) : Option α → AV → St → Prop
  | none, a, τ => a = .tup (.nilp :: rest) ∧ τ = σ
  | some c, a, τ => a = .tup (.ref σ.objs.length 0 :: rest) ∧ τ = ⟨σ.objs ++ [cS c], σ.opn, σ.gl⟩
def NewE {α : Type} (cS : α → List AV) (rest : List AV) (σ : St) : Option α → AV → St → Prop
  | none, a, τ => a = .tup (.nilp :: rest) ∧ Holds σ [] [] τ
  | some c, a, τ => ∃ id, a = .tup (.ref id 0 :: rest) ∧ σ.objs.length ≤ id ∧ Holds σ [(id, cS c)] [] τ
theorem NewE.some {α : Type} {cS : α → List AV} {rest : List AV} {σ τ : St} {c : α} {id : Nat} (h1 : σ.objs.length ≤ id) (h2 : Holds σ [(id, cS c)] [] τ) : NewE cS rest σ (some c) (.tup (.ref id 0 :: rest)) τ := ⟨id, rfl, h1, h2⟩
theorem NewE.none {α : Type} {cS : α → List AV} {rest : List AV} {σ τ : St} (h : Holds σ [] [] τ) : NewE cS rest σ none (.tup (.nilp :: rest)) τ := ⟨rfl, h⟩
section
variable {P : Program} {σ : St}
theorem ACall.newo {g : FuncId} {args : List AV} {α : Type} {cS : α → List AV} {rest : List AV} {o : Option α} (hr : ∀ ρ κ, cutL ρ κ rest = rest) (hc : ∀ c ρ κ, cutL ρ κ (cS c) = cS c) (h : ACall P g args σ (fun a τ => NewE cS rest σ o a τ)) : ACall P g args σ (fun a τ => NewO cS rest σ o a τ) := by
  cases o with
  | none => exact ACall.pure (b := .tup (.nilp :: rest)) (h.mono fun a τ ⟨h1, h2⟩ => ⟨by subst h1; simp only [cutAV, cutL, hr]; exact Wk.refl _, h2⟩)
  | some c =>
    refine h.ren fun a σ' ⟨id, ha, hid, hH⟩ => ?_
    subst ha
    refine ⟨⟨σ.objs ++ [cS c], σ.opn, σ.gl⟩, .tup (.ref σ.objs.length 0 :: rest), fun i => if i = id then some σ.objs.length else idl σ.objs.length i, idl σ.opn.length, ⟨fun i i' j h1 h2 => ?_, idl_inj _, fun i hi => ?_, fun i hi => by simp [idl, hi], fun i j h => ?_, fun t u h => (idl_lt h).2, Nat.le_refl _, rfl, fun j d hj => ?_, fun t u h hu => ?_⟩, ?_, rfl, rfl⟩
    · try simp only at h1 h2
      split at h1 <;> split at h2
      · rename_i e1 e2; rw [e1, e2]
      · have := (idl_lt h2).2; cases h1; omega
      · have := (idl_lt h1).2; cases h2; omega
      · exact idl_inj _ _ _ _ h1 h2
    · try simp only
      rw [if_neg (by omega)]
      simp [idl, hi]
    · try simp only at h
      split at h
      · cases h; simp
      · have := (idl_lt h).2; simp; omega
    · by_cases hlt : j < σ.objs.length
      · simp only at hj
        rw [List.getElem?_append_left hlt] at hj
        refine ⟨j, d, by rw [if_neg (by omega)]; simp [idl, hlt], hH.base j d hj (fun p hp => ?_), .inl ⟨hj, rfl⟩⟩
        simp at hp
        subst hp
        simp only
        omega
      · have hj2 := (List.getElem?_eq_some_iff.1 hj).1
        simp at hj2
        have : j = σ.objs.length := by omega
        subst this
        simp at hj
        subst hj
        exact ⟨id, cS c, by simp, hH.obj (id, cS c) (by simp), .inr (hc c _ _).symm⟩
    · obtain ⟨rfl, _⟩ := idl_lt h
      exact hH.opn t hu
    · simp only [cutAV, cutL, hr, if_true]
      exact Wk.refl _

end
section
variable {P : Program} {σ σ0 : St} {O : List (Nat × List AV)} {A' : List Nat} {fr : Nat → AV}
theorem h_callno0 (hH : Holds σ0 O A' σ) {α : Type} {cS : α → List AV} {rest : List AV} {z : Option α} (hz : z = none) {o : Oper} {f : Operand} {xs : List Operand} {gg : FuncId} {first cap args : List AV} (hc : callOf o = some (f, xs)) (hf : aeval fr f = .fn (.func gg) first cap) (hargs : WkL (first ++ xs.map (aeval fr) ++ cap) args)
    (hcall : ACall P gg args σ (fun a τ => NewO cS rest σ z a τ)) : ∃ (_ : Nat) (τ : St), OpS P o fr σ (fun a' τ' => a' = .tup (.nilp :: rest) ∧ τ' = τ) ∧ Holds σ0 O A' τ := by
  subst hz; exact ⟨0, σ, OpS.of_call hc hf hargs hcall, hH⟩
theorem h_callno1 (hH : Holds σ0 O A' σ) {α : Type} {cS : α → List AV} {rest : List AV} {z : Option α} {c : α} (hz : z = some c) {o : Oper} {f : Operand} {xs : List Operand} {gg : FuncId} {first cap args : List AV} (hc : callOf o = some (f, xs)) (hf : aeval fr f = .fn (.func gg) first cap) (hargs : WkL (first ++ xs.map (aeval fr) ++ cap) args)
    (hcall : ACall P gg args σ (fun a τ => NewO cS rest σ z a τ)) : ∃ (id : Nat) (τ : St), OpS P o fr σ (fun a' τ' => a' = .tup (.ref id 0 :: rest) ∧ τ' = τ) ∧ (Holds σ0 ((id, cS c) :: O) A' τ ∧ σ0.objs.length ≤ id) := by
  subst hz; exact ⟨_, _, OpS.of_call hc hf hargs hcall, hH.add _, hH.olen⟩
end
section
variable {P : Program} {Ty : TypeId → Option TI} {w0 : World} {G : Ghost} {w : World} {σ : St}
theorem setCells_setRow (b off : Nat) (T : TypeId) (news : List Value) (vs : Array Value) (w : World) (h : w.heap[b]? = some (.cells vs T (0, 0))) (hl : off + news.length ≤ vs.size) (h1 : ∀ v ∈ news, v.oneCell' = true) :
    w.setCells b off news = w.setRow b (vs.toList.take off ++ news ++ vs.toList.drop (off + news.length)).toArray := by
  have e1 := run_storeCells_at default b off T news 0 vs w h (by omega) h1
  have e2 := run_storeCells_cells (P := default) b off news 0 w (fun j hj => by rw [cell_of_row _ _ _ vs T (0, 0) h, Array.getElem?_eq_getElem (by omega)]; rfl) (fun j hj => frozen_of_row _ _ _ vs T h) h1
  rw [e1] at e2
  simp only [Nat.add_zero] at e2
  injection e2 with _ e2
  exact e2.symm
theorem Inv.write (h : Inv w0 G w σ) {id b off : Nat} {cells nc : List AV} {news : List Value} (hc : σ.objs[id]? = some cells) (hl : G.loc id = some b) (hne : cells ≠ []) (hsp : spcl cells = false) (hN : RelL G news nc) (h1 : ∀ v ∈ news, v.oneCell' = true) (h0 : off ≤ cells.length) (hfit : off + news.length ≤ G.bsz id) :
    Inv w0 G (w.setCells b off news) ⟨σ.objs.set id (cells.take off ++ nc ++ cells.drop (off + nc.length)), σ.opn, σ.gl⟩ := by
  obtain ⟨b', T, vs, k1, k2, k3, k4, k5, k6⟩ := h.loc _ _ hc hne hsp
  rw [hl] at k1
  injection k1 with k1
  subst k1
  have hcv := k4.le
  rw [setCells_setRow b off T news vs w k3 (by omega) h1]
  have hnl := hN.len
  refine h.set_loc hc hne hl k2 k3 ⟨?_, ?_⟩ (fun v hv => ?_) ?_
  · simp; omega
  · have e : (vs.toList.take off ++ news ++ vs.toList.drop (off + news.length)).toArray.toList.take (cells.take off ++ nc ++ cells.drop (off + nc.length)).length = (vs.toList.take cells.length).take off ++ news ++ (vs.toList.take cells.length).drop (off + news.length) := by
      apply List.ext_getElem?
      intro k
      simp only [List.toList_toArray, List.getElem?_take, List.getElem?_append, List.length_append, List.length_take, List.length_drop, List.getElem?_drop, Array.length_toList]
      repeat' split
      all_goals first | rfl | omega | (congr 1; omega) | (rw [List.getElem?_eq_none]; simp; omega) | (symm; rw [List.getElem?_eq_none]; simp; omega)
    rw [e]
    have := ((k4.rel.take off).append hN).append (k4.rel.drop (off + news.length))
    rw [hnl] at this ⊢
    exact this
  · simp only [List.toList_toArray, List.mem_append] at hv
    rcases hv with (hv | hv) | hv
    · exact k5 v (List.mem_of_mem_take hv)
    · exact h1 v hv
    · exact k5 v (List.mem_of_mem_drop hv)
  · rw [← k6]; simp; omega
theorem bounds3_sound (b : Bool) (len cap l h m : Nat) {vlo vhi vmx : Option Value} {lo hi mx : Option AV} (hlo : RelO G vlo lo) (hhi : RelO G vhi hi) (hmx : RelO G vmx mx) (h1 : abnd 0 lo = some l) (h2 : abnd len hi = some h) (h3 : abnd cap mx = some m) (hk : mx.isSome = true → hi.isSome = true) (hle : l ≤ h) (hc : h ≤ m) (hm : m ≤ cap) :
    (Instr.sliceBounds b len cap vlo vhi vmx).run P w = .ok (l, h, m) w := by
  have key : ∀ (a : AV) (v : Value) (d n : Nat), Rel G v a → abnd d (some a) = some n → ∃ k, v = .int k (n : Int) := by
    intro a v d n hr ha
    unfold abnd at ha
    split at ha
    · cases ‹some a = none›
    · rename_i k i he
      cases he
      split at ha
      · rename_i h0
        simp at ha
        cases hr
        exact ⟨k, by rw [← ha, Int.toNat_of_nonneg h0]⟩
      · cases ha
    · cases ha
  cases hmx with
  | none =>
    simp [abnd] at h3
    subst h3
    exact bounds_sound b len cap l h hlo hhi h1 h2 hle hc
  | some hmr =>
    obtain ⟨km, rfl⟩ := key _ _ _ _ hmr h3
    cases hhi with
    | none => cases hk rfl
    | some hr =>
      obtain ⟨k', rfl⟩ := key _ _ _ _ hr h2
      cases hlo with
      | none =>
        simp [abnd] at h1
        subst h1
        simp [Instr.sliceBounds, run_sliceBound _ _ _ _ _ (Int.natCast_nonneg m) (by omega : (m : Int) ≤ cap), run_sliceBound _ _ _ _ _ (Int.natCast_nonneg h) (by omega : (h : Int) ≤ m)]
      | some hl =>
        obtain ⟨k, rfl⟩ := key _ _ _ _ hl h1
        simp [Instr.sliceBounds, run_sliceBound _ _ _ _ _ (Int.natCast_nonneg m) (by omega : (m : Int) ≤ cap), run_sliceBound _ _ _ _ _ (Int.natCast_nonneg h) (by omega : (h : Int) ≤ m), run_sliceBound _ _ _ _ _ (Int.natCast_nonneg l) (by omega : (l : Int) ≤ h)]
def aslice2 (Ty : TypeId → Option TI) (T : TypeId) (x : AV) (lo hi mx : Option AV) : Option AV :=
  match tdOf Ty T, x with
  | .slice e, .vec id sz len => match abnd 0 lo, abnd len hi with
    | some l, some h => if mx.isSome = false ∧ l < h ∧ h ≤ len ∧ sz = szOf Ty e ∧ sz ≠ 0 then some (.msl id (l * sz) (h - l)) else none
    | _, _ => none
  | .slice e, .vc id sz off len cap => match abnd 0 lo, abnd len hi, abnd cap mx with
    | some l, some h, some m => if (mx.isSome = true → hi.isSome = true) ∧ l ≤ h ∧ h ≤ m ∧ m ≤ cap ∧ sz = szOf Ty e ∧ sz ≠ 0 then some (.vc id sz (if m = l then off else off + l * sz) (h - l) (m - l)) else none
    | _, _, _ => none
  | _, _ => none
theorem aslice2_sound (hT : TyOk P Ty) {T : TypeId} {x : AV} {vx : Value} {vlo vhi vmx : Option Value} {lo hi mx : Option AV} (hx : Rel G vx x) (hlo : RelO G vlo lo) (hhi : RelO G vhi hi) (hmx : RelO G vmx mx) {a : AV} (h : aslice2 Ty T x lo hi mx = some a) :
    ∃ v, (Instr.sliceAt T vx vlo vhi vmx).run P w = .ok v w ∧ Rel G v a := by
  unfold aslice2 at h
  split at h
  · rename_i e id sz len hd
    split at h
    case h_2 => cases h
    rename_i l hh e1 e2
    split at h
    case isFalse => cases h
    rename_i hc
    obtain ⟨c0, c1, c2, rfl, c4⟩ := hc
    simp at h
    subst h
    have hu := tdOf_ok hT hd (by simp)
    cases hmx with
    | some _ => cases c0
    | none =>
    cases hx with
    | vec0 A _ _ => omega
    | vec _ _ _ c b h0 hc' hm hl hs =>
      refine ⟨.slice (some ⟨b, 0 + l * szOf Ty e, none⟩) (hh - l) (c - l), ?_, ?_⟩
      · rw [sliceAt_other hu (by simp)]
        have hx : (if c = l then some (⟨b, 0, none⟩ : Addr) else some ⟨b, 0 + l * szOf Ty e, none⟩) = some ⟨b, 0 + l * szOf Ty e, none⟩ := by rw [if_neg (by omega)]
        simp only [Nat.zero_add] at hx
        simp [Instr.slice, run_underlying hu, bounds_sound true len c l hh hlo hhi e1 e2 (by omega) (by omega), szOf_run (P := P) hT c4 w, Addr.add_lit, hx]
      · rw [Nat.zero_add]; exact .msl _ _ _ _ b (by omega) hl
  · rename_i e id sz off len cap hd
    split at h
    case h_2 => cases h
    rename_i l hh m e1 e2 e3
    split at h
    case isFalse => cases h
    rename_i hc
    obtain ⟨c0, c1, c2, c3, rfl, c4⟩ := hc
    simp at h
    subst h
    have hu := tdOf_ok hT hd (by simp)
    cases hx with
    | vc _ _ _ _ _ b hc' hm hl hs =>
      refine ⟨.slice (some ⟨b, if m = l then off else off + l * szOf Ty e, none⟩) (hh - l) (m - l), ?_, ?_⟩
      · rw [sliceAt_other hu (by simp)]
        have hx : (if m = l then some (⟨b, off, none⟩ : Addr) else some ⟨b, off + l * szOf Ty e, none⟩) = some ⟨b, if m = l then off else off + l * szOf Ty e, none⟩ := by split <;> rfl
        simp [Instr.slice, run_underlying hu, bounds3_sound true len cap l hh m hlo hhi hmx e1 e2 e3 c0 c1 c2 c3, szOf_run (P := P) hT c4 w, Addr.add_lit, hx]
      · refine .vc _ _ _ _ _ b (by omega) (by omega) hl ?_
        split
        · rename_i he; subst he; simp; omega
        · have : l * szOf Ty e + (m - l) * szOf Ty e = m * szOf Ty e := by rw [← Nat.add_mul]; congr 1; omega
          have := Nat.mul_le_mul_right (szOf Ty e) c3
          omega
  · cases h
def aindexAddr2 (Ty : TypeId → Option TI) (T : TypeId) (x ix : AV) : Option AV :=
  match ix, tdOf Ty T, x with
  | .int _ i, .slice e, .vec id sz len => if 0 ≤ i ∧ i < len ∧ sz = szOf Ty e ∧ sz ≠ 0 then some (.ref id (0 + i.toNat * sz)) else none
  | .int _ i, .slice e, .vc id sz off len _ => if 0 ≤ i ∧ i < len ∧ sz = szOf Ty e ∧ sz ≠ 0 then some (.ref id (off + i.toNat * sz)) else none
  | _, _, _ => none
theorem aindexAddr2_sound (hT : TyOk P Ty) {T : TypeId} {x ix : AV} {vx vi : Value} (hx : Rel G vx x) (hi : Rel G vi ix) {a : AV} (h : aindexAddr2 Ty T x ix = some a) : ∃ v, (Instr.indexAt T vx vi).run P w = .ok v w ∧ Rel G v a := by
  have key : ∀ (e : TypeId) (b off len c id k : Nat) (ki : IntKind) (i : Int), P.underlying T = some (.slice e) → 0 ≤ i → i < len → szOf Ty e ≠ 0 → G.loc id = some b → ∃ v, (Instr.indexAt T (.slice (some ⟨b, off, none⟩) len c) (.int ki i)).run P w = .ok v w ∧ Rel G v (.ref id (off + i.toNat * szOf Ty e)) := by
    intro e b off len c id k ki i hu h0 h1 hs hl
    refine ⟨.pointer (some ⟨b, off + i.toNat * szOf Ty e, none⟩), ?_, .ref _ _ b hl⟩
    simp only [Instr.indexAt, asIntOf]
    simp [run_underlying hu, h0, h1, szOf_run (P := P) hT hs w, Addr.add_lit]
  unfold aindexAddr2 at h
  split at h
  · rename_i k i e id sz len hd
    split at h
    case isFalse => cases h
    rename_i hc
    obtain ⟨h0, h1, rfl, hs⟩ := hc
    simp only [Option.some.injEq] at h
    subst h
    cases hi
    have hu := tdOf_ok hT hd (by simp)
    cases hx with
    | vec0 A _ _ => omega
    | vec _ _ _ c b _ _ _ hl _ => exact key e b 0 len c id 0 k i hu h0 h1 hs hl
  · rename_i k i e id sz off len cap hd
    split at h
    case isFalse => cases h
    rename_i hc
    obtain ⟨h0, h1, rfl, hs⟩ := hc
    simp only [Option.some.injEq] at h
    subst h
    cases hi
    have hu := tdOf_ok hT hd (by simp)
    cases hx with
    | vc _ _ _ _ _ b _ _ hl _ => exact key e b off len cap id 0 k i hu h0 h1 hs hl
  · cases h
def alen2 (Ty : TypeId → Option TI) (T : TypeId) (x : AV) : Option AV :=
  match tdOf Ty T, x with
  | .slice _, .vec _ _ len => some (.int .i64 len)
  | .slice _, .vc _ _ _ len _ => some (.int .i64 len)
  | _, _ => none
theorem alen2_sound (hT : TyOk P Ty) {T : TypeId} {ts : List TypeId} {ty : TypeId} {x : AV} {vx : Value} (hx : Rel G vx x) {a : AV} (h : alen2 Ty T x = some a) : ∃ v, (Builtin.len_ (T :: ts).toArray ty #[vx]).run P w = .ok v w ∧ Rel G v a := by
  unfold alen2 at h
  split at h
  · rename_i hd
    simp at h; subst h
    cases hx <;> exact ⟨_, by simp [Builtin.len_, run_underlying (tdOf_ok hT hd (by simp)), goInt], .int _ _⟩
  · rename_i hd
    simp at h; subst h
    cases hx; exact ⟨_, by simp [Builtin.len_, run_underlying (tdOf_ok hT hd (by simp)), goInt], .int _ _⟩
  · cases h
def aappendC (Ty : TypeId → Option TI) (t tx : TypeId) (x y : AV) (σ : St) : Option (AV × St) :=
  match tdOf Ty t, x with
  | .slice e, .vc id sz off len cap => match Ty e, σ.row id with
    | some i, some cells => match srcC Ty tx i.sz σ y with
      | some (n, ys) => if i.sz = sz ∧ len + n ≤ cap ∧ off + len * sz ≤ cells.length ∧ cells.isEmpty = false then
          some (.vc id sz off (len + n) cap, ⟨σ.objs.set id (cells.take (off + len * sz) ++ ys ++ cells.drop (off + len * sz + ys.length)), σ.opn, σ.gl⟩) else none
      | none => none
    | _, _ => none
  | _, _ => none
theorem aappendC_sound (hT : TyOk P Ty) (hI : Inv w0 G w σ) (t tx ty : TypeId) {x y : AV} {vx vy : Value} (hx : Rel G vx x) (hy : Rel G vy y) {a : AV} {σ' : St}
    (h : aappendC Ty t tx x y σ = some (a, σ')) : ∃ v w' G', (Builtin.append_ #[t, tx] ty #[vx, vy]).run P w = .ok v w' ∧ G.Le G' ∧ Inv w0 G' w' σ' ∧ Rel G' v a := by
  unfold aappendC at h
  split at h
  case h_2 => cases h
  rename_i e id sz off len cap hd
  split at h
  case h_2 => cases h
  rename_i i cells hi hc
  obtain ⟨hc, hsp⟩ := row_some hc
  split at h
  case h_2 => cases h
  rename_i n ys hs
  split at h
  case isFalse => cases h
  rename_i hcond
  obtain ⟨rfl, hfit, hle, hne⟩ := hcond
  have hne' : cells ≠ [] := fun he => by subst he; cases hne
  simp only [Option.some.injEq, Prod.mk.injEq] at h
  obtain ⟨rfl, rfl⟩ := h
  obtain ⟨hd2, ti, z, g1, g2, g3, g4, g5, g6, g7, g8⟩ := hT e i hi
  have ht := tdOf_ok hT hd (by simp)
  obtain ⟨hyl, news, hS, hN⟩ := srcC_sound hT hI hy hs
  have hS' : Src P ti.size tx vy n news w := by rw [g2]; exact hS
  have hnl : news.length = n * i.sz := hS.newsLen
  cases hx with
  | vc _ _ _ _ _ b hc' hm hl hbs =>
  obtain ⟨b', T, vs, k1, k2, k3, k4, k5, k6⟩ := hI.loc id cells hc hne' hsp
  rw [hl] at k1
  injection k1 with k1
  subst k1
  have hcap : off + len * i.sz + news.length ≤ G.bsz id := by
    rw [hnl, Nat.add_assoc, ← Nat.add_mul]
    exact Nat.le_trans (Nat.add_le_add_left (Nat.mul_le_mul_right _ hfit) _) hbs
  have hrun := run_append_room_src (P := P) w t tx ty e ti ht g1 b off len cap vy n news hS' hfit
    (fun j hj => by rw [cell_of_row _ _ _ vs T (0, 0) k3, Array.getElem?_eq_getElem (by rw [g2]; omega)]; rfl)
    (fun j hj => frozen_of_row _ _ _ vs T k3)
  rw [g2] at hrun
  exact ⟨_, _, G, hrun, .refl G, hI.write hc hl hne' hsp hN hS.one hle hcap, .vc _ _ _ _ _ b hfit hm hl hbs⟩
def aclear (Ty : TypeId → Option TI) (t : TypeId) (x : AV) (σ : St) : Option St :=
  match tdOf Ty t, x with
  | .slice e, .vc id sz off len cap => match Ty e, σ.row id with
    | some i, some cells => if i.sz = sz ∧ off ≤ cells.length ∧ cells.isEmpty = false then
          some ⟨σ.objs.set id (cells.take off ++ flat (List.replicate len i.zero) ++ cells.drop (off + (flat (List.replicate len i.zero)).length)), σ.opn, σ.gl⟩ else none
    | _, _ => none
  | _, _ => none
theorem aclear_sound (hT : TyOk P Ty) (hI : Inv w0 G w σ) (t ty : TypeId) {x : AV} {vx : Value} (hx : Rel G vx x) {σ' : St}
    (h : aclear Ty t x σ = some σ') : ∃ w', (Builtin.clear_ #[t] ty #[vx]).run P w = .ok (.tuple #[]) w' ∧ Inv w0 G w' σ' := by
  unfold aclear at h
  split at h
  case h_2 => cases h
  rename_i e id sz off len cap hd
  split at h
  case h_2 => cases h
  rename_i i cells hi hc
  obtain ⟨hc, hsp⟩ := row_some hc
  split at h
  case isFalse => cases h
  rename_i hcond
  obtain ⟨rfl, hle, hne⟩ := hcond
  have hne' : cells ≠ [] := fun he => by subst he; cases hne
  simp only [Option.some.injEq] at h
  subst h
  obtain ⟨hd2, ti, z, g1, g2, g3, g4, g5, g6, g7, g8⟩ := hT e i hi
  have ht := tdOf_ok hT hd (by simp)
  have hz1 : ∀ u ∈ z.cells.toList, u.oneCell' = true := fun u hu => by
    rw [Array.all_eq_true_iff_forall_mem] at g8
    exact g8 u (Array.mem_toList_iff.1 hu)
  have hzc : Builtin.zeroCells z.cells len = madeCells z.cells (len * i.sz) := by rw [← g6]; rfl
  have hr : RelL G (Builtin.zeroCells z.cells len).toList (flat (List.replicate len i.zero)) := by rw [hzc]; exact made_rel (g5 G) g6 len
  have h1 : ∀ u ∈ (Builtin.zeroCells z.cells len).toList, u.oneCell' = true := zeroCells_one hz1 len
  have hl0 : (Builtin.zeroCells z.cells len).toList.length = len * i.sz := by rw [Array.length_toList, size_zeroCells, g6]
  cases hx with
  | vc _ _ _ _ _ b hc' hm hl hbs =>
  obtain ⟨b', T, vs, k1, k2, k3, k4, k5, k6⟩ := hI.loc id cells hc hne' hsp
  rw [hl] at k1
  injection k1 with k1
  subst k1
  have hcap : off + (Builtin.zeroCells z.cells len).toList.length ≤ G.bsz id := by
    rw [hl0]
    exact Nat.le_trans (Nat.add_le_add_left (Nat.mul_le_mul_right _ hc') _) hbs
  refine ⟨_, ?_, hI.write hc hl hne' hsp hr h1 hle hcap⟩
  have hst := run_storeCells_cells (P := P) b off (Builtin.zeroCells z.cells len).toList 0 w (fun j hj => by rw [cell_of_row _ _ _ vs T (0, 0) k3, Array.getElem?_eq_getElem (by omega)]; rfl) (fun j hj => frozen_of_row _ _ _ vs T k3) h1
  simp only [Nat.add_zero] at hst
  cases len with
  | zero =>
    have : (Builtin.zeroCells z.cells 0).toList = [] := List.eq_nil_of_length_eq_zero (by rw [hl0]; simp)
    rw [this]
    simp [Builtin.clear_, run_underlying ht, World.setCells]
  | succ m => simp [Builtin.clear_, run_underlying ht, zeroValue, typeInfo, g1, g4, hst]
def acopy (Ty : TypeId → Option TI) (t tx : TypeId) (x y : AV) (σ : St) : Option (AV × St) :=
  match tdOf Ty t, x with
  | .slice e, .msl id off len => match Ty e, σ.row id with
    | some i, some cells => match srcC Ty tx i.sz σ y with
      | some (n, ys) => if off + len * i.sz ≤ cells.length ∧ cells.isEmpty = false ∧ n ≤ len then
          some (.int .i64 (n : Nat), ⟨σ.objs.set id (cells.take off ++ ys ++ cells.drop (off + ys.length)), σ.opn, σ.gl⟩) else none
      | none => none
    | _, _ => none
  | _, _ => none
theorem acopy_sound (hT : TyOk P Ty) (hI : Inv w0 G w σ) (t tx ty : TypeId) {x y : AV} {vx vy : Value} (hx : Rel G vx x) (hy : Rel G vy y) {a : AV} {σ' : St}
    (h : acopy Ty t tx x y σ = some (a, σ')) : ∃ v w', (Builtin.copy_ #[t, tx] ty #[vx, vy]).run P w = .ok v w' ∧ Inv w0 G w' σ' ∧ Rel G v a := by
  unfold acopy at h
  split at h
  case h_2 => cases h
  rename_i e id off len hd
  split at h
  case h_2 => cases h
  rename_i i cells hi hc
  obtain ⟨hc, hsp⟩ := row_some hc
  split at h
  case h_2 => cases h
  rename_i n ys hs
  split at h
  case isFalse => cases h
  rename_i hcond
  obtain ⟨hle, hne, hnl'⟩ := hcond
  have hne' : cells ≠ [] := fun he => by subst he; cases hne
  simp only [Option.some.injEq, Prod.mk.injEq] at h
  obtain ⟨rfl, rfl⟩ := h
  obtain ⟨hd2, ti, z, g1, g2, g3, g4, g5, g6, g7, g8⟩ := hT e i hi
  have ht := tdOf_ok hT hd (by simp)
  obtain ⟨hyl, news, hS, hN⟩ := srcC_sound hT hI hy hs
  have hnl : news.length = n * i.sz := hS.newsLen
  cases hx with
  | msl _ _ _ c b hc' hl =>
  obtain ⟨b', T, vs, k1, k2, k3, k4, k5, k6⟩ := hI.loc id cells hc hne' hsp
  rw [hl] at k1
  injection k1 with k1
  subst k1
  have hcv := k4.le
  have hmul : n * i.sz ≤ len * i.sz := Nat.mul_le_mul_right _ hnl'
  have hcap : off + news.length ≤ G.bsz id := by omega
  refine ⟨_, _, ?_, hI.write hc hl hne' hsp hN hS.one (by omega) hcap, .int _ _⟩
  have hst := run_storeCells_cells (P := P) b off news 0 w (fun j hj => by rw [cell_of_row _ _ _ vs T (0, 0) k3, Array.getElem?_eq_getElem (by omega)]; rfl) (fun j hj => frozen_of_row _ _ _ vs T k3) hS.one
  simp only [Nat.add_zero] at hst
  have hmin : Nat.min n len = n := Nat.min_eq_left hnl'
  have hlen := hS.len w
  have hcl := hS.cells
  simp [Builtin.copy_, run_underlying ht, sizeOf, typeInfo, g1, g2, hlen, hmin, hcl, hst, goInt]
def amake2 (Ty : TypeId → Option TI) (T : TypeId) (x y : AV) (σ : St) : Option (AV × St) :=
  match tdOf Ty T, x, y with
  | .slice e, .int _ n, .int _ c => match Ty e with
    | some i => if 0 ≤ n ∧ n ≤ c ∧ (0 < n ∨ c = 0) ∧ (i.bytes : Int) * c ≤ 281474976710656 ∧ c ≤ 9223372036854775807 then
        some (.vec σ.objs.length i.sz n.toNat, ⟨σ.objs ++ [flat (List.replicate n.toNat i.zero)], σ.opn, σ.gl⟩)
      else none
    | none => none
  | _, _, _ => none
theorem amake2_sound (hT : TyOk P Ty) (hI : Inv w0 G w σ) {T : TypeId} {x y : AV} {vx vy : Value} (hx : Rel G vx x) (hy : Rel G vy y) {a : AV} {σ' : St} (h : amake2 Ty T x y σ = some (a, σ')) :
    ∃ v w' G', (Instr.makeSlice T vx vy).run P w = .ok v w' ∧ G.Le G' ∧ Inv w0 G' w' σ' ∧ Rel G' v a := by
  unfold amake2 at h
  split at h
  case h_2 => cases h
  rename_i e k n k' c hd
  split at h
  case h_2 => cases h
  rename_i i hi
  split at h
  case isFalse => cases h
  rename_i hc
  obtain ⟨c1, c2, c5, c3, c4⟩ := hc
  simp only [Option.some.injEq, Prod.mk.injEq] at h
  obtain ⟨rfl, rfl⟩ := h
  cases hx; cases hy
  obtain ⟨ti, z, h1, h2, h3, h4, h5, h6, h7, h8⟩ := (hT e i hi).info
  have hz1 : ∀ u ∈ z.cells.toList, u.oneCell' = true := fun u hu => by
    rw [Array.all_eq_true_iff_forall_mem] at h8
    exact h8 u (Array.mem_toList_iff.1 hu)
  have hu := tdOf_ok hT hd (by simp)
  have hrun := run_make (P := P) w T e ti z hu h1 h4 k k' n c c1 c2 (by rw [h3]; exact c3) c4
  rw [h2] at hrun
  have hmax : c.toNat ≤ maxLen := by simp only [maxLen]; omega
  have hnc : n.toNat ≤ c.toNat := by omega
  have hzl : ∀ e ∈ List.replicate n.toNat i.zero, e.cells.length = i.sz := fun e he => by rw [(List.mem_replicate.1 he).2]; exact h7
  have hfl : (flat (List.replicate n.toNat i.zero)).length = n.toNat * i.sz := by rw [flat_length hzl, List.length_replicate]
  have htk : ((madeCells z.cells (c.toNat * i.sz)).toList.take (n.toNat * i.sz)) = (madeCells z.cells (n.toNat * i.sz)).toList := by
    simp only [madeCells, Array.toList_map, ← List.map_take]
    congr 1
    have := Nat.mul_le_mul_right i.sz hnc
    simp [Nat.min_eq_left this]
  obtain ⟨hle, hI'⟩ := hI.alloc_loc (madeCells z.cells (c.toNat * i.sz)) e (flat (List.replicate n.toNat i.zero)) ⟨by rw [hfl, size_madeCells]; exact Nat.mul_le_mul_right _ hnc, by rw [hfl, htk]; exact made_rel (h5 G) h6 n.toNat⟩ (made_one hz1 h6 c.toNat)
  refine ⟨_, _, _, hrun, hle, hI', ?_⟩
  rcases Nat.eq_zero_or_pos n.toNat with h0 | h0
  · have hc0 : c.toNat = 0 := by omega
    rw [h0, hc0]
    exact .vec0 _ _ _
  · exact .vec _ _ _ _ w.heap.size h0 hnc hmax (by simp [Ghost.addLoc]) (by simp [Ghost.addLoc, size_madeCells])
def aop2 (Ty : TypeId → Option TI) (o : Oper) (ev : Operand → AV) (σ : St) : Option (AV × St) :=
  match o.op with
  | .makeSlice T l c => amake2 Ty T (ev l) (ev c) σ
  | .slice T x lo hi mx => pairO (aslice2 Ty T (ev x) (lo.map ev) (hi.map ev) (mx.map ev)) σ
  | .indexAddr T x i => pairO (aindexAddr2 Ty T (ev x) (ev i)) σ
  | .call c => match c.callee, c.args.toList, c.argTypes.toList with
    | .builtin .len, [x], T :: _ => pairO (alen2 Ty T (ev x)) σ
    | .builtin .append, [x, y], [T, U] => match ev x with
      | .vec _ _ _ => aappendV Ty T U (ev x) (ev y) σ
      | _ => aappendC Ty T U (ev x) (ev y) σ
    | .builtin .clear, [x], [T] => match aclear Ty T (ev x) σ with | some σ' => some (.tup [], σ') | none => none
    | .builtin .copy, [x, y], [T, U] => acopy Ty T U (ev x) (ev y) σ
    | _, _, _ => none
  | _ => none
theorem aop2_sound (hT : TyOk P Ty) (hI : Inv w0 G w σ) {o : Oper} {ρ : Operand → Value} {ev : Operand → AV} (hρ : ∀ x, Rel G (ρ x) (ev x)) {a : AV} {σ' : St} (h : aop2 Ty o ev σ = some (a, σ')) : OpOk P w0 G w o ρ a σ' := by
  unfold aop2 at h
  split at h
  · rename_i T x y ho
    obtain ⟨v, w', G', h1, h2, h3, h4⟩ := amake2_sound hT hI (hρ x) (hρ y) h
    exact .value (by simp [execOp, ho, h1]) h2 h3 h4
  · rename_i T x lo hi mx ho
    obtain ⟨h', rfl⟩ := pairO_some h; replace h := h'
    obtain ⟨v, h1, h2⟩ := aslice2_sound (w := w) hT (hρ x) (relO_map hρ lo) (relO_map hρ hi) (relO_map hρ mx) h
    exact .value (by simp [execOp, ho, h1]) (.refl G) hI h2
  · rename_i T x y ho
    obtain ⟨h', rfl⟩ := pairO_some h; replace h := h'
    obtain ⟨v, h1, h2⟩ := aindexAddr2_sound (w := w) hT (hρ x) (hρ y) h
    exact .value (by simp [execOp, ho, h1]) (.refl G) hI h2
  · rename_i c ho
    split at h
    · rename_i x T ts hc hargs hts
      obtain ⟨h', rfl⟩ := pairO_some h; replace h := h'
      obtain ⟨callee, args, argTypes⟩ := c
      simp only at hc hargs hts
      obtain ⟨v, h1, h2⟩ := alen2_sound (w := w) (ts := ts) (ty := o.type) hT (hρ x) h
      have ha : args = #[x] := by cases args; simp at hargs; rw [hargs]
      have ht : argTypes = (T :: ts).toArray := by cases argTypes; simp at hts; rw [hts]; 
      subst hc; subst ha; subst ht
      exact .value (by simp [execOp, ho, resolve, invoke, builtin, h1]) (.refl G) hI h2
    · rename_i x y T U hc hargs hts
      obtain ⟨callee, args, argTypes⟩ := c
      simp only at hc hargs hts
      have key : ∃ v w' G', (Builtin.append_ #[T, U] o.type #[ρ x, ρ y]).run P w = .ok v w' ∧ G.Le G' ∧ Inv w0 G' w' σ' ∧ Rel G' v a := by
        split at h
        · exact aappendV_sound hT hI T U o.type (hρ x) (hρ y) h
        · exact aappendC_sound hT hI T U o.type (hρ x) (hρ y) h
      obtain ⟨v, w', G', h1, h2, h3, h4⟩ := key
      have ha : args = #[x, y] := by cases args; simp at hargs; rw [hargs]
      have ht : argTypes = #[T, U] := by cases argTypes; simp at hts; rw [hts]
      subst hc; subst ha; subst ht
      exact .value (by simp [execOp, ho, resolve, invoke, builtin, h1]) h2 h3 h4
    · rename_i x T hc hargs hts
      obtain ⟨callee, args, argTypes⟩ := c
      simp only at hc hargs hts
      split at h
      case h_2 => cases h
      rename_i σ2 hcl
      simp only [Option.some.injEq, Prod.mk.injEq] at h
      obtain ⟨rfl, rfl⟩ := h
      obtain ⟨w', h1, h2⟩ := aclear_sound (P := P) hT hI T o.type (hρ x) hcl
      have ha : args = #[x] := by cases args; simp at hargs; rw [hargs]
      have ht : argTypes = #[T] := by cases argTypes; simp at hts; rw [hts]
      subst hc; subst ha; subst ht
      exact .value (by simp [execOp, ho, resolve, invoke, builtin, h1]) (.refl G) h2 (.tup #[] [] rfl (fun i v a h => by simp at h))
    · rename_i x y T U hc hargs hts
      obtain ⟨callee, args, argTypes⟩ := c
      simp only at hc hargs hts
      obtain ⟨v, w', h1, h2, h3⟩ := acopy_sound (P := P) hT hI T U o.type (hρ x) (hρ y) h
      have ha : args = #[x, y] := by cases args; simp at hargs; rw [hargs]
      have ht : argTypes = #[T, U] := by cases argTypes; simp at hts; rw [hts]
      subst hc; subst ha; subst ht
      exact .value (by simp [execOp, ho, resolve, invoke, builtin, h1]) (.refl G) h2 h3
    · cases h
  · cases h
theorem aop2_congr {o : Oper} {ev ev' : Operand → AV} (h : ∀ x ∈ o.op.operands, ev x = ev' x) : aop2 Ty o ev σ = aop2 Ty o ev' σ := by
  unfold aop2
  cases ho : o.op <;> rw [ho] at h <;> simp only [Op.operands] at h <;> (try simp only [])
  case makeSlice T x y => rw [h x (by simp), h y (by simp)]
  case slice T x lo hi mx =>
    rw [h x (by simp)]
    have e1 : lo.map ev = lo.map ev' := by cases lo with | none => rfl | some y => simp [h y (by simp)]
    have e2 : hi.map ev = hi.map ev' := by cases hi with | none => rfl | some y => simp [h y (by simp)]
    have e3 : mx.map ev = mx.map ev' := by cases mx with | none => rfl | some y => simp [h y (by simp)]
    rw [e1, e2, e3]
  case indexAddr T x y => rw [h x (by simp), h y (by simp)]
  case call c =>
    have hm : ∀ x ∈ c.args.toList, ev x = ev' x := fun x hx => h x (by
      unfold Call.operands
      exact Array.mem_append.2 (.inr (Array.mem_toList_iff.1 hx)))
    split
    · rename_i x T ts hc ha ht
      rw [hm x (by rw [ha]; exact List.mem_cons_self)]
    · rename_i x y T U hc ha ht
      rw [hm x (by rw [ha]; exact List.mem_cons_self), hm y (by rw [ha]; exact List.mem_cons_of_mem _ List.mem_cons_self)]
    · rename_i x T hc ha ht
      rw [hm x (by rw [ha]; exact List.mem_cons_self)]
    · rename_i x y T U hc ha ht
      rw [hm x (by rw [ha]; exact List.mem_cons_self), hm y (by rw [ha]; exact List.mem_cons_of_mem _ List.mem_cons_self)]
    · rfl
open Classical in
theorem OpS.of_aop2 {fr : Nat → AV} (hT : TyOk P Ty) {o : Oper} (hc : callOf o = none) (ev : Operand → AV) (hev : ∀ x ∈ o.op.operands, Wk (aeval fr x) (ev x)) {a b : AV} {σ' : St} (h : aop2 Ty o ev σ = some (a, σ')) (hw : Wk a b) : OpS P o fr σ (fun a' σ'' => a' = b ∧ σ'' = σ') := by
  intro w0 G act w Q K' hI hr hK
  have h' : aop2 Ty o (fun x => if x ∈ o.op.operands then ev x else .junk) σ = some (a, σ') := by
    rw [← h]
    exact aop2_congr (fun x hx => by rw [if_pos hx])
  obtain ⟨v, w', G', k1, k2, k3, k4⟩ := aop2_sound (P := P) hT hI (ρ := act.eval) (fun y => by
    by_cases hy : y ∈ o.op.operands
    · rw [if_pos hy]; exact hev y hy G _ (hr y hy)
    · rw [if_neg hy]; exact .junk _) h'
  unfold Oper.wp
  rcases k4 with k4 | ⟨k4, rfl⟩ <;> rw [k4] <;> exact hK _ b σ' w' G' ⟨rfl, rfl⟩ k1 k2 (hw G' _ k3)
end
section
variable {P : Program} {Ty : TypeId → Option TI} {n : Nat} {σ : St} {ops : Array Oper}
end
theorem set_erase {α : Type} : ∀ (O : List α) (k : Nat), (O.eraseIdx k).Sublist O
  | [], _ => by simp
  | a :: O, 0 => by simp
  | a :: O, k + 1 => by simp only [List.eraseIdx_cons_succ]; exact (set_erase O k).cons_cons a
theorem mem_erase_dist {O : List (Nat × List AV)} (hd : O.Pairwise fun p q => p.1 ≠ q.1) : ∀ {k : Nat} {id : Nat} {c : List AV}, O[k]? = some (id, c) → ∀ p ∈ O.eraseIdx k, p.1 ≠ id := by
  induction hd with
  | nil => intro k id c h; simp at h
  | cons hh ht ih =>
    intro k id c h p hp
    cases k with
    | zero =>
      simp at h hp
      subst h
      exact Ne.symm (hh p hp)
    | succ k =>
      simp only [List.eraseIdx_cons_succ, List.mem_cons] at hp
      simp at h
      rcases hp with rfl | hp
      · exact hh _ (List.mem_of_getElem? h)
      · exact ih h p hp
theorem Holds.gone {σ0 σ : St} {O : List (Nat × List AV)} {A : List Nat} (h : Holds σ0 O A σ) (k : Nat) {id : Nat} {c : List AV} (hk : O[k]? = some (id, c)) (hn : σ0.objs.length ≤ id) (c' : List AV) : Holds σ0 (O.eraseIdx k) A ⟨σ.objs.set id c', σ.opn, σ.gl⟩ := by
  have hsub := set_erase O k
  refine ⟨fun i d h1 h2 => ?_, h.opn, by simpa using h.olen, h.tlen, fun p hp => ?_, h.dist.sublist hsub, h.tok, h.tdist, h.gl⟩
  · have hi := (List.getElem?_eq_some_iff.1 h1).1
    simp only
    rw [List.getElem?_set_ne (by omega)]
    refine h.base i d h1 (fun p hp => ?_)
    by_cases hpi : p.1 = i
    · obtain ⟨j, hj⟩ := List.mem_iff_getElem?.1 hp
      by_cases hjk : j = k
      · subst hjk; rw [hk] at hj; cases hj; omega
      · refine h2 p (List.mem_eraseIdx_iff_getElem?.2 ⟨j, hjk, hj⟩)
    · exact hpi
  · simp only
    rw [List.getElem?_set_ne (Ne.symm (mem_erase_dist h.dist hk p hp))]
    exact h.obj p (hsub.subset hp)
theorem Holds.dropAt {σ0 σ : St} {O : List (Nat × List AV)} {A : List Nat} (h : Holds σ0 O A σ) (k : Nat) {id : Nat} {c : List AV} (hk : O[k]? = some (id, c)) (hn : σ0.objs.length ≤ id) : Holds σ0 (O.eraseIdx k) A σ := by
  have := h.gone k hk hn c
  have e : σ.objs.set id c = σ.objs := by
    obtain ⟨hlt, hg⟩ := List.getElem?_eq_some_iff.1 (h.at_ k hk)
    rw [← hg, List.set_getElem_self]
  rwa [e] at this
section
variable {P : Program} {Ty : TypeId → Option TI} {n : Nat} {σ : St} {ops : Array Oper} {σ0 : St} {O : List (Nat × List AV)} {A : List Nat} {fr : Nat → AV} {d : Option Tmp} {ty : TypeId} {pos : String} {af : Array Edge} {g : Option (Nat × Bool)} {ox oy oi : Operand} {T T' E U : TypeId} {α : Type} {e : α → AV} {sz : Nat}
theorem o_vecx (hT : TyOk P Ty) {m id : Nat} {kk : IntKind} {i : Int} {u : Unit} (h : chk m i = some u) (hd : tdOf Ty T = .slice E) (hz : szOf Ty E = sz) (hs : sz ≠ 0) (hx : aeval fr ox = .vec id sz m) (hi : aeval fr oi = .int kk i) : OpP P ⟨d, .indexAddr T ox oi, ty, pos, af, g⟩ fr (.ref id (0 + i.toNat * sz + 0)) := fun τ => by
  refine OpS.of_aop2 hT rfl (aeval fr) (fun x _ => Wk.refl _) (a := .ref id (0 + i.toNat * sz)) ?_ (Wk.refl _)
  simp only [aop2, hx, hi, aindexAddr2, hd]
  rw [if_pos ⟨(chk_some h).1, (chk_some h).2, hz.symm, hs⟩]
  rfl
theorem o_vlen (hT : TyOk P Ty) {m id : Nat} (hd : tdOf Ty T = .slice E) (hx : aeval fr ox = .vec id sz m) : OpP P ⟨d, .call ⟨.builtin .len, #[ox], #[T]⟩, ty, pos, af, g⟩ fr (eI (m : Int)) := fun τ => by
  refine OpS.of_aop2 hT rfl (aeval fr) (fun x _ => Wk.refl _) (a := .int .i64 m) ?_ (Wk.refl _)
  simp only [aop2, hx, alen2, hd]
  rfl
theorem updA_len {m : Nat} {l c : List α} {i : Int} {f : α → α} (h : updA m l i f = some c) : c.length = l.length := by
  obtain ⟨x, _, rfl⟩ := updA_some h
  simp
def mkS {α : Type} (b : Nat) (m : Int) (z : α) : Option (List α) := if 0 ≤ m ∧ (b : Int) * m ≤ 281474976710656 ∧ m ≤ 9223372036854775807 then some (List.replicate m.toNat z) else none
theorem h_make (hT : TyOk P Ty) (hH : Holds σ0 O A σ) {i : TI} {z : α} {x : List α} {m : Int} {k k' : IntKind} (h : mkS i.bytes m z = some x) (hd : tdOf Ty T = .slice E) (hi : Ty E = some i) (hsz : i.sz = sz) (hz : i.zero = e z) (hx : aeval fr ox = .int k m) (hy : aeval fr oy = .int k' m) :
    ∃ t τ, OpS P ⟨d, .makeSlice T ox oy, ty, pos, af, g⟩ fr σ (fun a' τ' => a' = (fun t => eT t sz e x) t ∧ τ' = τ) ∧ Holds σ0 O (t :: A) τ := by
  unfold mkS at h
  split at h
  case isFalse => cases h
  rename_i hc
  cases h
  refine ⟨_, _, OpS.of_aop hT (mu := false) rfl (aeval fr) (fun x _ => Wk.refl _) (a := .sl (.own σ.opn.length) i.sz (List.replicate m.toNat i.zero)) (σ' := σ.more) ?_ (.of_eq (by rw [hsz, hz]; simp [eT])), hH.more⟩
  simp only [aop, hx, hy, amake, hd, hi]
  rw [if_pos ⟨hc.1, Int.le_refl _, hc.2.1, hc.2.2⟩]
  rfl
theorem h_makeV (hT : TyOk P Ty) (hH : Holds σ0 O A σ) {i : TI} {z : α} {x : List α} {m : Int} {k k' : IntKind} (h : mkS i.bytes m z = some x) (hd : tdOf Ty T = .slice E) (hi : Ty E = some i) (hsz : i.sz = sz) (hz : i.zero = e z) (hx : aeval fr ox = .int k m) (hy : aeval fr oy = .int k' m) :
    ∃ b τ, OpS P ⟨d, .makeSlice T ox oy, ty, pos, af, g⟩ fr σ (fun a' τ' => a' = (fun b => AV.vec b sz x.length) b ∧ τ' = τ) ∧ (Holds σ0 ((b, cL e x) :: O) A τ ∧ σ0.objs.length ≤ b) := by
  unfold mkS at h
  split at h
  case isFalse => cases h
  rename_i hc
  cases h
  have e1 : cL e (List.replicate m.toNat z) = flat (List.replicate m.toNat i.zero) := by rw [hz]; simp [cL]
  refine ⟨_, _, OpS.of_aop2 hT rfl (aeval fr) (fun x _ => Wk.refl _) (a := .vec σ.objs.length i.sz m.toNat) (σ' := ⟨σ.objs ++ [flat (List.replicate m.toNat i.zero)], σ.opn, σ.gl⟩) ?_ (.of_eq (by rw [hsz]; simp)), by rw [e1]; exact hH.add _, hH.olen⟩
  simp only [aop2, hx, hy, amake2, hd, hi]
  rw [if_pos ⟨hc.1, Int.le_refl _, by omega, hc.2.1, hc.2.2⟩]
theorem wk_vec00 (i j sz : Nat) : Wk (.vec i sz 0) (.vec j sz 0) := fun G v h => by
  cases h with
  | vec0 A _ _ => exact .vec0 _ _ _
  | vec _ _ _ _ _ h0 => exact absurd h0 (Nat.lt_irrefl 0)
theorem cut_vec {ρ κ : Nat → Option Nat} {id j q : Nat} (h : ρ id = some j) : Wk (cutAV ρ κ (.vec id sz q)) (.vec j sz q) := by
  simp only [cutAV]
  split
  · rename_i h0; subst h0; exact wk_vec00 _ _ _
  · rw [h]; exact Wk.refl _
end
section
variable {P : Program} {Ty : TypeId → Option TI} {n : Nat} {σ : St} {ops : Array Oper} {fr : Nat → AV} {d : Option Tmp} {ty : TypeId} {pos : String} {af : Array Edge} {g : Option (Nat × Bool)} {ox oy oi : Operand} {T T' E U : TypeId} {α : Type} {e : α → AV} {sz id off m cap : Nat}
end
end Go.Va
namespace Go.Va
end Go.Va
namespace Go.Va
section
variable {P : Program} {Ty : TypeId → Option TI} {σ σ0 : St} {O : List (Nat × List AV)} {A' : List Nat} {ops : Array Oper} {fr : Nat → AV} {d : Option Tmp} {ty : TypeId} {pos : String} {af : Array Edge} {g : Option (Nat × Bool)} {ox oy oi : Operand} {T T' E U : TypeId} {α : Type} {e : α → AV} {sz id m cap : Nat}
end
end Go.Va
