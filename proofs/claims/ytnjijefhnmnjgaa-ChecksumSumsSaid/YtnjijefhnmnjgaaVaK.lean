/- An operation as a whole. -/
import Derived.Test.YtnjijefhnmnjgaaVaJ
import Derived.ChangeKeysEq
import Derived.Laws.StructEq
namespace Go.Va
open Go Go.RowKit
set_option linter.unusedVariables false
set_option linter.unusedSimpArgs false
section
variable {P : Program} {Ty : TypeId → Option TI} {w0 : World} {G : Ghost} {w : World} {σ : St}

def anil : AV → Option AV
  | .ref id off => some (.ref id off)
  | .fptr x off => some (.fptr x off)
  | .fn (.func f) a b => some (.fn (.func f) a b)
  | _ => none
def amkI (Ty : TypeId → Option TI) (T : TypeId) (x : AV) : Option AV :=
  match tdOf Ty T with
  | .other => none
  | .iface => none
  | _ => some (.iface T x)
def aext (x : AV) (i : Nat) : Option AV :=
  match x with
  | .tup vs => vs[i]?
  | _ => none
def pairO (a : Option AV) (σ : St) : Option (AV × St) := match a with | some a => some (a, σ) | none => none
def apick (c a b : AV) : Option AV := match c with | .bool true => some a | .bool false => some b | _ => none
/-- Whole numbers, all of one kind. -/
def intsOf (k : IntKind) : List AV → Option (List Int)
  | [] => some []
  | .int k' n :: r => if k' = k then (match intsOf k r with | some l => some (n :: l) | none => none) else none
  | _ :: _ => none
theorem intsOf_rel {k : IntKind} : ∀ {as : List AV} {l : List Int} {vs : List Value}, RelL G vs as → intsOf k as = some l → vs = l.map (Value.int k)
  | [], l, vs, hr, h => by
    simp only [intsOf, Option.some.injEq] at h
    subst h
    have := hr.len
    cases vs with
    | nil => rfl
    | cons => simp at this
  | a :: as, l, vs, hr, h => by
    cases vs with
    | nil => have := hr.len; simp at this
    | cons v vs =>
      have h0 := hr.at_ 0 v a rfl rfl
      have ht : RelL G vs as := ⟨by have := hr.len; simpa using this, fun i v a h1 h2 => hr.at_ (i + 1) v a (by simpa using h1) (by simpa using h2)⟩
      cases a with
      | int k' n =>
        simp only [intsOf] at h
        split at h
        case isFalse => cases h
        rename_i hk
        subst hk
        split at h
        case h_2 => cases h
        rename_i l' hl
        cases h
        cases h0
        rw [intsOf_rel ht hl]
        rfl
      | _ => simp [intsOf] at h
/-- Arrays of whole numbers side by side. -/
def aeqAgg (Ty : TypeId → Option TI) (op : BinOp) (t : TypeId) (a b : List AV) : Option AV :=
  match tdOf Ty t with
  | .arr n e => match tdOf Ty e with
    | .int k => if szOf Ty e = 1 then (match intsOf k a, intsOf k b with | some l, some m => if l.length = n ∧ m.length = n then aeq op (decide (l = m)) else none | _, _ => none) else none
    | _ => none
  | _ => none
def abin' (Ty : TypeId → Option TI) (op : BinOp) (t : TypeId) (ox oy : Operand) (x y : AV) : Option AV :=
  match x, y with
  | .agg a, .agg b => aeqAgg Ty op t a b
  | x, y => abin Ty op t ox oy x y
theorem eqItems_ints {e : TypeId} {k k' : IntKind} (hu : P.underlying e = some (.int k')) (d : Nat) (l m : List Int) (hl : l.length = m.length) : ∀ (is : List Nat), (∀ j ∈ is, j < l.length) →
    (Op.eqItems (d + 1) e 1 (l.map (Value.int k)).toArray (m.map (Value.int k)).toArray is).run P w = .ok (decide (∀ j ∈ is, l[j]? = m[j]?)) w
  | [], _ => by simp [Op.eqItems]
  | j :: is, hj => by
    have h0 := hj j (by simp)
    have p (l : List Int) (h0 : j < l.length) : (part e (l.map (Value.int k)).toArray (j * 1)).run P w = .ok (.int k (l.getD j 0)) w := by
      simp [part, isAgg, run_underlying hu, h0, List.getD_eq_getElem?_getD]
    simp only [Op.eqItems, Sem.run_bind, p l h0, p m (by omega), Result.andThen_ok, run_equalIn_int w d e k k' _ _ hu]
    have e1 : l[j]? = some (l.getD j 0) := by simp [List.getD_eq_getElem?_getD, h0]
    have e2 : m[j]? = some (m.getD j 0) := by simp [List.getD_eq_getElem?_getD, show j < m.length by omega]
    by_cases he : l.getD j 0 = m.getD j 0
    · simp only [he, beq_self_eq_true, Bool.not_true, Bool.false_eq_true, if_false]
      rw [eqItems_ints hu d l m hl is (fun j h => hj j (by simp [h]))]
      congr 1
      simp only [List.mem_cons, forall_eq_or_imp, e1, e2, he, true_and]
    · have : (l.getD j 0 == m.getD j 0) = false := by simpa using he
      simp only [this, Bool.not_false, if_true, Sem.run_pure]
      congr 1
      symm
      simp only [decide_eq_false_iff_not]
      intro h
      have := h j (by simp)
      rw [e1, e2] at this
      exact he (by simpa using this)
theorem abin'_sound (hT : TyOk P Ty) (op : BinOp) (t : TypeId) (ox oy : Operand) {x y : AV} {vx vy : Value} (hx : Rel G vx x) (hy : Rel G vy y) {a : AV} (h : abin' Ty op t ox oy x y = some a) :
    ∃ v, ((do eqGuard op t ox oy vx vy; binOp op t vx vy : Sem Value)).run P w = .ok v w ∧ Rel G v a := by
  unfold abin' at h
  split at h
  case h_2 => exact abin_sound hT op t ox oy hx hy h
  rename_i ca cb
  unfold aeqAgg at h
  split at h
  case h_2 => cases h
  rename_i n e hd
  split at h
  case h_2 => cases h
  rename_i k he
  split at h
  case isFalse => cases h
  rename_i hs
  split at h
  case h_2 => cases h
  rename_i l m hl hm
  split at h
  case isFalse => cases h
  rename_i hlen
  have hu := tdOf_ok hT hd (by simp)
  have hue := tdOf_ok hT he (by simp)
  simp only [TdOk] at hu hue
  have hsome : (Ty e).isSome = true := by
    unfold tdOf at he
    split at he
    · rename_i h; rw [h]; rfl
    · cases he
  obtain ⟨ti, hi, hsz⟩ := szOf_info hT hsome
  cases hx with
  | agg vs _ hvl hv => 
    cases hy with
    | agg us _ hul hu' =>
      have e1 : vs.toList = l.map (Value.int k) := intsOf_rel ⟨by simpa using hvl, fun i v a h1 h2 => hv i v a (by simpa using h1) h2⟩ hl
      have e2 : us.toList = m.map (Value.int k) := intsOf_rel ⟨by simpa using hul, fun i v a h1 h2 => hu' i v a (by simpa using h1) h2⟩ hm
      have e1' : vs = (l.map (Value.int k)).toArray := by rw [← e1]
      have e2' : us = (m.map (Value.int k)).toArray := by rw [← e2]
      subst e1'
      subst e2'
      have heq : (Op.equalIn 10000 t (.agg (l.map (Value.int k)).toArray) (.agg (m.map (Value.int k)).toArray)).run P w = .ok (decide (l = m)) w := by
        rw [show (10000 : Nat) = 9998 + 1 + 1 from rfl, run_equalIn_array w (9998 + 1) _ _ hu hi, show P.cellsOf e = 1 by simp [Program.cellsOf, hi, hsz, hs], eqItems_ints (w := w) hue 9998 l m (by omega) _ (fun j hj => by simp at hj; omega)]
        congr 1
        rw [decide_eq_decide]
        constructor
        · intro h
          refine List.ext_getElem? fun i => ?_
          by_cases hin : i < n
          · exact h i (by simpa using hin)
          · rw [List.getElem?_eq_none (by omega), List.getElem?_eq_none (by omega)]
        · rintro rfl _ _; rfl
      have hg : (eqGuard op t ox oy (.agg (l.map (Value.int k)).toArray) (.agg (m.map (Value.int k)).toArray)).run P w = .ok () w := by
        refine run_eqGuard_agg w op t ox oy _ _ ?_
        have : P.depth = (2 * (P.types.size + Made.depth)) + 1 + 1 := rfl
        rw [this]
        simp [Program.eqGuardType, hu, hue]
      cases op <;> simp only [aeq, reduceCtorEq] at h
      case eql => cases h; exact ⟨.bool (decide (l = m)), by simp only [Sem.run_bind, hg, Result.andThen_ok, run_eql_struct, heq], .bool _⟩
      case neq => cases h; exact ⟨.bool (!decide (l = m)), by simp only [Sem.run_bind, hg, Result.andThen_ok, run_neq_struct, heq], .bool _⟩
/-- What an operation does (calls of Go functions apart). mu: what it makes is a variable. -/
def aop (Ty : TypeId → Option TI) (mu : Bool) (o : Oper) (ev : Operand → AV) (σ : St) : Option (AV × St) :=
  match o.op with
  | .move x => some (ev x, σ)
  | .assign x => some (ev x, σ)
  | .pick c a b => pairO (apick (ev c) (ev a) (ev b)) σ
  | .alloc T => aalloc Ty T σ
  | .box _ x => abox mu (ev x) σ
  | .build T ps => pairO (abuild Ty T (ps.toList.map fun p => (p.1, ev p.2))) σ
  | .buildSlice T n ps => pairO (abuildSlice Ty T n (ps.toList.map fun p => (p.1, ev p.2))) σ
  | .load T a => pairO (aload Ty T (ev a) σ) σ
  | .store T a x => match astore Ty T (ev a) (ev x) σ with | some σ' => some (.junk, σ') | none => none
  | .nilCheck x => pairO (anil (ev x)) σ
  | .binOp op T x y _ => pairO (abin' Ty op T x y (ev x) (ev y)) σ
  | .unOp op _ x => pairO (aun op (ev x)) σ
  | .convert s d x => match aconv Ty s d (ev x) with | some a => some (a, σ) | none => pairO (aconvM Ty s d (ev x)) σ
  | .sliceToArrayPointer T x => pairO (aarrAt Ty T (ev x)) σ
  | .makeInterface T x => pairO (amkI Ty T (ev x)) σ
  | .makeFunc f a b => some (.fn f (a.toList.map ev) (b.toList.map ev), σ)
  | .makeSlice T l c => amake Ty mu T (ev l) (ev c) σ
  | .slice T x lo hi none => pairO (aslice Ty T (ev x) (lo.map ev) (hi.map ev) σ) σ
  | .fieldAddr T x f => pairO (afieldAddr Ty T (ev x) f) σ
  | .field T x f => pairO (afield Ty T (ev x) f) σ
  | .indexAddr T x i => pairO (aindexAddr Ty T (ev x) (ev i)) σ
  | .index T x i => pairO (aindex Ty T (ev x) (ev i)) σ
  | .extract x i => pairO (aext (ev x) i) σ
  | .call c => match c.callee, c.args.toList, c.argTypes.toList with
    | .builtin .len, [x], T :: _ => pairO (alen Ty T (ev x)) σ
    | .builtin .append, [x, y], [T, U] => aappend Ty T U (ev x) (ev y) σ
    | _, _, _ => none
  | _ => none

/-- What soundness of an operation says. -/
def OpOk (P : Program) (w0 : World) (G : Ghost) (w : World) (o : Oper) (ρ : Operand → Value) (a : AV) (σ' : St) : Prop :=
  ∃ v w' G', G.Le G' ∧ Inv w0 G' w' σ' ∧ Rel G' v a ∧ ((execOp ρ o).run P w = .ok (.value v) w' ∨ ((execOp ρ o).run P w = .ok .skip w' ∧ v = undef))
theorem OpOk.value {o : Oper} {ρ : Operand → Value} {a : AV} {σ' : St} {v : Value} {w' : World} {G' : Ghost} (h : (execOp ρ o).run P w = .ok (.value v) w') (hG : G.Le G') (hI : Inv w0 G' w' σ') (hr : Rel G' v a) : OpOk P w0 G w o ρ a σ' :=
  ⟨v, w', G', hG, hI, hr, .inl h⟩
theorem relO_map {ρ : Operand → Value} {ev : Operand → AV} (h : ∀ x, Rel G (ρ x) (ev x)) : ∀ o : Option Operand, RelO G (o.map ρ) (o.map ev)
  | none => .none
  | some x => .some (h x)
theorem relArr {ρ : Operand → Value} {ev : Operand → AV} (h : ∀ x, Rel G (ρ x) (ev x)) (xs : Array Operand) : RelL G (xs.map ρ).toList (xs.toList.map ev) :=
  ⟨by simp, fun i v a h1 h2 => by
    rw [Array.toList_map, List.getElem?_map] at h1
    rw [List.getElem?_map] at h2
    cases hx : xs.toList[i]? with
    | none => rw [hx] at h1; cases h1
    | some x => rw [hx] at h1 h2; cases h1; cases h2; exact h x⟩
theorem pairO_some {x : Option AV} {a : AV} {σ' : St} (h : pairO x σ = some (a, σ')) : x = some a ∧ σ' = σ := by
  unfold pairO at h
  split at h
  · simp at h; exact ⟨by rw [h.1], h.2.symm⟩
  · cases h

theorem aop_sound (hT : TyOk P Ty) (hI : Inv w0 G w σ) {mu : Bool} {o : Oper} {ρ : Operand → Value} {ev : Operand → AV} (hρ : ∀ x, Rel G (ρ x) (ev x)) {a : AV} {σ' : St} (h : aop Ty mu o ev σ = some (a, σ')) : OpOk P w0 G w o ρ a σ' := by
  unfold aop at h
  split at h
  · rename_i x ho
    simp at h; obtain ⟨rfl, rfl⟩ := h
    exact .value (by simp [execOp, ho]) (.refl G) hI (hρ x)
  · rename_i x ho
    simp at h; obtain ⟨rfl, rfl⟩ := h
    exact .value (by simp [execOp, ho]) (.refl G) hI (hρ x)
  · rename_i c x y ho
    obtain ⟨h', rfl⟩ := pairO_some h; replace h := h'
    unfold apick at h
    have hc := hρ c
    split at h
    · rename_i he
      rw [he] at hc
      cases hcv : ρ c <;> rw [hcv] at hc <;> cases hc
      simp at h; subst h
      exact .value (by simp [execOp, ho, hcv, asBool]) (.refl G) hI (hρ x)
    · rename_i he
      rw [he] at hc
      cases hcv : ρ c <;> rw [hcv] at hc <;> cases hc
      simp at h; subst h
      exact .value (by simp [execOp, ho, hcv, asBool]) (.refl G) hI (hρ y)
    · cases h
  · rename_i T ho
    obtain ⟨v, w', G', h1, h2, h3, h4⟩ := aalloc_sound hT hI h (.tuple #[])
    exact .value (by simp [execOp, ho, h1]) h2 h3 h4
  · rename_i T x ho
    obtain ⟨v, w', G', h1, h2, h3, h4⟩ := abox_sound (P := P) (T := T) hI (hρ x) h
    exact .value (by simp [execOp, ho, h1]) h2 h3 h4
  · rename_i T ps ho
    obtain ⟨h', rfl⟩ := pairO_some h; replace h := h'
    have hp := partsRel_map hρ ps.toList
    obtain ⟨v, h1, h2⟩ := abuild_sound (w := w) hT (ps := ps.map fun p => (p.1, ρ p.2)) (by simpa using hp) h
    exact .value (by simp [execOp, ho, h1]) (.refl G) hI h2
  · rename_i T n ps ho
    obtain ⟨h', rfl⟩ := pairO_some h; replace h := h'
    have hp := partsRel_map hρ ps.toList
    obtain ⟨v, w', G', h1, h2, h3, h4⟩ := abuildSlice_sound hT hI (ps := ps.map fun p => (p.1, ρ p.2)) (by simpa using hp) h
    exact .value (by simp [execOp, ho, h1]) h2 h3 h4
  · rename_i T x ho
    obtain ⟨h', rfl⟩ := pairO_some h; replace h := h'
    obtain ⟨v, h1, h2⟩ := aload_sound hT hI (hρ x) h
    exact .value (by simp [execOp, ho, h1]) (.refl G) hI h2
  · rename_i T x y ho
    split at h
    case h_2 => cases h
    rename_i σ1 hs
    simp at h; obtain ⟨rfl, rfl⟩ := h
    obtain ⟨w', h1, h2⟩ := astore_sound hT hI (hρ x) (hρ y) hs
    exact ⟨undef, w', G, .refl G, h2, .junk _, .inr ⟨by simp [execOp, ho, h1], rfl⟩⟩
  · rename_i x ho
    obtain ⟨h', rfl⟩ := pairO_some h; replace h := h'
    have hx := hρ x
    unfold anil at h
    split at h
    · rename_i he
      simp at h; subst h
      rw [he] at hx
      cases hxv : ρ x <;> rw [hxv] at hx <;> cases hx
      rename_i b hl
      exact .value (by simp [execOp, ho, hxv]) (.refl G) hI (.ref _ _ b hl)
    · rename_i he
      simp at h; subst h
      rw [he] at hx
      cases hxv : ρ x <;> rw [hxv] at hx <;> cases hx
      rename_i hf hr
      exact .value (by simp [execOp, ho, hxv]) (.refl G) hI (.fptr _ _ _ _ _ hf hr)
    · rename_i he
      simp at h; subst h
      rw [he] at hx
      cases hxv : ρ x <;> rw [hxv] at hx <;> cases hx
      rename_i h1 h2 h3 h4
      exact .value (by simp [execOp, ho, hxv]) (.refl G) hI (.fn _ _ _ _ _ h1 h3 h2 h4)
    · cases h
  · rename_i op T x y U ho
    obtain ⟨h', rfl⟩ := pairO_some h; replace h := h'
    obtain ⟨v, h1, h2⟩ := abin'_sound (w := w) hT op T x y (hρ x) (hρ y) h
    refine .value (w' := w) ?_ (.refl G) hI h2
    simp only [execOp, ho]
    simp only [Sem.run_bind] at h1 ⊢
    rw [h1]; rfl
  · rename_i op T x ho
    obtain ⟨h', rfl⟩ := pairO_some h; replace h := h'
    obtain ⟨v, h1, h2⟩ := aun_sound (P := P) (w := w) op (hρ x) h
    exact .value (by simp [execOp, ho, h1]) (.refl G) hI h2
  · rename_i s d x ho
    split at h
    · rename_i a' ha
      simp at h; obtain ⟨rfl, rfl⟩ := h
      obtain ⟨v, h1, h2⟩ := aconv_sound (w := w) hT s d (hρ x) ha
      exact .value (by simp [execOp, ho, h1]) (.refl G) hI h2
    · obtain ⟨h', rfl⟩ := pairO_some h; replace h := h'
      obtain ⟨v, w', G', h1, h2, h3, h4⟩ := aconvM_sound hT hI (hρ x) h
      exact .value (by simp [execOp, ho, h1]) h2 h3 h4
  · rename_i T x ho
    obtain ⟨h', rfl⟩ := pairO_some h; replace h := h'
    obtain ⟨v, h1, h2⟩ := aarrAt_sound (w := w) hT (hρ x) h
    exact .value (by simp [execOp, ho, h1]) (.refl G) hI h2
  · rename_i T x ho
    obtain ⟨h', rfl⟩ := pairO_some h; replace h := h'
    unfold amkI at h
    split at h
    · cases h
    · cases h
    · rename_i hn1 hn2
      simp at h; subst h
      refine .value (w' := w) (v := .iface T (ρ x)) ?_ (.refl G) hI (.iface _ _ _ (hρ x))
      have hd : TdOk P T (tdOf Ty T) := tdOf_ok hT rfl hn1
      cases hd' : tdOf Ty T <;> rw [hd'] at hd <;> simp only [TdOk] at hd
      case struct fs => obtain ⟨f, hu, _⟩ := hd; simp [execOp, ho, Instr.makeInterface, run_underlying hu]
      case iface => exact absurd hd' hn2
      case func => obtain ⟨p, r, v, hu⟩ := hd; simp [execOp, ho, Instr.makeInterface, run_underlying hu]
      all_goals simp [execOp, ho, Instr.makeInterface, run_underlying hd]
  · rename_i f x y ho
    simp at h; obtain ⟨rfl, rfl⟩ := h
    have h1 := relArr hρ x
    have h2 := relArr hρ y
    refine .value (w' := w) (v := .func f (x.map ρ) (y.map ρ)) (by simp [execOp, ho, Instr.makeFunc]) (.refl G) hI ?_
    exact .fn f _ _ _ _ (by simp) (by simp) (fun i v a e1 e2 => h1.at_ i v a (by simpa using e1) (by simpa using e2)) (fun i v a e1 e2 => h2.at_ i v a (by simpa using e1) (by simpa using e2))
  · rename_i T x y ho
    obtain ⟨v, w', G', h1, h2, h3, h4⟩ := amake_sound hT hI (hρ x) (hρ y) h
    exact .value (by simp [execOp, ho, h1]) h2 h3 h4
  · rename_i T x lo hi ho
    obtain ⟨h', rfl⟩ := pairO_some h; replace h := h'
    obtain ⟨v, h1, h2⟩ := aslice_sound (w := w) hT (hρ x) (relO_map hρ lo) (relO_map hρ hi) h
    exact .value (by simp [execOp, ho, h1]) (.refl G) hI h2
  · rename_i T x f ho
    obtain ⟨h', rfl⟩ := pairO_some h; replace h := h'
    obtain ⟨v, h1, h2⟩ := afieldAddr_sound (w := w) hT (hρ x) h
    exact .value (by simp [execOp, ho, h1]) (.refl G) hI h2
  · rename_i T x f ho
    obtain ⟨h', rfl⟩ := pairO_some h; replace h := h'
    obtain ⟨v, h1, h2⟩ := afield_sound (w := w) hT (hρ x) h
    exact .value (by simp [execOp, ho, h1]) (.refl G) hI h2
  · rename_i T x y ho
    obtain ⟨h', rfl⟩ := pairO_some h; replace h := h'
    obtain ⟨v, h1, h2⟩ := aindexAddr_sound (w := w) hT (hρ x) (hρ y) h
    exact .value (by simp [execOp, ho, h1]) (.refl G) hI h2
  · rename_i T x y ho
    obtain ⟨h', rfl⟩ := pairO_some h; replace h := h'
    obtain ⟨v, h1, h2⟩ := aindex_sound (w := w) hT (hρ x) (hρ y) h
    exact .value (by simp [execOp, ho, h1]) (.refl G) hI h2
  · rename_i x i ho
    obtain ⟨h', rfl⟩ := pairO_some h; replace h := h'
    have hx := hρ x
    unfold aext at h
    split at h
    case h_2 => cases h
    rename_i vs he
    rw [he] at hx
    cases hxv : ρ x <;> rw [hxv] at hx <;> cases hx
    rename_i us hl hr
    obtain ⟨u, hu⟩ : ∃ u, us[i]? = some u := ⟨_, Array.getElem?_eq_getElem (by rw [hl]; exact (List.getElem?_eq_some_iff.1 h).1)⟩
    exact .value (by simp [execOp, ho, hxv, Instr.extract, hu]) (.refl G) hI (hr i u a hu h)
  · rename_i c ho
    split at h
    · rename_i x T ts hc hargs hts
      obtain ⟨h', rfl⟩ := pairO_some h; replace h := h'
      obtain ⟨callee, args, argTypes⟩ := c
      simp only at hc hargs hts
      obtain ⟨v, h1, h2⟩ := alen_sound (w := w) (ts := ts) (ty := o.type) hT (hρ x) h
      have ha : args = #[x] := by cases args; simp at hargs; rw [hargs]
      have ht : argTypes = (T :: ts).toArray := by cases argTypes; simp at hts; rw [hts]; 
      subst hc; subst ha; subst ht
      exact .value (by simp [execOp, ho, resolve, invoke, builtin, h1]) (.refl G) hI h2
    · rename_i x y T U hc hargs hts
      obtain ⟨callee, args, argTypes⟩ := c
      simp only at hc hargs hts
      obtain ⟨v, w', G', h1, h2, h3, h4⟩ := aappend_sound hT hI T U o.type (hρ x) (hρ y) h
      have ha : args = #[x, y] := by cases args; simp at hargs; rw [hargs]
      have ht : argTypes = #[T, U] := by cases argTypes; simp at hts; rw [hts]
      subst hc; subst ha; subst ht
      exact .value (by simp [execOp, ho, resolve, invoke, builtin, h1]) h2 h3 h4
    · cases h
  · cases h

/-- It looks at its operands alone. -/
theorem aop_congr {mu : Bool} {o : Oper} {ev ev' : Operand → AV} (h : ∀ x ∈ o.op.operands, ev x = ev' x) : aop Ty mu o ev σ = aop Ty mu o ev' σ := by
  unfold aop
  cases ho : o.op <;> rw [ho] at h <;> simp only [Op.operands] at h <;> (try simp only [])
  case move x => rw [h x (by simp)]
  case assign x => rw [h x (by simp)]
  case pick c x y => rw [h c (by simp), h x (by simp), h y (by simp)]
  case box T x => rw [h x (by simp)]
  case build T ps =>
    congr 2
    exact List.map_congr_left fun p hp => by rw [h p.2 (by simp; exact ⟨p.1, by simpa using hp⟩)]
  case buildSlice T n ps =>
    congr 2
    exact List.map_congr_left fun p hp => by rw [h p.2 (by simp; exact ⟨p.1, by simpa using hp⟩)]
  case load T x => rw [h x (by simp)]
  case store T x y => rw [h x (by simp), h y (by simp)]
  case nilCheck x => rw [h x (by simp)]
  case binOp op T x y U => rw [h x (by simp), h y (by simp)]
  case unOp op T x => rw [h x (by simp)]
  case convert s d x => rw [h x (by simp)]
  case sliceToArrayPointer T x => rw [h x (by simp)]
  case makeInterface T x => rw [h x (by simp)]
  case makeFunc f x y =>
    rw [List.map_congr_left fun z hz => h z (by simp; exact .inl (by simpa using hz)), List.map_congr_left fun z hz => h z (by simp; exact .inr (by simpa using hz))]
  case makeSlice T x y => rw [h x (by simp), h y (by simp)]
  case slice T x lo hi mx =>
    cases mx with
    | some _ => rfl
    | none =>
      simp only []
      rw [h x (by simp)]
      have e1 : lo.map ev = lo.map ev' := by cases lo with | none => rfl | some y => simp [h y (by simp)]
      have e2 : hi.map ev = hi.map ev' := by cases hi with | none => rfl | some y => simp [h y (by simp)]
      rw [e1, e2]
  case fieldAddr T x f => rw [h x (by simp)]
  case field T x f => rw [h x (by simp)]
  case indexAddr T x y => rw [h x (by simp), h y (by simp)]
  case index T x y => rw [h x (by simp), h y (by simp)]
  case extract x i => rw [h x (by simp)]
  case call c =>
    have hm : ∀ x ∈ c.args.toList, ev x = ev' x := fun x hx => h x (by
      unfold Call.operands
      exact Array.mem_append.2 (.inr (Array.mem_toList_iff.1 hx)))
    split
    · rename_i x T ts hc ha ht
      rw [hm x (by rw [ha]; exact List.mem_cons_self)]
    · rename_i x y T U hc ha ht
      rw [hm x (by rw [ha]; exact List.mem_cons_self), hm y (by rw [ha]; exact List.mem_cons_of_mem _ List.mem_cons_self)]
    · rfl
end
end Go.Va
