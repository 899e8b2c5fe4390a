/- Nothing that has ended is got; behind a sweep there is nothing that has ended, and all else is as it was. (part 3 of 8) -/
import Derived.Test.YtggeboakilalhaaDoorKRamEnds2
import Derived.Carry
import Derived.ChangeArms
import Derived.ChangeOld
import Derived.KernelRfl
import Derived.Laws.RangeString
import Derived.Lib.AppendZeros
import Derived.MapKept
import Derived.Scope
import Derived.Stop.Asserts
import Derived.Test.YtggeboakilalhaaDoorProg
import Derived.WideShapes
namespace Go.Va
open Go Go.RowKit
set_option linter.unusedVariables false
set_option linter.unusedSimpArgs false

def argG (w : World) : Ghost := ⟨fun b o => match w.cell? ⟨b, o, none⟩ with | some v => if v.oneCell' = true then some v else none | none => none, fun _ => none, fun _ => none, 0, fun _ => false, fun _ => 0⟩
theorem argG_fz {w : World} {b o : Nat} {v : Value} (h : w.cell? ⟨b, o, none⟩ = some v) (h1 : v.oneCell' = true) : (argG w).fz b o = some v := by
  simp [argG, h, h1]
theorem argG_inv (w : World) {gl : List (Addr × Value)} (hgl : ∀ p ∈ gl, w.cell? p.1 = some p.2) : Inv w (argG w) w ⟨[], [], gl⟩ := by
  refine ⟨Below.refl _ _, fun b o v h => ?_, fun id c h => by simp at h, fun id b o c h => by simp [argG] at h, fun id b h => by simp [argG] at h, fun id b h => by simp [argG] at h, fun i j b c d h => by simp [argG] at h, fun t b top en h => by simp at h, fun t x h => by simp [argG] at h, fun t t' x x' h => by simp at h, Nat.le_refl _, fun b h => by simp [argG] at h, hgl, fun id a h => by simp at h⟩
  simp only [argG] at h
  split at h
  case h_2 => cases h
  rename_i u hu
  split at h
  case isFalse => cases h
  rename_i h1
  cases h
  exact ⟨hu, h1⟩
theorem ACall.said {P : Program} {n : FuncId} {args : List AV} {vs : Array Value} {w : World} {gl : List (Addr × Value)} (hgl : ∀ p ∈ gl, w.cell? p.1 = some p.2) (hc : ACall P n args ⟨[], [], gl⟩ (fun a τ => a = eB true ∧ τ = ⟨[], [], gl⟩)) (hr : RelL (argG w) vs.toList args) :
    Calls P n vs w fun e w' => e = .returned (.bool true) ∧ Below w.heap.size w w' :=
  (hc.2 w (argG w) w vs (argG_inv w hgl) hr).mono fun e w' ⟨v, a, σ', G', h1, _, h3, h4, h5, _⟩ => by
    subst h5
    cases h4
    exact ⟨h1, h3.below⟩

def Opens (P : Program) (t : TypeId) {α : Type} (e : α → AV) (wf : α → Prop) : Prop :=
  ∀ {H : Type} (enc : TypeId × Value → H) (w : World) (fuel : Nat) (cs : List Value) (x : DataW H × List MemPlace), DataW.trod enc P w 0 (fun _ => true) true fuel t cs = some x → ∃ y : α, wf y ∧ RelL (argG w) cs (e y).cells ∧ ∀ v ∈ cs, v.oneCell' = true
def wfI (k : IntKind) (n : Int) : Prop := k.min ≤ n ∧ n ≤ k.max
def wfL {α : Type} (wf : α → Prop) (l : List α) : Prop := l.length ≤ maxLen ∧ ∀ x ∈ l, wf x
def wfS (s : List (BitVec 8)) : Prop := s.length ≤ maxLen
def wfT {α : Type} (_ : α) : Prop := True
section
variable {P : Program} {Ty : TypeId → Option TI} {t E : TypeId}
theorem wf_iff {k : IntKind} {n : Int} (h : (Lit.int k n).wf = true) : wfI k n := by
  simp only [Lit.wf, Bool.and_eq_true, decide_eq_true_eq] at h; exact h
theorem opens_i {k : IntKind} (h : P.underlying t = some (.int k)) : Opens P t (eK k) (wfI k) := by
  intro H enc w fuel cs x hx
  obtain ⟨n, rfl, _, hw⟩ := DataW.trod_int h hx
  exact ⟨n, wf_iff hw, (RelL.nil _).cons (.int _ _), by simp [Value.oneCell']⟩
theorem opens_i64 (h : P.underlying t = some (.int .i64)) : Opens P t eI (wfI .i64) := opens_i h
theorem opens_u {k : IntKind} {m : Nat} (hs : k.signed = false) (hb : k.bits = m) (h : P.underlying t = some (.int k)) : Opens P t (@eU k m) wfT := by
  subst hb
  intro H enc w fuel cs x hx
  obtain ⟨n, rfl, _, hw⟩ := DataW.trod_int h hx
  have hw := wf_iff hw
  simp only [wfI, IntKind.min, IntKind.max, hs, Bool.false_eq_true, if_false] at hw
  refine ⟨BitVec.ofInt k.bits n, trivial, ?_, by simp [Value.oneCell']⟩
  have e : ((BitVec.ofInt k.bits n).toNat : Int) = n := by
    rw [BitVec.toNat_ofInt]
    have h2 : (2 : Int) ^ k.bits = ((2 ^ k.bits : Nat) : Int) := by simp
    rw [h2] at hw
    rw [Int.emod_eq_of_lt hw.1 (by omega), Int.toNat_of_nonneg hw.1]
  show RelL _ _ [AV.int k ((BitVec.ofInt k.bits n).toNat : Int)]
  rw [e]
  exact (RelL.nil _).cons (.int _ _)
theorem opens_s (h : P.underlying t = some .string) : Opens P t eS wfS := by
  intro H enc w fuel cs x hx
  obtain ⟨s, rfl, _, hs⟩ := DataW.trod_string h hx
  refine ⟨s.data.toList.map (·.toBitVec), ?_, ?_, by simp [Value.oneCell']⟩
  · simpa [wfS] using hs
  · show RelL _ _ [AV.str _]
    rw [mkB_of]
    exact (RelL.nil _).cons (.str _)
theorem cellsOf_ty (hT : TyOk P Ty) {i : TI} (h : Ty t = some i) : P.cellsOf t = i.sz := by
  obtain ⟨_, ti, z, h1, h2, _⟩ := hT t i h
  simp [Program.cellsOf, h1, h2]
theorem cellsOf_sz (hT : TyOk P Ty) {sz : Nat} (h : szOf Ty t = sz) (h0 : sz ≠ 0) : P.cellsOf t = sz := by
  unfold szOf at h
  split at h
  · rename_i i hi; rw [cellsOf_ty hT hi, h]
  · exact absurd h.symm h0
theorem opens_l (hT : TyOk P Ty) {sz : Nat} {α : Type} {e : α → AV} {wf : α → Prop} (h : P.underlying t = some (.slice E)) (he : Enc Ty E sz e) (ho : Opens P E e wf) : Opens P t (eL sz e) (wfL wf) := by
  intro H enc w fuel cs x hx
  rcases DataW.trod_slice h hx with ⟨rfl, _⟩ | ⟨a, len, cap, elems, rest, n, _, rfl, _, _, hlc, hcm, hel, hat, _, _⟩
  · exact ⟨[], ⟨Nat.zero_le _, fun x hx => by cases hx⟩, (RelL.nil _).cons (.sl0 none 0 .no sz (Nat.zero_le _) (.inl rfl)), by simp [Value.oneCell']⟩
  · rw [cellsOf_sz hT he.ty he.pos] at hat
    have key : ∀ i, i < len → ∃ cs' y, w.cells? 0 (a.add (i * sz)) sz = some cs' ∧ wf y ∧ RelL (argG w) cs' (e y).cells ∧ ∀ v ∈ cs', v.oneCell' = true := fun i hi => by
      have h1 := hat i hi
      rw [List.getElem?_eq_getElem (by omega)] at h1
      obtain ⟨cs', h2, h3⟩ := Option.bind_eq_some_iff.1 h1
      obtain ⟨y, h4, h5, h6⟩ := ho enc w n cs' _ h3
      exact ⟨cs', y, h2, h4, h5, h6⟩
    -- the values, one by one
    have all : ∀ m, m ≤ len → ∃ ys : List α, ys.length = m ∧ (∀ y ∈ ys, wf y) ∧ ∀ (i : Nat) (y : α), ys[i]? = some y → ∃ cs', w.cells? 0 (a.add (i * sz)) sz = some cs' ∧ RelL (argG w) cs' (e y).cells ∧ ∀ v ∈ cs', v.oneCell' = true := by
      intro m
      induction m with
      | zero => exact fun _ => ⟨[], rfl, (fun y hy => by cases hy), fun i y hy => by simp at hy⟩
      | succ m ih =>
        intro hm
        obtain ⟨ys, h1, h2, h3⟩ := ih (by omega)
        obtain ⟨cs', y, k1, k2, k3, k4⟩ := key m (by omega)
        refine ⟨ys ++ [y], by simp [h1], fun z hz => ?_, fun i z hz => ?_⟩
        · rcases List.mem_append.1 hz with hz | hz
          · exact h2 z hz
          · simp at hz; subst hz; exact k2
        · rw [List.getElem?_append] at hz
          split at hz
          · exact h3 i z hz
          · rename_i hi
            have : i - ys.length = 0 := by
              rcases Nat.eq_zero_or_pos (i - ys.length) with h0 | h0
              · exact h0
              · rw [List.getElem?_eq_none (by simp; omega)] at hz; cases hz
            rw [this] at hz
            simp at hz
            subst hz
            rw [show i = m by omega]
            exact ⟨cs', k1, k3, k4⟩
    obtain ⟨ys, h1, h2, h3⟩ := all len (Nat.le_refl _)
    refine ⟨ys, ⟨by omega, h2⟩, (RelL.nil _).cons ?_, by simp [Value.oneCell']⟩
    have hz : ∀ z ∈ ys.map e, z.cells.length = sz := fun z hz => by obtain ⟨y, _, rfl⟩ := List.mem_map.1 hz; exact he.len y
    cases ys with
    | nil =>
      simp at h1
      subst h1
      exact .sl0 _ _ .no sz hcm (.inl rfl)
    | cons y0 ys0 =>
      have hsp : a.spot = none := by
        obtain ⟨cs', k1, _, _⟩ := h3 0 y0 rfl
        obtain ⟨_, k2, k3⟩ := World.cells?_some k1
        have := k3 0 (Nat.pos_of_ne_zero he.pos)
        rw [Nat.zero_mul] at this
        have e0 : (a.add 0).add 0 = a := by simp [Addr.add]
        rw [e0, List.getElem?_eq_getElem (by have := Nat.pos_of_ne_zero he.pos; omega)] at this
        exact World.cell?_spot this
      obtain ⟨b, o, sp⟩ := a
      simp only at hsp
      subst hsp
      have hl : ((y0 :: ys0).map e).length = len := by rw [List.length_map]; exact h1
      have hcell : ∀ (i : Nat) (z : AV) (j : Nat) (u : AV), ((y0 :: ys0).map e)[i]? = some z → z.cells[j]? = some u → ∃ v, w.cell? ⟨b, o + i * sz + j, none⟩ = some v ∧ v.oneCell' = true ∧ Rel (argG w) v u := by
        intro i z j u e1 e2
        rw [List.getElem?_map, Option.map_eq_some_iff] at e1
        obtain ⟨y, e1, rfl⟩ := e1
        obtain ⟨cs', k1, k2, k3⟩ := h3 i y e1
        obtain ⟨_, k4, k5⟩ := World.cells?_some k1
        obtain ⟨v, hv, hr⟩ := k2.get e2
        have hj : j < sz := by rw [← k4]; exact (List.getElem?_eq_some_iff.1 hv).1
        have := k5 j hj
        rw [Addr.add_lit, Addr.add_lit, hv] at this
        exact ⟨v, this, k3 v (List.mem_of_getElem? hv), hr⟩
      have key2 := Rel.sl (G := argG w) b o cap .no sz ((y0 :: ys0).map e) (fun i j => (w.cell? ⟨b, o + i * sz + j, none⟩).getD undef) (by rw [hl]; exact hlc) hcm hz (fun i z j u e1 e2 => by
        obtain ⟨v, k1, k2, k3⟩ := hcell i z j u e1 e2
        rw [k1]
        exact argG_fz k1 k2) (fun i z j u e1 e2 => by
        obtain ⟨v, k1, k2, k3⟩ := hcell i z j u e1 e2
        rw [k1]
        exact k3) trivial
      rw [hl] at key2
      exact key2
theorem rel_piece {G : Ghost} {cs : List Value} {o s : Nat} {a b : List AV} (h : RelL G ((cs.drop o).take s) a) (k : RelL G (cs.drop (o + s)) b) : RelL G (cs.drop o) (a ++ b) := by
  have := h.append k
  rw [← List.drop_drop, List.take_append_drop] at this
  exact this
theorem rel_end {G : Ghost} {cs : List Value} {n : Nat} (h : cs.length = n) : RelL G (cs.drop n) [] := by
  rw [List.drop_of_length_le (by omega)]; exact RelL.nil G
theorem one_piece {cs : List Value} {o s : Nat} (h : ∀ v ∈ (cs.drop o).take s, v.oneCell' = true) (k : ∀ v ∈ cs.drop (o + s), v.oneCell' = true) : ∀ v ∈ cs.drop o, v.oneCell' = true := by
  intro v hv
  rw [← List.take_append_drop s (cs.drop o), List.drop_drop] at hv
  rcases List.mem_append.1 hv with hv | hv
  · exact h v hv
  · exact k v hv
theorem one_end {cs : List Value} {n : Nat} (h : cs.length = n) : ∀ v ∈ cs.drop n, v.oneCell' = true := by
  rw [List.drop_of_length_le (by omega)]; intro v hv; cases hv
theorem opens_f {fs : Array Field} {α : Type} {e : α → AV} {wf : α → Prop} {H : Type} {enc : TypeId × Value → H} {w : World} {m : Nat} {cs : List Value} {xs : List (DataW H × List MemPlace)} (hx : ∀ (i : Nat) (f : Field), fs[i]? = some f → DataW.trod enc P w 0 (fun _ => true) true m f.type ((cs.drop f.offset).take (P.cellsOf f.type)) = xs[i]?) (hl : xs.length = fs.size)
    (i : Nat) {f : Field} {o s : Nat} (hf : fs[i]? = some f) (ht : Opens P f.type e wf) (ho : f.offset = o) (hs : P.cellsOf f.type = s) : ∃ y, wf y ∧ RelL (argG w) ((cs.drop o).take s) (e y).cells ∧ ∀ v ∈ (cs.drop o).take s, v.oneCell' = true := by
  subst ho; subst hs
  have h1 := hx i f hf
  have hi : i < fs.size := (Array.getElem?_eq_some_iff.1 hf).1
  rw [List.getElem?_eq_getElem (by omega)] at h1
  exact ht enc w m _ _ h1
theorem Opens.arg {α : Type} {e : α → AV} {wf : α → Prop} (ho : Opens P t e wf) {sz : Nat} (he : Enc Ty t sz e) (hd : TdOk P t (tdOf Ty t)) {H : Type} {enc : TypeId × Value → H} {w : World} {r : Reach} {b0 : Nat} {v : Value} {d : DataW H} {ps : List MemPlace} (hval : Value.okWide P w r b0 t v) (h : DataW.Trod enc P w 0 (fun _ => true) true t v d ps) : ∃ y : α, wf y ∧ Rel (argG w) v (e y) := by
  obtain ⟨fuel, hf⟩ := h
  obtain ⟨y, h1, h2, _⟩ := ho enc w fuel _ _ hf
  refine ⟨y, h1, ?_⟩
  cases ha : isAggTD (tdOf Ty t) with
  | true =>
    have : ∃ cs, v = .agg cs := by
      cases htd : tdOf Ty t <;> rw [htd] at ha hd <;> simp [isAggTD] at ha
      · simp only [TdOk] at hd
        simp only [Value.okWide, hd] at hval
        obtain ⟨cs, h, _⟩ := hval; exact ⟨cs, h⟩
      · simp only [TdOk] at hd
        obtain ⟨fs, hd, _⟩ := hd
        simp only [Value.okWide, hd] at hval
        obtain ⟨cs, h, _⟩ := hval; exact ⟨cs, h⟩
    obtain ⟨cs, rfl⟩ := this
    rw [he.agg ha y]
    exact mkAgg (by simpa [Value.cells] using h2)
  | false =>
    rw [he.one ha y] at h2
    have hne : ∀ cs, v ≠ .agg cs := by
      rintro cs rfl
      have hl := h2.len
      simp only [Value.cells, List.length_singleton] at hl
      cases htd : tdOf Ty t <;> rw [htd] at ha hd <;> simp [isAggTD] at ha <;> simp only [TdOk] at hd
      case iface => obtain ⟨ms, hd⟩ := hd; simp [Value.okWide, hd, Cell.okWide, Cell.ok] at hval
      case func => obtain ⟨ps, rs, vv, hd⟩ := hd; simp [Value.okWide, hd, Cell.okWide, Cell.ok] at hval
      all_goals simp [Value.okWide, hd, Cell.okWide, Cell.ok] at hval
    have hc : v.cells.toList = [v] := by cases v <;> first | rfl | exact absurd rfl (hne _)
    rw [hc] at h2
    exact h2.at_ 0 v (e y) rfl rfl
end
section
variable {P : Program} {Ty : TypeId → Option TI} {σ : St} {fr : Nat → AV}
theorem Inv.wko {w0 : World} {G : Ghost} {w : World} {σ : St} (h : Inv w0 G w σ) {id : Nat} {c c' : List AV} (hc : σ.objs[id]? = some c) (hsp : spcl c = false) (hw : WkL c c') : Inv w0 G w ⟨σ.objs.set id c', σ.opn, σ.gl⟩ := by
  have hlen : ∀ {a b : List AV}, WkL a b → a.length = b.length := by
    intro a b h
    induction h with
    | nil => rfl
    | cons _ _ ih => simp [ih]
  have hl := hlen hw
  have hlt := (List.getElem?_eq_some_iff.1 hc).1
  have key : ∀ (i : Nat) (d : List AV), (σ.objs.set id c')[i]? = some d → d ≠ [] → ∃ d', σ.objs[i]? = some d' ∧ d' ≠ [] ∧ (spcl d = false → spcl d' = false) ∧ WkL d' d := by
    intro i d hd hn
    rw [List.getElem?_set] at hd
    split at hd
    · rename_i he; subst he
      have hd' : c' = d := by
        first
          | exact Option.some.inj hd
          | (rw [if_pos hlt] at hd; exact Option.some.inj hd)
      subst hd'
      exact ⟨c, hc, fun h => by rw [h] at hl; exact hn (List.eq_nil_of_length_eq_zero hl.symm), fun _ => hsp, hw⟩
    · exact ⟨d, hd, hn, fun h => h, .refl d⟩
  refine ⟨h.below, h.fz, fun i d hd hn hs => ?_, fun i b o d hl' hd hn => ?_, h.loclt, fun i b hl' => by simpa using h.locdom i b hl', fun i j b d e hi hj hd he hn hn' => ?_, fun t b top en ho ht => ?_, h.tokdom, h.tokinj, h.nt, h.lit, h.gl, h.sp_to (.refl G) (fun _ _ _ h => h) (fun i a h1 h2 => by
      simp only at h1
      rw [List.getElem?_set] at h1
      split at h1
      · have e : c' = [a] := by
          first
            | exact Option.some.inj h1
            | (rw [if_pos (by omega)] at h1; exact Option.some.inj h1)
        obtain ⟨b, T, vs, e1, e2, e3, e4, e5, e6⟩ := h.loc id c hc (fun h0 => by rw [h0] at hl; rw [e] at hl; cases hl) hsp
        have hx := rell_nsp (hw.rel e4.rel)
        rw [e] at hx
        simp only [spcl] at hx
        rw [hx] at h2; cases h2
      · exact h1)⟩
  · obtain ⟨d', a1, a2, aq, a3⟩ := key i d hd hn
    obtain ⟨b, T, vs, e1, e2, e3, e4, e5, e6⟩ := h.loc i d' a1 a2 (aq hs)
    have hdl := hlen a3
    exact ⟨b, T, vs, e1, e2, e3, ⟨by rw [← hdl]; exact e4.le, by rw [← hdl]; exact a3.rel e4.rel⟩, e5, e6⟩
  · obtain ⟨d', a1, a2, _⟩ := key i d hd hn
    exact h.locfz i b o d' hl' a1 a2
  · obtain ⟨d', a1, a2, _⟩ := key i d hd hn
    obtain ⟨e', b1, b2, _⟩ := key j e he hn'
    exact h.locinj i j b d' e' hi hj a1 b1 a2 b2
  · obtain ⟨e1, e2, e3, e4⟩ := h.tok t b top en ho ht
    refine ⟨e1, e2, e3, fun i hi => ?_⟩
    have h0 := e4 i hi
    rw [List.getElem?_set]
    split
    · rename_i he; subst he
      rw [hc] at h0; cases h0
      have : c' = [] := List.eq_nil_of_length_eq_zero hl.symm
      subst this
      first | rfl | rw [if_pos hlt]
    · exact h0
end
end Go.Va
namespace Go.Va
open Go Go.RowKit
section
variable {P : Program} {Ty : TypeId → Option TI} {σ σ' : St} {fr : Nat → AV}
variable {d : Option Tmp} {ty : TypeId} {pos : String} {af : Array Edge} {g : Option (Nat × Bool)} {ox oy oi : Operand} {T T' E U : TypeId}
end
end Go.Va
namespace Go.Va
open Go Go.RowKit
set_option linter.unusedVariables false
set_option linter.unusedSimpArgs false
section
variable {P : Program} {Ty : TypeId → Option TI} {σ σ0 : St} {O : List (Nat × List AV)} {A : List Nat} {fr : Nat → AV} {d : Option Tmp} {ty : TypeId} {pos : String} {af : Array Edge} {g : Option (Nat × Bool)} {ox oy oi : Operand} {T T' E U : TypeId} {α : Type} {e : α → AV} {sz id off cap : Nat}
end
end Go.Va
namespace Go.Va
open Go Go.RowKit
section
variable {P : Program} {Ty : TypeId → Option TI} {σ σ0 : St} {O : List (Nat × List AV)} {A : List Nat} {fr : Nat → AV} {d : Option Tmp} {ty : TypeId} {pos : String} {af : Array Edge} {g : Option (Nat × Bool)} {ox oy : Operand} {T E U S : TypeId}
end
end Go.Va
namespace Go.Va
open Go Go.RowKit
section
variable {P : Program} {Ty : TypeId → Option TI}
variable {σ σ0 : St} {O : List (Nat × List AV)} {A : List Nat} {fr : Nat → AV} {d : Option Tmp} {ty : TypeId} {pos : String} {af : Array Edge} {g : Option (Nat × Bool)} {ox oy : Operand} {T E U S : TypeId} {α : Type} {e : α → AV} {sz id off cap : Nat}
end
end Go.Va
namespace Go.Va
open Go Go.RowKit
section
variable {P : Program} {Ty : TypeId → Option TI} {σ : St} {fr : Nat → AV} {d : Option Tmp} {ty : TypeId} {pos : String} {af : Array Edge} {g : Option (Nat × Bool)} {ox oy : Operand} {T E : TypeId} {α : Type} {e : α → AV} {sz : Nat} {k : Tok}
end
end Go.Va
namespace Go.Va
open Go Go.RowKit
inductive NkL (t : Nat) : List AV → List AV → Prop where
  | nil : NkL t [] []
  | same {a : AV} {l m : List AV} (h : NkL t l m) : NkL t (a :: l) (a :: m)
  | tok {sz : Nat} {l m : List AV} (h : NkL t l m) : NkL t (.nils :: l) (.sl (.own t) sz [] :: m)
theorem NkL.len {t : Nat} {l m : List AV} (h : NkL t l m) : l.length = m.length := by
  induction h with
  | nil => rfl
  | same _ ih => simp [ih]
  | tok _ ih => simp [ih]
theorem NkL.rel {t : Nat} {l m : List AV} (h : NkL t l m) {G : Ghost} (ht : t < G.nt) : ∀ {vs : List Value}, RelL G vs l → RelL G vs m := by
  induction h with
  | nil => exact fun h => h
  | same _ ih =>
    intro vs hr
    cases vs with
    | nil => have := hr.len; simp at this
    | cons v vs => exact RelL.cons (hr.at_ 0 v _ rfl rfl) (ih ⟨by simpa using hr.len, fun i u a e1 e2 => hr.at_ (i + 1) u a (by simpa using e1) (by simpa using e2)⟩)
  | tok _ ih =>
    intro vs hr
    cases vs with
    | nil => have := hr.len; simp at this
    | cons v vs =>
      have h1 := hr.at_ 0 v _ rfl rfl
      cases h1
      exact RelL.cons (.sl0 none 0 _ _ (Nat.zero_le _) (.inr ⟨rfl, ht⟩)) (ih ⟨by simpa using hr.len, fun i u a e1 e2 => hr.at_ (i + 1) u a (by simpa using e1) (by simpa using e2)⟩)
theorem Inv.tokO {w0 : World} {G : Ghost} {w : World} {σ : St} (h : Inv w0 G w σ) {id t : Nat} {c c' : List AV} (hc : σ.objs[id]? = some c) (hsp : spcl c = false) (hw : NkL t c c') (ht : t < G.nt) : Inv w0 G w ⟨σ.objs.set id c', σ.opn, σ.gl⟩ := by
  have hl := hw.len
  have hlt := (List.getElem?_eq_some_iff.1 hc).1
  have key : ∀ (i : Nat) (d : List AV), (σ.objs.set id c')[i]? = some d → d ≠ [] → ∃ d', σ.objs[i]? = some d' ∧ d' ≠ [] ∧ (spcl d = false → spcl d' = false) ∧ d'.length = d.length ∧ ∀ vs, RelL G vs d' → RelL G vs d := by
    intro i d hd hn
    rw [List.getElem?_set] at hd
    split at hd
    · rename_i he; subst he
      have hd' : c' = d := by
        first
          | exact Option.some.inj hd
          | (rw [if_pos hlt] at hd; exact Option.some.inj hd)
      subst hd'
      exact ⟨c, hc, fun h => by rw [h] at hl; exact hn (List.eq_nil_of_length_eq_zero hl.symm), fun _ => hsp, hl, fun vs hr => hw.rel ht hr⟩
    · exact ⟨d, hd, hn, fun h => h, rfl, fun _ h => h⟩
  refine ⟨h.below, h.fz, fun i d hd hn hs => ?_, fun i b o d hl' hd hn => ?_, h.loclt, fun i b hl' => by simpa using h.locdom i b hl', fun i j b d e hi hj hd he hn hn' => ?_, fun t b top en ho ht => ?_, h.tokdom, h.tokinj, h.nt, h.lit, h.gl, h.sp_to (.refl G) (fun _ _ _ h => h) (fun i a h1 h2 => by
      simp only at h1
      rw [List.getElem?_set] at h1
      split at h1
      · have e : c' = [a] := by
          first
            | exact Option.some.inj h1
            | (rw [if_pos (by omega)] at h1; exact Option.some.inj h1)
        obtain ⟨b, T, vs, e1, e2, e3, e4, e5, e6⟩ := h.loc id c hc (fun h0 => by rw [h0] at hl; rw [e] at hl; cases hl) hsp
        have hx := rell_nsp (hw.rel ht e4.rel)
        rw [e] at hx
        simp only [spcl] at hx
        rw [hx] at h2; cases h2
      · exact h1)⟩
  · obtain ⟨d', a1, a2, aq, a3, a4⟩ := key i d hd hn
    obtain ⟨b, T, vs, e1, e2, e3, e4, e5, e6⟩ := h.loc i d' a1 a2 (aq hs)
    exact ⟨b, T, vs, e1, e2, e3, ⟨by rw [← a3]; exact e4.le, by rw [← a3]; exact a4 _ e4.rel⟩, e5, e6⟩
  · obtain ⟨d', a1, a2, _⟩ := key i d hd hn
    exact h.locfz i b o d' hl' a1 a2
  · obtain ⟨d', a1, a2, _⟩ := key i d hd hn
    obtain ⟨e', b1, b2, _⟩ := key j e he hn'
    exact h.locinj i j b d' e' hi hj a1 b1 a2 b2
  · obtain ⟨e1, e2, e3, e4⟩ := h.tok t b top en ho ht
    refine ⟨e1, e2, e3, fun i hi => ?_⟩
    have h0 := e4 i hi
    rw [List.getElem?_set]
    split
    · rename_i he; subst he
      rw [hc] at h0; cases h0
      have : c' = [] := List.eq_nil_of_length_eq_zero hl.symm
      subst this
      first | rfl | rw [if_pos hlt]
    · exact h0
theorem AWP.tokO {P : Program} {n : Nat} {c : Code} {Q : AExit → (Nat → AV) → St → Prop} {l : List (Nat × AV)} {σ0 σ : St} {O : List (Nat × List AV)} {A : List Nat} (hH : Holds σ0 O A σ) (k : Nat) {id : Nat} {c0 : List AV} (hk : O[k]? = some (id, c0)) {c1 : Nat → List AV} (hn : ∀ t, NkL t c0 (c1 t))
    (h : ∀ t τ, Holds σ0 (O.set k (id, c1 t)) (t :: A) τ → AWP P n c Q (Va.fm l) τ) (hsp : spcl c0 = false := by first | rfl | exact spcl_cL (by assumption) _) : AWP P n c Q (Va.fm l) σ := fun w0 G a w hS => by
  obtain ⟨hle, hI⟩ := hS.inv.closed .no
  have hm : Holds σ0 O (σ.opn.length :: A) σ.more := hH.more
  have hc : σ.more.objs[id]? = some c0 := hm.at_ k hk
  have hI2 : Inv w0 _ w ⟨σ.more.objs.set id (c1 σ.opn.length), σ.more.opn, σ.more.gl⟩ := Inv.tokO hI hc hsp (hn _) (Nat.lt_succ_self _)
  refine wp_mono (h _ _ (hm.put k hk (c1 σ.opn.length)) w0 _ a w ⟨hI2, hS.frm.mono hle, hS.size, hS.defers⟩) ?_
  rintro e a' w' ⟨ae, fr', σ', G', k1, k2, k3, k4⟩
  exact ⟨ae, fr', σ', G', k1, hle.trans k2, k3, k4⟩
end Go.Va
namespace Go.Va
open Go Go.RowKit
set_option linter.unusedVariables false
set_option linter.unusedSimpArgs false
section
variable {P : Program} {Ty : TypeId → Option TI} {σ : St} {fr : Nat → AV} {d : Option Tmp} {ty : TypeId} {pos : String} {af : Array Edge} {g : Option (Nat × Bool)} {ox oy : Operand} {T T' E : TypeId} {k : Tok} {sz : Nat} {es : List AV}
end

theorem Inv.alloc_sp {w0 : World} {G : Ghost} {w : World} {σ : St} (h : Inv w0 G w σ) {o : Obj} {a : AV} (ha : a.isSp = true) (hs : SpO G o a) :
    G.Le (G.addLoc σ.objs.length w.heap.size 0) ∧ Inv w0 (G.addLoc σ.objs.length w.heap.size 0) (w.alloc o) ⟨σ.objs ++ [[a]], σ.opn, σ.gl⟩ := by
  have hnone : ∀ i b, G.loc i = some b → i ≠ σ.objs.length := fun i b hi he => by have := h.locdom i b hi; omega
  have hle : G.Le (G.addLoc σ.objs.length w.heap.size 0) := ⟨fun _ _ _ h => h, fun i b hi => by simp [Ghost.addLoc, hnone i b hi, hi], fun _ _ h => h, Nat.le_refl _, fun _ h => h, fun i b hi => by simp [Ghost.addLoc, hnone i b hi]⟩
  have hsz := h.below.size
  have hat : ∀ (id : Nat) (c : List AV), (σ.objs ++ [[a]])[id]? = some c → (id < σ.objs.length ∧ σ.objs[id]? = some c) ∨ (id = σ.objs.length ∧ c = [a]) := by
    intro id c hc
    by_cases hid : id < σ.objs.length
    · rw [List.getElem?_append_left hid] at hc; exact .inl ⟨hid, hc⟩
    · rw [List.getElem?_append_right (by omega)] at hc
      cases hz : id - σ.objs.length with
      | zero => rw [hz] at hc; simp at hc; exact .inr ⟨by omega, hc.symm⟩
      | succ m => rw [hz] at hc; simp at hc
  refine ⟨hle, ⟨h.below.alloc hsz _, fun b o v hf => ?_, fun id c hc hne hn => ?_, fun id b o c hl hc hne => ?_, fun id b hl => ?_, fun id b hl => ?_, fun i j b c d hi hj hc hd hn hn' => ?_, fun t b top en ho ht => ?_, fun t x ht => h.tokdom t x ht, fun t t' x x' a1 a2 a3 a4 => h.tokinj t t' x x' a1 a2 a3 a4, h.nt, fun b hb => ?_, h.gl, fun id x hc hx => ?_⟩⟩
  · exact ⟨(alloc_cell_lt _ (h.fzlt hf)).trans (h.fz b o v hf).1, (h.fz b o v hf).2⟩
  · rcases hat id c hc with ⟨hid, hc⟩ | ⟨rfl, rfl⟩
    · obtain ⟨b, T', vs', e1, e2, e3, e4, e5, e6⟩ := h.loc id c hc hne hn
      exact ⟨b, T', vs', hle.loc _ _ e1, e2, (alloc_heap_lt _ (h.loclt _ _ e1)).trans e3, e4.mono hle, e5, by rw [hle.bsz _ _ e1]; exact e6⟩
    · simp only [spcl] at hn; rw [ha] at hn; cases hn
  · simp only [Ghost.addLoc] at hl
    split at hl
    · injection hl with hl; subst hl
      cases hz : (G.addLoc σ.objs.length w.heap.size 0).fz w.heap.size o with
      | none => rfl
      | some v => exact absurd (h.fzlt (b := w.heap.size) (o := o) hz) (by omega)
    · rw [List.getElem?_append_left (h.locdom id b hl)] at hc
      exact h.locfz id b o c hl hc hne
  · simp only [Ghost.addLoc] at hl
    split at hl
    · injection hl with hl; simp; omega
    · have := h.loclt id b hl; simp; omega
  · simp only [Ghost.addLoc] at hl
    split at hl
    · simp; omega
    · have := h.locdom id b hl; simp; omega
  · simp only [Ghost.addLoc] at hi hj
    split at hi <;> split at hj
    · omega
    · injection hi with hi; subst hi; exact absurd (h.loclt _ _ hj) (by omega)
    · injection hj with hj; subst hj; exact absurd (h.loclt _ _ hi) (by omega)
    · rw [List.getElem?_append_left (h.locdom i b hi)] at hc
      rw [List.getElem?_append_left (h.locdom j b hj)] at hd
      exact h.locinj i j b c d hi hj hc hd hn hn'
  · obtain ⟨e1, ⟨cs, T', e2, e3⟩, e4, e5⟩ := h.tok t b top en ho ht
    have hb : b < w.heap.size := (Array.getElem?_eq_some_iff.1 e2).1
    refine ⟨e1, ⟨cs, T', (alloc_heap_lt _ hb).trans e2, e3⟩, e4, fun id hl => ?_⟩
    simp only [Ghost.addLoc] at hl
    split at hl
    · injection hl with hl; omega
    · rw [List.getElem?_append_left (h.locdom id b hl)]
      exact e5 id hl
  · obtain ⟨k1, k2, k3, k4⟩ := h.lit b hb
    refine ⟨k1, by simp; omega, fun id hl => ?_, k4⟩
    simp only [Ghost.addLoc] at hl
    split at hl
    · injection hl with hl; omega
    · exact k3 id hl
  · rcases hat id [x] hc with ⟨hid, hc⟩ | ⟨rfl, e⟩
    · obtain ⟨b, o, e1, e2, e3, e4⟩ := h.sp id x hc hx
      exact ⟨b, o, hle.loc _ _ e1, e2, heap_alloc_keep _ e3, e4.mono hle⟩
    · obtain rfl := (List.cons.inj e).1
      exact ⟨w.heap.size, o, by simp [Ghost.addLoc], hsz, heap_alloc_new w _, hs.mono hle⟩
theorem Inv.set_sp {w0 : World} {G : Ghost} {w : World} {σ : St} (h : Inv w0 G w σ) {id b : Nat} {a a' : AV} {o' : Obj} (hc : σ.objs[id]? = some [a]) (ha : a.isSp = true) (hl : G.loc id = some b) (ha' : a'.isSp = true) (hs : SpO G o' a') :
    Inv w0 G { w with heap := w.heap.setIfInBounds b o' } ⟨σ.objs.set id [a'], σ.opn, σ.gl⟩ := by
  obtain ⟨b1, o, k1, k2, k3, k4⟩ := h.sp id a hc ha
  rw [hl] at k1
  injection k1 with k1
  subst k1
  have hlt := (Array.getElem?_eq_some_iff.1 k3).1
  have hidlt := h.locdom id b hl
  have hoth : ∀ k, k ≠ b → (w.heap.setIfInBounds b o')[k]? = w.heap[k]? := fun k hk => Array.getElem?_setIfInBounds_ne (Ne.symm hk)
  have hne : ∀ {k : Nat} {cs T f}, w.heap[k]? = some (.cells cs T f) → k ≠ b := fun {k cs T f} e he => by subst he; rw [k3] at e; injection e with e; exact k4.nc _ _ _ e
  have hbel : Below w0.heap.size w { w with heap := w.heap.setIfInBounds b o' } := ⟨rfl, rfl, rfl, by simp, fun k hk => hoth k (by omega)⟩
  have hcell : ∀ k x v, w.cell? ⟨k, x, none⟩ = some v → World.cell? { w with heap := w.heap.setIfInBounds b o' } ⟨k, x, none⟩ = some v := fun k x v hv => by
    have hkb : k ≠ b := fun he => by
      subst he
      simp only [World.cell?, k3] at hv
      obtain ⟨c, e, lo, hi⟩ | _ := o
      · exact k4.nc _ _ _ rfl
      all_goals simp at hv
    simp only [World.cell?] at hv ⊢
    rw [hoth k hkb]
    exact hv
  have hat : ∀ (i : Nat) (c : List AV), (σ.objs.set id [a'])[i]? = some c → (i = id ∧ c = [a']) ∨ (i ≠ id ∧ σ.objs[i]? = some c) := by
    intro i c hc'
    by_cases he : id = i
    · subst he
      rw [List.getElem?_set_self hidlt] at hc'
      exact .inl ⟨rfl, (Option.some.inj hc').symm⟩
    · rw [List.getElem?_set_ne he] at hc'
      exact .inr ⟨Ne.symm he, hc'⟩
  have hsome : ∀ (i : Nat) (c : List AV), (σ.objs.set id [a'])[i]? = some c → c ≠ [] → ∃ c', σ.objs[i]? = some c' ∧ c' ≠ [] := by
    intro i c hc' hn
    rcases hat i c hc' with ⟨rfl, rfl⟩ | ⟨_, e⟩
    · exact ⟨[a], hc, by simp⟩
    · exact ⟨c, e, hn⟩
  refine ⟨h.below.trans hbel, fun x o v hf => ⟨hcell _ _ _ (h.fz x o v hf).1, (h.fz x o v hf).2⟩, fun i c hc' hn hsp => ?_, fun i x o c hl' hc' hn => ?_, fun i x hl' => by simpa using h.loclt i x hl', fun i x hl' => by simpa using h.locdom i x hl', fun i j x c d hi hj hc' hd hn hn' => ?_, fun t x top en ho ht => ?_, h.tokdom, h.tokinj, h.nt, fun x hx => ?_, h.gl, fun i x hc' hx => ?_⟩
  · rcases hat i c hc' with ⟨rfl, rfl⟩ | ⟨_, e⟩
    · simp only [spcl] at hsp; rw [ha'] at hsp; cases hsp
    · obtain ⟨b', T, vs, e1, e2, e3, e4, e5, e6⟩ := h.loc i c e hn hsp
      exact ⟨b', T, vs, e1, e2, (hoth b' (hne e3)).trans e3, e4, e5, e6⟩
  · obtain ⟨c', e1, e2⟩ := hsome i c hc' hn
    exact h.locfz i x o c' hl' e1 e2
  · obtain ⟨c', e1, e2⟩ := hsome i c hc' hn
    obtain ⟨d', f1, f2⟩ := hsome j d hd hn'
    exact h.locinj i j x c' d' hi hj e1 f1 e2 f2
  · obtain ⟨e1, ⟨cs, T, e2, e3⟩, e4, e5⟩ := h.tok t x top en ho ht
    refine ⟨e1, ⟨cs, T, (hoth x (hne e2)).trans e2, e3⟩, e4, fun i hi => ?_⟩
    have h0 := e5 i hi
    rw [List.getElem?_set]
    split
    · rename_i he; subst he; rw [hc] at h0; cases h0
    · exact h0
  · obtain ⟨e1, e2, e3, e4⟩ := h.lit x hx
    exact ⟨e1, by simpa using e2, e3, e4⟩
  · rcases hat i [x] hc' with ⟨rfl, e⟩ | ⟨hi, e⟩
    · obtain rfl := (List.cons.inj e).1
      exact ⟨b, o', hl, k2, by simp [hlt], hs⟩
    · obtain ⟨b', o2, e1, e2, e3, e4⟩ := h.sp i x e hx
      have hb' : b' ≠ b := fun he => hi (h.locinj i id b [x] [a] (he ▸ e1) hl e hc (by simp) (by simp))
      exact ⟨b', o2, e1, e2, (hoth b' hb').trans e3, e4⟩
section
variable {P : Program} {Ty : TypeId → Option TI} {σ σ0 : St} {O : List (Nat × List AV)} {A : List Nat} {fr : Nat → AV} {d : Option Tmp} {ty : TypeId} {pos : String} {af : Array Edge} {g : Option (Nat × Bool)} {ox oy : Operand} {T : TypeId}
theorem WkL.append : ∀ {a b c d : List AV}, WkL a b → WkL c d → WkL (a ++ c) (b ++ d)
  | _, _, _, _, .nil, h => h
  | _, _, _, _, .cons h t, k => .cons h (t.append k)
end

theorem Holds.cells {σ0 σ : St} {O : List (Nat × List AV)} {A : List Nat} (h : Holds σ0 O A σ) (k : Nat) {id : Nat} {c : List AV} (c' : List AV) (hk : O[k]? = some (id, c)) (he : c = c') : Holds σ0 (O.set k (id, c')) A σ := by
  subst he
  obtain ⟨hlt, hg⟩ := List.getElem?_eq_some_iff.1 hk
  rw [← hg, List.set_getElem_self]
  exact h
theorem Holds.brings {σ : St} (O : List (Nat × List AV)) (ho : ∀ p ∈ O, σ.objs[p.1]? = some p.2) (hd : (O.map (·.1)).Pairwise fun a b => a ≠ b) : Holds σ O [] σ :=
  ⟨fun _ _ h _ => h, fun _ h => h, Nat.le_refl _, Nat.le_refl _, ho, List.pairwise_map.1 hd, fun _ h => (by cases h), .nil, rfl⟩
theorem Holds.pw {σ0 σ : St} {O : List (Nat × List AV)} {A : List Nat} (h : Holds σ0 O A σ) {ids : List Nat} (ks : List Nat) (hk : ks.map (fun k => (O.map (·.1))[k]?) = ids.map some) (hs : ks.Pairwise fun a b => a ≠ b) : ids.Pairwise fun a b => a ≠ b := by
  rw [List.pairwise_iff_getElem] at hs ⊢
  intro i j hi hj hij
  have hl : ks.length = ids.length := by have := congrArg List.length hk; simpa using this
  have key : ∀ (x : Nat) (hx : x < ids.length), ∃ p, O[ks[x]'(by omega)]? = some p ∧ p.1 = ids[x] := fun x hx => by
    have e := congrArg (fun l => l[x]?) hk
    simp only [List.getElem?_map, List.getElem?_eq_getElem (show x < ks.length by omega), List.getElem?_eq_getElem hx, Option.map_some, Option.some.injEq] at e
    obtain ⟨p, h1, h2⟩ := Option.map_eq_some_iff.1 e
    exact ⟨p, h1, h2⟩
  obtain ⟨p, p1, p2⟩ := key i hi
  obtain ⟨q, q1, q2⟩ := key j hj
  rw [← p2, ← q2]
  exact dist_get h.dist p1 q1 (hs i j (by omega) (by omega) hij)
theorem pw_zip {O : List (Nat × List AV)} (h : (O.map (·.1)).Pairwise fun a b => a ≠ b) : O.Pairwise fun p q => p.1 ≠ q.1 := List.pairwise_map.1 h
theorem idl_get {σ : St} {i : Nat} {c : List AV} (h : σ.objs[i]? = some c) : idl σ.objs.length i = some i := by
  have := (List.getElem?_eq_some_iff.1 h).1
  simp [idl, this]
theorem cut_vec_id {ρ κ : Nat → Option Nat} {i z n : Nat} (h : ρ i = some i) : cutAV ρ κ (.vec i z n) = .vec i z n := by
  simp only [cutAV, h]
  split <;> rfl
theorem cut_ref_id {ρ κ : Nat → Option Nat} {i j o : Nat} (h : ρ i = some j) : cutAV ρ κ (.ref i o) = .ref j o := by simp only [cutAV, h]
section
variable {P : Program} {σ : St}
theorem ACall.outB {g : FuncId} {args : List AV} {b : AV} (M : List (Nat × List AV)) (hc : ∀ p ∈ M, cutL (idl σ.objs.length) (idl σ.opn.length) p.2 = p.2) (h : ACall P g args σ (fun a σ' => Wk (cutAV (idl σ.objs.length) (idl σ.opn.length) a) b ∧ Holds σ M [] σ')) : ACall P g args σ (fun a σ' => a = b ∧ σ' = σ.puts M) :=
  h.cut fun a σ' ⟨ha, hH⟩ => ⟨σ.puts M, b, puts_len M _, rfl, rfl, hH.opn, fun id c hid => by
    rcases puts_get M σ.objs id c hid with h1 | ⟨h1, h2⟩
    · exact ⟨hH.obj _ h1, .inr (hc _ h1)⟩
    · exact ⟨hH.base id c h1 h2, .inl h1⟩, ha, rfl, rfl⟩
def zipB (f : Nat → Nat) : Nat → List (List AV) → List (Nat × List AV)
  | _, [] => []
  | i, x :: l => (f i, x) :: zipB f (i + 1) l
theorem zipB_get (f : Nat → Nat) : ∀ (l : List (List AV)) (i k : Nat), (zipB f i l)[k]? = (l[k]?).map fun x => (f (i + k), x)
  | [], i, k => by simp [zipB]
  | x :: l, i, 0 => by simp [zipB]
  | x :: l, i, k + 1 => by
    simp only [zipB, List.getElem?_cons_succ]
    rw [zipB_get f l (i + 1) k, show i + 1 + k = i + (k + 1) by omega]
theorem zipB_mem {f : Nat → Nat} {l : List (List AV)} {i : Nat} {p : Nat × List AV} (h : p ∈ zipB f i l) : ∃ k, k < l.length ∧ p.1 = f (i + k) ∧ l[k]? = some p.2 := by
  obtain ⟨k, hk⟩ := List.mem_iff_getElem?.1 h
  rw [zipB_get] at hk
  obtain ⟨x, h1, rfl⟩ := Option.map_eq_some_iff.1 hk
  exact ⟨k, (List.getElem?_eq_some_iff.1 h1).1, rfl, h1⟩
theorem Holds.addL {σ0 σ : St} {O : List (Nat × List AV)} {A : List Nat} (h : Holds σ0 O A σ) (L : List (List AV)) : Holds σ0 (zipB (fun i => σ.objs.length + i) 0 L ++ O) A ⟨σ.objs ++ L, σ.opn, σ.gl⟩ := by
  refine ⟨fun i d h1 h2 => ?_, h.opn, by have := h.olen; simp; omega, h.tlen, fun p hp => ?_, ?_, h.tok, h.tdist, h.gl⟩
  · have := h.base i d h1 (fun p hp => h2 p (List.mem_append_right _ hp))
    simp only
    rw [List.getElem?_append_left (List.getElem?_eq_some_iff.1 this).1]
    exact this
  · rcases List.mem_append.1 hp with hp | hp
    · obtain ⟨k, hk, e1, e2⟩ := zipB_mem hp
      simp only [e1, Nat.zero_add]
      rw [List.getElem?_append_right (by omega), Nat.add_sub_cancel_left]
      exact e2
    · have := h.obj p hp
      simp only
      rw [List.getElem?_append_left (List.getElem?_eq_some_iff.1 this).1]
      exact this
  · rw [List.pairwise_append]
    refine ⟨?_, h.dist, fun p hp q hq => ?_⟩
    · rw [List.pairwise_iff_getElem]
      intro i j hi hj hij
      have e1 := List.getElem?_eq_getElem hi
      have e2 := List.getElem?_eq_getElem hj
      rw [zipB_get] at e1 e2
      obtain ⟨x, _, e1⟩ := Option.map_eq_some_iff.1 e1
      obtain ⟨y, _, e2⟩ := Option.map_eq_some_iff.1 e2
      rw [← e1, ← e2]
      show σ.objs.length + (0 + i) ≠ σ.objs.length + (0 + j)
      omega
    · obtain ⟨k, hk, e1, e2⟩ := zipB_mem hp
      have := (List.getElem?_eq_some_iff.1 (h.obj q hq)).1
      rw [e1]
      omega
inductive WkLL : List (List AV) → List (List AV) → Prop where
  | nil : WkLL [] []
  | cons {a b : List AV} {l m : List (List AV)} (hs : spcl a = false) (h : WkL a b) (t : WkLL l m) : WkLL (a :: l) (b :: m)
  | same {a b : List AV} {l m : List (List AV)} (h : a = b) (t : WkLL l m) : WkLL (a :: l) (b :: m)
theorem Inv.wkoL {w0 : World} {G : Ghost} {w : World} {opn : List Bool} {gl : List (Addr × Value)} : ∀ {L L' : List (List AV)} (_ : WkLL L L') {base : List (List AV)}, Inv w0 G w ⟨base ++ L, opn, gl⟩ → Inv w0 G w ⟨base ++ L', opn, gl⟩
  | _, _, .nil, base, h => h
  | _, _, .cons (a := a) (b := b) (l := l) (m := m) hs hw t, base, h => by
    have h1 := h.wko (id := base.length) (c := a) (c' := b) (by simp) hs hw
    have h2 : (base ++ a :: l).set base.length b = (base ++ [b]) ++ l := by simp
    simp only [h2] at h1
    have h3 := Inv.wkoL t h1
    simpa using h3
  | _, _, .same (a := a) (l := l) (m := m) e t, base, h => by
    subst e
    have h3 := Inv.wkoL (base := base ++ [a]) t (by simpa using h)
    simpa using h3
theorem ACall.weaken {g : FuncId} {args : List AV} {K K' : AV → St → Prop} (h : ACall P g args σ K) (hk : ∀ a σ', K a σ' → ∃ σ1, (∀ w0 G w, Inv w0 G w σ' → Inv w0 G w σ1) ∧ K' a σ1) : ACall P g args σ K' :=
  ⟨h.1, fun w0 G w vs hI hr => (h.2 w0 G w vs hI hr).mono fun e w' ⟨v, a, σ', G', h1, h2, h3, h4, h5⟩ => by
    obtain ⟨σ1, k1, k2⟩ := hk a σ' h5
    exact ⟨v, a, σ1, G', h1, h2, k1 _ _ _ h3, h4, k2⟩⟩
def NewB {α : Type} (B : (Nat → Nat) → α → List (List AV)) (rest : List AV) (σ : St) : Option α → AV → St → Prop
  | none, a, τ => a = .tup (.nilp :: rest) ∧ τ = σ
  | some c, a, τ => a = .tup (.ref σ.objs.length 0 :: rest) ∧ τ = ⟨σ.objs ++ B (fun i => σ.objs.length + i) c, σ.opn, σ.gl⟩
def NewBE {α : Type} (B : (Nat → Nat) → α → List (List AV)) (rest : List AV) (σ : St) : Option α → AV → St → Prop
  | none, a, τ => a = .tup (.nilp :: rest) ∧ Holds σ [] [] τ
  | some c, a, τ => ∃ f : Nat → Nat, a = .tup (.ref (f 0) 0 :: rest) ∧ (∀ i, i < (B f c).length → σ.objs.length ≤ f i) ∧ Holds σ (zipB f 0 (B f c)) [] τ
theorem ACall.newB {g : FuncId} {args : List AV} {α : Type} {B : (Nat → Nat) → α → List (List AV)} {rest : List AV} {o : Option α} (m : Nat) (hm : ∀ f c, (B f c).length = m) (h0 : 0 < m) (hr : ∀ ρ κ, cutL ρ κ rest = rest)
    (hc : ∀ c ρ κ f g, (∀ i, i < m → ρ (f i) = some (g i)) → WkLL ((B f c).map (cutL ρ κ)) (B g c)) (h : ACall P g args σ (fun a τ => NewBE B rest σ o a τ)) : ACall P g args σ (fun a τ => NewB B rest σ o a τ) := by
  cases o with
  | none => exact ACall.pure (b := .tup (.nilp :: rest)) (h.mono fun a τ ⟨h1, h2⟩ => ⟨by subst h1; simp only [cutAV, cutL, hr]; exact Wk.refl _, h2⟩)
  | some c =>
    refine ACall.weaken (K := fun a τ => ∃ L, WkLL L (B (fun i => σ.objs.length + i) c) ∧ a = .tup (.ref σ.objs.length 0 :: rest) ∧ τ = ⟨σ.objs ++ L, σ.opn, σ.gl⟩) ?_ (fun a τ ⟨L, h1, h2, h3⟩ => ⟨⟨σ.objs ++ B (fun i => σ.objs.length + i) c, σ.opn, σ.gl⟩, fun w0 G w hI => by subst h3; exact hI.wkoL h1, h2, rfl⟩)
    refine h.ren fun a σ' ⟨f, ha, hf, hH⟩ => ?_
    subst ha
    rw [hm] at hf
    have hz : ∀ k, k < m → ∃ x, (B f c)[k]? = some x ∧ (zipB f 0 (B f c))[k]? = some (f k, x) := fun k hk => by
      have hx : (B f c)[k]? = some ((B f c)[k]'(by rw [hm]; exact hk)) := List.getElem?_eq_getElem _
      exact ⟨_, hx, by rw [zipB_get, hx, Nat.zero_add]; rfl⟩
    have hinj : ∀ i j, i < m → j < m → f i = f j → i = j := fun i j hi hj e => by
      obtain ⟨x, _, hx⟩ := hz i hi
      obtain ⟨y, _, hy⟩ := hz j hj
      exact Classical.byContradiction fun hn => dist_get hH.dist hx hy hn e
    let ρ : Nat → Option Nat := fun i => match (List.range m).find? (fun k => decide (f k = i)) with | some k => some (σ.objs.length + k) | none => idl σ.objs.length i
    have hρ : ∀ k, k < m → ρ (f k) = some (σ.objs.length + k) := fun k hk => by
      show (match (List.range m).find? (fun k' => decide (f k' = f k)) with | some k => some (σ.objs.length + k) | none => idl σ.objs.length (f k)) = _
      cases hfd : (List.range m).find? (fun k' => decide (f k' = f k)) with
      | none =>
        have := List.find?_eq_none.1 hfd k (List.mem_range.2 hk)
        simp at this
      | some k' =>
        have h1 := List.find?_some hfd
        have h2 := List.mem_range.1 (List.mem_of_find?_eq_some hfd)
        simp only [decide_eq_true_eq] at h1
        rw [hinj k' k h2 hk h1]
    have hold : ∀ i, (∀ k, k < m → f k ≠ i) → ρ i = idl σ.objs.length i := fun i hi => by
      show (match (List.range m).find? (fun k' => decide (f k' = i)) with | some k => some (σ.objs.length + k) | none => idl σ.objs.length i) = _
      cases hfd : (List.range m).find? (fun k' => decide (f k' = i)) with
      | none => rfl
      | some k' =>
        have h1 := List.find?_some hfd
        have h2 := List.mem_range.1 (List.mem_of_find?_eq_some hfd)
        simp only [decide_eq_true_eq] at h1
        exact absurd h1 (hi k' h2)
    have hcase : ∀ i j, ρ i = some j → (∃ k, k < m ∧ f k = i ∧ j = σ.objs.length + k) ∨ (i = j ∧ j < σ.objs.length) := fun i j h => by
      by_cases hx : ∃ k, k < m ∧ f k = i
      · obtain ⟨k, hk, rfl⟩ := hx
        rw [hρ k hk] at h
        exact .inl ⟨k, hk, rfl, (Option.some.inj h).symm⟩
      · rw [hold i (fun k hk e => hx ⟨k, hk, e⟩)] at h
        exact .inr (idl_lt h)
    have hmap := hc c ρ (idl σ.opn.length) f (fun i => σ.objs.length + i) hρ
    refine ⟨⟨σ.objs ++ (B f c).map (cutL ρ (idl σ.opn.length)), σ.opn, σ.gl⟩, .tup (.ref σ.objs.length 0 :: rest), ρ, idl σ.opn.length, ⟨fun i i' j h1 h2 => ?_, idl_inj _, fun i hi => ?_, fun i hi => by simp [idl, hi], fun i j h => ?_, fun t u h => (idl_lt h).2, Nat.le_refl _, rfl, fun j d hj => ?_, fun t u h hu => ?_⟩, ?_, _, hmap, rfl, rfl⟩
    · rcases hcase i j h1 with ⟨k, hk, e1, e2⟩ | ⟨e1, e2⟩ <;> rcases hcase i' j h2 with ⟨k', hk', e3, e4⟩ | ⟨e3, e4⟩
      · have : k = k' := by omega
        subst this
        rw [← e1, ← e3]
      · omega
      · omega
      · rw [e1, e3]
    · rw [hold i (fun k hk e => by have := hf k hk; omega)]
      simp [idl, hi]
    · simp only [List.length_append, List.length_map, hm]
      rcases hcase i j h with ⟨k, hk, e1, e2⟩ | ⟨e1, e2⟩ <;> omega
    · by_cases hlt : j < σ.objs.length
      · simp only at hj
        rw [List.getElem?_append_left hlt] at hj
        refine ⟨j, d, by rw [hold j (fun k hk e => by have := hf k hk; omega)]; simp [idl, hlt], hH.base j d hj (fun p hp => ?_), .inl ⟨hj, rfl⟩⟩
        obtain ⟨k, hk, e1, e2⟩ := zipB_mem hp
        rw [hm] at hk
        have := hf k hk
        rw [e1, Nat.zero_add]
        omega
      · simp only at hj
        rw [List.getElem?_append_right (by omega)] at hj
        have hk := (List.getElem?_eq_some_iff.1 hj).1
        rw [List.length_map, hm] at hk
        obtain ⟨x, hx, hzx⟩ := hz (j - σ.objs.length) hk
        refine ⟨f (j - σ.objs.length), x, by rw [hρ _ hk]; congr 1; omega, hH.obj _ (List.mem_of_getElem? hzx), .inr ?_⟩
        rw [List.getElem?_map, hx] at hj
        exact (Option.some.inj hj).symm
    · obtain ⟨rfl, _⟩ := idl_lt h
      exact hH.opn t hu
    · simp only [cutAV, cutL, hr, hρ 0 h0, Nat.add_zero]
      exact Wk.refl _
theorem NewBE.some {α : Type} {B : (Nat → Nat) → α → List (List AV)} {rest : List AV} {σ τ : St} {c : α} (f : Nat → Nat) (h1 : ∀ i, i < (B f c).length → σ.objs.length ≤ f i) (h2 : Holds σ (zipB f 0 (B f c)) [] τ) : NewBE B rest σ (some c) (.tup (.ref (f 0) 0 :: rest)) τ := ⟨f, rfl, h1, h2⟩
theorem NewBE.none {α : Type} {B : (Nat → Nat) → α → List (List AV)} {rest : List AV} {σ τ : St} (h : Holds σ [] [] τ) : NewBE B rest σ none (.tup (.nilp :: rest)) τ := ⟨rfl, h⟩
variable {σ0 : St} {O : List (Nat × List AV)} {A' : List Nat} {fr : Nat → AV}
theorem h_callnb0 (hH : Holds σ0 O A' σ) {α : Type} {B : (Nat → Nat) → α → List (List AV)} {rest : List AV} {z : Option α} (hz : z = none) {o : Oper} {f : Operand} {xs : List Operand} {gg : FuncId} {first cap args : List AV} (hc : callOf o = some (f, xs)) (hf : aeval fr f = .fn (.func gg) first cap) (hargs : WkL (first ++ xs.map (aeval fr) ++ cap) args)
    (hcall : ACall P gg args σ (fun a τ => NewB B rest σ z a τ)) : ∃ (_ : Nat) (τ : St), OpS P o fr σ (fun a' τ' => a' = .tup (.nilp :: rest) ∧ τ' = τ) ∧ Holds σ0 O A' τ := by
  subst hz; exact ⟨0, σ, OpS.of_call hc hf hargs hcall, hH⟩
theorem h_callnb1 (hH : Holds σ0 O A' σ) {α : Type} {B : (Nat → Nat) → α → List (List AV)} {rest : List AV} {z : Option α} {c : α} (hz : z = some c) {o : Oper} {f : Operand} {xs : List Operand} {gg : FuncId} {first cap args : List AV} (hc : callOf o = some (f, xs)) (hf : aeval fr f = .fn (.func gg) first cap) (hargs : WkL (first ++ xs.map (aeval fr) ++ cap) args)
    (hcall : ACall P gg args σ (fun a τ => NewB B rest σ z a τ)) : ∃ (id : Nat) (τ : St), OpS P o fr σ (fun a' τ' => a' = .tup (.ref id 0 :: rest) ∧ τ' = τ) ∧ (Holds σ0 (zipB (fun i => id + i) 0 (B (fun i => id + i) c) ++ O) A' τ ∧ σ0.objs.length ≤ id) := by
  subst hz; exact ⟨_, _, OpS.of_call hc hf hargs hcall, hH.addL _, hH.olen⟩
end
section
variable {P : Program} {Ty : TypeId → Option TI} {n : Nat} {σ σ0 : St} {O : List (Nat × List AV)} {A : List Nat} {E : TypeId} {α : Type} {e : α → AV} {sz : Nat}
end
section
variable {P : Program} {Ty : TypeId → Option TI} {σ σ0 : St} {O : List (Nat × List AV)} {A : List Nat} {fr : Nat → AV} {d : Option Tmp} {ty : TypeId} {pos : String} {af : Array Edge} {g : Option (Nat × Bool)} {ox oy : Operand} {T E : TypeId} {α : Type} {e : α → AV} {sz : Nat}
theorem WkL.flat {a b : AV} (h : WkL a.cells b.cells) : ∀ n, WkL (flat (List.replicate n a)) (flat (List.replicate n b))
  | 0 => .nil
  | n + 1 => by
    simp only [List.replicate_succ, flat_cons]
    exact h.append (WkL.flat h n)
theorem h_makeVw (hT : TyOk P Ty) (hH : Holds σ0 O A σ) {i : TI} {z : α} {x : List α} {m : Int} {k k' : IntKind} (h : mkS i.bytes m z = some x) (hd : tdOf Ty T = .slice E) (hi : Ty E = some i) (hsz : i.sz = sz) (he : Enc Ty E sz e) (hz : WkL i.zero.cells (e z).cells) (hx : aeval fr ox = .int k m) (hy : aeval fr oy = .int k' m) :
    ∃ b τ, OpS P ⟨d, .makeSlice T ox oy, ty, pos, af, g⟩ fr σ (fun a' τ' => a' = (fun b => AV.vec b sz x.length) b ∧ τ' = τ) ∧ (Holds σ0 ((b, cL e x) :: O) A τ ∧ σ0.objs.length ≤ b) := by
  unfold mkS at h
  split at h
  case isFalse => cases h
  rename_i hc
  cases h
  have h1 : OpS P ⟨d, .makeSlice T ox oy, ty, pos, af, g⟩ fr σ (fun a' τ' => a' = .vec σ.objs.length sz m.toNat ∧ τ' = ⟨σ.objs ++ [Go.Va.flat (List.replicate m.toNat i.zero)], σ.opn, σ.gl⟩) := by
    refine OpS.of_aop2 hT rfl (aeval fr) (fun x _ => Wk.refl _) (a := .vec σ.objs.length i.sz m.toNat) (σ' := ⟨σ.objs ++ [Go.Va.flat (List.replicate m.toNat i.zero)], σ.opn, σ.gl⟩) ?_ (.of_eq (by rw [hsz]))
    simp only [aop2, hx, hy, amake2, hd, hi]
    rw [if_pos ⟨hc.1, Int.le_refl _, by omega, hc.2.1, hc.2.2⟩]
  have hcl : cL e (List.replicate m.toNat z) = Go.Va.flat (List.replicate m.toNat (e z)) := by simp [cL]
  refine ⟨σ.objs.length, ⟨σ.objs ++ [cL e (List.replicate m.toNat z)], σ.opn, σ.gl⟩, fun w0 G act w Q K' hI hr hK => h1 w0 G act w Q K' hI hr ?_, hH.add _, hH.olen⟩
  rintro v a σ' w' G' ⟨rfl, rfl⟩ hG hI' hv
  have h2 : WkLL [Go.Va.flat (List.replicate m.toNat i.zero)] [cL e (List.replicate m.toNat z)] := by
    obtain ⟨b0, T0, vs0, hrow⟩ : ∃ vs : List Value, RelL G' vs (Go.Va.flat (List.replicate m.toNat i.zero)) ∧ True ∧ True := by
      obtain ⟨ti, zz, q1, q2, q3, q4, q5, q6, q7, q8⟩ := (hT E i hi).info
      have : ∀ n, ∃ vs : List Value, RelL G' vs (Go.Va.flat (List.replicate n i.zero)) := fun n => by
        induction n with
        | zero => exact ⟨[], RelL.nil _⟩
        | succ n ih =>
          obtain ⟨vs, hv⟩ := ih
          exact ⟨zz.cells.toList ++ vs, by simp only [List.replicate_succ, flat_cons]; exact (q5 G').append hv⟩
      obtain ⟨vs, hv⟩ := this m.toNat
      exact ⟨vs, hv, trivial, trivial⟩
    exact .cons (rell_nsp T0) (by rw [hcl]; exact WkL.flat hz _) .nil
  have h3 := hI'.wkoL h2
  exact hK v _ _ w' G' ⟨by simp, rfl⟩ hG h3 hv
end

theorem Holds.perm {σ0 σ : St} {O O' : List (Nat × List AV)} {A : List Nat} (h : Holds σ0 O A σ) (hp : O.Perm O') : Holds σ0 O' A σ :=
  ⟨fun id c h1 h2 => h.base id c h1 (fun p hm => h2 p (hp.mem_iff.1 hm)), h.opn, h.olen, h.tlen, fun p hm => h.obj p (hp.mem_iff.2 hm), (hp.pairwise_iff (fun h => Ne.symm h)).1 h.dist, h.tok, h.tdist, h.gl⟩
def chkFirst (B : Array Nat) (I : List Nat) (m n : Nat) : Bool := (List.range n).all fun k => decide (k < m) || I.all fun i => befB B k i
def chkAt (B : Array Nat) (S : List Nat) (i : Nat) : Bool := S.all fun s => s == i || (if s < i then befB B i s else befB B s i)
abbrev OA := List (Nat × List AV) × List Nat
inductive PhK where
  | p
  | r
  | a (c : List AV)
  | t (O : Nat → OA)
abbrev Ph := PhK × (Nat → AV)
def Ph.val (p : Ph) (id : Nat) : AV := match p.1 with
  | .a _ => p.2 id
  | _ => p.2 0
section
variable (P : Program) (σ0 : St)
def PhStep (ops : Array Oper) (S : List Nat) (i : Nat) (o : Oper) (p : Ph) (O : OA) (fr : Nat → AV) : Prop := match p.1 with
  | .a c => ∀ σ O' A, Holds σ0 O' A σ → ∃ id τ, AStep P ops o fr σ (p.2 id) τ ∧ (Holds σ0 ((id, c) :: O') A τ ∧ σ0.objs.length ≤ id)
  | .p => ∀ τ, AStep P ops o fr τ (p.2 0) τ
  | .r => chkAt (Region.before ops) S i = true ∧ ∀ X σ, Holds σ0 (O.1 ++ X) O.2 σ → AStep P ops o fr σ (p.2 0) σ
  | .t O' => S.contains i = true ∧ chkAt (Region.before ops) S i = true ∧ ∀ X σ, Holds σ0 (O.1 ++ X) O.2 σ → ∃ id τ, AStep P ops o fr σ (p.2 0) τ ∧ Holds σ0 ((O' id).1 ++ X) (O' id).2 τ ∧ σ0.objs.length ≤ id
def wpdU (ops : Array Oper) (S : List Nat) (K : (Nat → AV) → St → Prop) : Nat → List Oper → List Ph → List (Nat × List AV) → OA → (Nat → AV) → Prop
  | i, rest, [], acc, O, fr => ∀ σ, Holds σ0 (acc ++ O.1) O.2 σ → wpdS P ops S K i rest fr σ
  | _, [], _ :: _, _, _, _ => False
  | i, o :: rest, p :: ps, acc, O, fr => PhStep P σ0 ops S i o p O fr ∧ match p.1 with
    | .a c => ∀ id, σ0.objs.length ≤ id → wpdU ops S K (i + 1) rest ps ((id, c) :: acc) O (putO fr o.dst (p.2 id))
    | .t O' => ∀ id, σ0.objs.length ≤ id → wpdU ops S K (i + 1) rest ps acc (O' id) (putO fr o.dst (p.2 0))
    | _ => wpdU ops S K (i + 1) rest ps acc O (putO fr o.dst (p.2 0))
end
section
variable {P : Program} {w0 : World} {G : Ghost} {n : Nat} {σ0 : St} {O : OA} {ops : Array Oper} {S : List Nat}
def aasU (ps : List Ph) (ids : Nat → Nat) (k : Nat) : AV := match ps[k]? with
  | some p => p.val (ids k)
  | none => .junk
def isU (ps : List Ph) (k : Nat) : Bool := match ps[k]? with
  | some (.a _, _) => true
  | _ => false
def isT (ps : List Ph) (k : Nat) : Bool := match ps[k]? with
  | some (.t _, _) => true
  | _ => false
def isI (ps : List Ph) (k : Nat) : Bool := match ps[k]? with
  | some (.p, _) => false
  | some _ => true
  | none => false
def csU (ps : List Ph) (k : Nat) : List AV := match ps[k]? with
  | some (.a c, _) => c
  | _ => []
def OsU (ps : List Ph) (ids : Nat → Nat) (O : OA) : Nat → OA
  | 0 => O
  | i + 1 => match ps[i]? with
    | some (.t O', _) => O' (ids i)
    | _ => OsU ps ids O i
theorem OsU_step {ps : List Ph} {ids : Nat → Nat} {i : Nat} (h : isT ps i = false) : OsU ps ids O (i + 1) = OsU ps ids O i := by
  unfold isT at h
  simp only [OsU]
  split
  · rename_i h2; rw [h2] at h; cases h
  · rfl
theorem OsU_le {ps : List Ph} {ids : Nat → Nat} {q : Nat} : ∀ d, (∀ k, q ≤ k → k < q + d → isT ps k = false) → OsU ps ids O (q + d) = OsU ps ids O q
  | 0, _ => rfl
  | d + 1, h => by
    rw [← Nat.add_assoc, OsU_step (h (q + d) (by omega) (by omega))]
    exact OsU_le d fun k h1 h2 => h k h1 (by omega)
theorem OsU_eq {ps : List Ph} {ids : Nat → Nat} {q i : Nat} (h : ∀ k, isT ps k = true → (k < q ↔ k < i)) : OsU ps ids O q = OsU ps ids O i := by
  have key : ∀ q i, q ≤ i → (∀ k, isT ps k = true → (k < q ↔ k < i)) → OsU ps ids O q = OsU ps ids O i := fun q i hqi h => by
    obtain ⟨d, rfl⟩ := Nat.le.dest hqi
    refine (OsU_le d fun k h1 h2 => ?_).symm
    cases hk : isT ps k with
    | false => rfl
    | true => have := (h k hk).2 h2; omega
  rcases Nat.le_total q i with h1 | h1
  · exact key q i h1 h
  · exact (key i q h1 fun k hk => (h k hk).symm).symm
theorem OsU_congr {ps : List Ph} {ids ids' : Nat → Nat} : ∀ {q : Nat}, (∀ k, k < q → isT ps k = true → ids k = ids' k) → OsU ps ids O q = OsU ps ids' O q
  | 0, _ => rfl
  | q + 1, h => by
    simp only [OsU]
    have ih := OsU_congr (ps := ps) (q := q) fun k hk => h k (by omega)
    split
    · rename_i O' v hp
      rw [h q (by omega) (by simp [isT, hp])]
    · exact ih
def accU (ps : List Ph) (ids : Nat → Nat) : Nat → List (Nat × List AV)
  | 0 => []
  | i + 1 => if isU ps i then (ids i, csU ps i) :: accU ps ids i else accU ps ids i
def lstU (ps : List Ph) : Nat → List Nat
  | 0 => []
  | i + 1 => if isU ps i then i :: lstU ps i else lstU ps i
theorem accU_eq (ps : List Ph) (ids : Nat → Nat) : ∀ i, accU ps ids i = (lstU ps i).map fun u => (ids u, csU ps u)
  | 0 => rfl
  | i + 1 => by
    simp only [accU, lstU]
    split
    · rw [List.map_cons, accU_eq ps ids i]
    · exact accU_eq ps ids i
theorem mem_lstU (ps : List Ph) : ∀ i k, k ∈ lstU ps i ↔ k < i ∧ isU ps k = true
  | 0, k => by simp [lstU]
  | i + 1, k => by
    simp only [lstU]
    split
    · rename_i h
      rw [List.mem_cons, mem_lstU ps i k]
      constructor
      · rintro (rfl | h1)
        · exact ⟨by omega, h⟩
        · exact ⟨by omega, h1.2⟩
      · rintro ⟨h1, h2⟩
        by_cases e : k = i
        · exact .inl e
        · exact .inr ⟨by omega, h2⟩
    · rename_i h
      rw [mem_lstU ps i k]
      constructor
      · exact fun h1 => ⟨by omega, h1.2⟩
      · rintro ⟨h1, h2⟩
        have e : k ≠ i := fun e => h (e ▸ h2)
        exact ⟨by omega, h2⟩
theorem nodup_lstU (ps : List Ph) : ∀ i, (lstU ps i).Nodup
  | 0 => List.nodup_nil
  | i + 1 => by
    simp only [lstU]
    split
    · exact List.nodup_cons.2 ⟨fun h => by have := ((mem_lstU ps i i).1 h).1; omega, nodup_lstU ps i⟩
    · exact nodup_lstU ps i
theorem wpdU_steps {K : (Nat → AV) → St → Prop} (fr0 : Nat → AV) (ps : List Ph) (hm : ps.length ≤ ops.size) (ids : Nat → Nat) (hid : ∀ k, σ0.objs.length ≤ ids k) : ∀ (d i : Nat), i + d = ps.length → wpdU P σ0 ops S K i (ops.toList.drop i) (ps.drop i) (accU ps ids i) (OsU ps ids O i) (frT ops fr0 (aasU ps ids) i) →
    (∀ (k : Nat) (o : Oper) (p : Ph), i ≤ k → ops[k]? = some o → ps[k]? = some p → PhStep P σ0 ops S k o p (OsU ps ids O k) (frT ops fr0 (aasU ps ids) k)) ∧
      ∀ σ, Holds σ0 (accU ps ids ps.length ++ (OsU ps ids O ps.length).1) (OsU ps ids O ps.length).2 σ → wpdS P ops S K ps.length (ops.toList.drop ps.length) (frT ops fr0 (aasU ps ids) ps.length) σ
  | 0, i, hi, h => by
    have hi' : i = ps.length := by omega
    subst hi'
    rw [List.drop_of_length_le (Nat.le_refl _)] at h
    refine ⟨fun k o p hk _ hp => by have := (List.getElem?_eq_some_iff.1 hp).1; omega, fun σ hσ => ?_⟩
    unfold wpdU at h
    exact h σ hσ
  | d + 1, i, hi, h => by
    have hlt : i < ps.length := by omega
    have hlo : i < ops.size := by omega
    rw [List.drop_eq_getElem_cons hlt, List.drop_eq_getElem_cons (by simpa using hlo)] at h
    simp only [Array.getElem_toList] at h
    have hd : dstAt ops i = ops[i].dst := by simp [dstAt, Array.getElem?_eq_getElem hlo]
    have hp : ps[i]? = some ps[i] := List.getElem?_eq_getElem hlt
    unfold wpdU at h
    obtain ⟨h1, h2⟩ := h
    have key : wpdU P σ0 ops S K (i + 1) (ops.toList.drop (i + 1)) (ps.drop (i + 1)) (accU ps ids (i + 1)) (OsU ps ids O (i + 1)) (frT ops fr0 (aasU ps ids) (i + 1)) := by
      simp only [frT, hd]
      generalize hpi : ps[i] = p at h2
      rw [hpi] at hp
      obtain ⟨k, v⟩ := p
      cases k with
      | a c =>
        have e1 : isU ps i = true := by simp [isU, hp]
        have e2 : csU ps i = c := by simp [csU, hp]
        have e3 : aasU ps ids i = v (ids i) := by simp [aasU, hp, Ph.val]
        have e4 : OsU ps ids O (i + 1) = OsU ps ids O i := OsU_step (by simp [isT, hp])
        simp only [accU, e1, if_true, e2, e3, e4]
        exact h2 (ids i) (hid i)
      | p =>
        have e1 : isU ps i = false := by simp [isU, hp]
        have e3 : aasU ps ids i = v 0 := by simp [aasU, hp, Ph.val]
        have e4 : OsU ps ids O (i + 1) = OsU ps ids O i := OsU_step (by simp [isT, hp])
        simp only [accU, e1, e3, e4]
        exact h2
      | r =>
        have e1 : isU ps i = false := by simp [isU, hp]
        have e3 : aasU ps ids i = v 0 := by simp [aasU, hp, Ph.val]
        have e4 : OsU ps ids O (i + 1) = OsU ps ids O i := OsU_step (by simp [isT, hp])
        simp only [accU, e1, e3, e4]
        exact h2
      | t O' =>
        have e1 : isU ps i = false := by simp [isU, hp]
        have e3 : aasU ps ids i = v 0 := by simp [aasU, hp, Ph.val]
        have e4 : OsU ps ids O (i + 1) = O' (ids i) := by simp [OsU, hp]
        simp only [accU, e1, e3, e4]
        exact h2 (ids i) (hid i)
    obtain ⟨k1, k2⟩ := wpdU_steps fr0 ps hm ids hid d (i + 1) (by omega) key
    refine ⟨fun k o p hk ho hpk => ?_, k2⟩
    by_cases hki : k = i
    · subst hki
      rw [Array.getElem?_eq_getElem hlo] at ho
      cases ho
      rw [hp] at hpk
      cases hpk
      exact h1
    · exact k1 k o p (by omega) ho hpk

theorem frL_congr (fr0 : Nat → AV) {aas aas' : Nat → AV} {listed : Array Bool} (h : ∀ k, Lst listed k → aas k = aas' k) : frL ops fr0 aas listed = frL ops fr0 aas' listed := by
  funext t
  unfold frL
  cases wOf ops t with
  | none => rfl
  | some k =>
    simp only []
    split
    · rename_i hk; exact h k hk
    · rfl
theorem ClosedL.set {listed : Array Bool} (hc : ClosedL ops listed) {i : Nat} (hi : i ∈ Region.ready .any ops listed) : ClosedL ops (listed.setIfInBounds i true) := by
  obtain ⟨h0, o, ho, hall⟩ := mem_ready.1 hi
  intro k o' ho' hk e he hb
  by_cases hki : i = k
  · subst hki
    rw [ho] at ho'
    cases ho'
    exact getD_set_true (hall e he hb)
  · unfold Lst at hk
    rw [getD_set_ne false hki] at hk
    exact getD_set_true (hc k o' ho' hk e he hb)
theorem left_set {listed : Array Bool} {i : Nat} (hi : i < ops.size) (hl : listed.size = ops.size) (hn : ¬ Lst listed i) : ((List.range ops.size).filter fun k => !(listed.setIfInBounds i true).getD k false).length < ((List.range ops.size).filter fun k => !listed.getD k false).length := by
  refine filter_lt (fun x _ hx => ?_) ⟨i, List.mem_range.2 hi, by unfold Lst at hn; simpa using hn, by simp [hl, hi]⟩
  by_cases hxi : i = x
  · subst hxi; simp [hl, hi] at hx
  · rw [getD_set_ne false hxi] at hx; exact hx
theorem lst_set {listed : Array Bool} {i k : Nat} (hi : i < ops.size) (hl : listed.size = ops.size) : Lst (listed.setIfInBounds i true) k ↔ k = i ∨ Lst listed k := by
  unfold Lst
  by_cases h : i = k
  · subst h; simp [hl, hi]
  · rw [getD_set_ne false h]
    constructor
    · exact .inr
    · rintro (e | h1)
      · exact absurd e.symm h
      · exact h1

theorem ready_nil (c5 : chkEdges ops = true) {listed : Array Bool} (hl : listed.size = ops.size) (hr : Region.ready .any ops listed = []) : ∀ k, k < ops.size → Lst listed k := by
  have hedge : ∀ (k : Nat) (o : Oper), ops[k]? = some o → ∀ e ∈ o.after, Region.binds .any e = true → e.on < k := by
    intro k o ho e he hb
    unfold chkEdges at c5
    rw [List.all_eq_true] at c5
    have h1 := c5 k (List.mem_range.2 (Array.getElem?_eq_some_iff.1 ho).1)
    rw [ho] at h1
    simp only [List.all_eq_true] at h1
    have h2 := h1 e (Array.mem_toList_iff.2 he)
    simpa [hb] using h2
  intro k
  induction k using Nat.strongRecOn with
  | _ k ih =>
    intro hk
    cases hlk : listed.getD k false with
    | true => exact hlk
    | false =>
      have : k ∈ Region.ready .any ops listed := by
        refine mem_ready.2 ⟨?_, ops[k], Array.getElem?_eq_getElem hk, fun e he hb => ?_⟩
        · have : k < listed.size := by omega
          simpa [this] using hlk
        · have hlt := hedge k _ (Array.getElem?_eq_getElem hk) e he hb
          exact ih e.on hlt (by omega)
      rw [hr] at this
      cases this
theorem draw_from (hchk : drawChk ops S = true) (R : Nat → Prop) {Q : Exit → Act → World → Prop} (hdst : ∀ (j : Nat) (o : Oper), ops[j]? = some o → dstOk n o.dst) (fr0 : Nat → AV) (aas : Nat → AV) (σs : Nat → St)
    (hin : ∀ (i j : Nat) (o : Oper), R i → ops[i]? = some o → S[j]? = some i → AStep P ops o (frT ops fr0 aas i) (σs j) (aas i) (σs (j + 1)))
    (hout : ∀ (i : Nat) (o : Oper), R i → ops[i]? = some o → i ∉ S → ∀ j ∈ win ops S i, AStep P ops o (frT ops fr0 aas i) (σs j) (aas i) (σs j))
    (hQ : ∀ G' a' w', G.Le G' → Sim w0 G' n a' w' (frT ops fr0 aas ops.size) (σs S.length) → Q .normal a' w') :
    ∀ (fuel : Nat) (listed : Array Bool) (G' : Ghost) (a : Act) (w : World), ((List.range ops.size).filter fun k => !listed.getD k false).length ≤ fuel → listed.size = ops.size → ClosedL ops listed → (∀ k, ¬ R k → Lst listed k) → G.Le G' →
      Sim w0 G' n a w (frL ops fr0 aas listed) (σs (stg listed S)) → wpAny P .any ops Q fuel listed a w := by
  simp only [drawChk, Bool.and_eq_true] at hchk
  obtain ⟨⟨⟨⟨c1, c2⟩, c3⟩, c4⟩, c5⟩ := hchk
  have hend : ∀ (listed : Array Bool) (G' : Ghost) (a : Act) (w : World), listed.size = ops.size → ClosedL ops listed → G.Le G' → Sim w0 G' n a w (frL ops fr0 aas listed) (σs (stg listed S)) → Region.ready .any ops listed = [] → Q .normal a w := by
    intro listed G' a w hl hc hG hS hr
    have hall := ready_nil c5 hl hr
    have e1 : frL ops fr0 aas listed = frT ops fr0 aas ops.size := by
      funext t
      rw [frT_eq c3 fr0 aas t _ (Nat.le_refl _)]
      unfold frL
      cases hw : wOf ops t with
      | none => rfl
      | some k =>
        have hk := (wOf_dst hw).1
        simp only []
        rw [if_pos (show listed.getD k false = true from hall k hk), if_pos hk]
    have e2 : stg listed S = S.length := by
      obtain ⟨_, h2, h3⟩ := stg_spec c1 hc c4
      rcases Nat.lt_or_ge (stg listed S) S.length with hlt | hge
      · have hm : S[stg listed S] ∈ S.drop (stg listed S) := by
          rw [List.drop_eq_getElem_cons hlt]; exact List.mem_cons_self
        exact absurd (hall _ (chkS_mem c4 _ (List.getElem_mem hlt))) (h2 _ hm)
      · omega
    rw [e1, e2] at hS
    exact hQ G' a w hG hS
  intro fuel
  induction fuel with
  | zero =>
    intro listed G' a w hf hl hc hlow hG hS
    have hr : Region.ready .any ops listed = [] := by
      apply List.eq_nil_iff_forall_not_mem.2
      intro i hi
      have hn := ready_not hi
      obtain ⟨_, o, ho, _⟩ := mem_ready.1 hi
      have hilt : i < ops.size := (Array.getElem?_eq_some_iff.1 ho).1
      have : i ∈ (List.range ops.size).filter fun k => !listed.getD k false := by
        rw [List.mem_filter]
        exact ⟨List.mem_range.2 hilt, by unfold Lst at hn; simpa using hn⟩
      have := List.length_pos_of_mem this
      omega
    exact ⟨hr, hend listed G' a w hl hc hG hS hr⟩
  | succ fuel ih =>
    intro listed G' a w hf hl hc hlow hG hS
    refine ⟨fun hr => hend listed G' a w hl hc hG hS hr, fun i hi => ?_⟩
    obtain ⟨h0, o, ho, hall⟩ := mem_ready.1 hi
    have hilt : i < ops.size := (Array.getElem?_eq_some_iff.1 ho).1
    have hlk := frL_looks c1 c2 c3 fr0 aas hc ho hi
    have hmi : R i := Classical.byContradiction fun h => ready_not hi (hlow i h)
    have hstep : AStep P ops o (frL ops fr0 aas listed) (σs (stg listed S)) (aas i) (σs (stg (listed.setIfInBounds i true) S)) := by
      by_cases hiS : i ∈ S
      · obtain ⟨k1, k2⟩ := stg_in c1 hc hl hi c4 hiS
        rw [k2]
        exact (hin i _ o hmi ho k1).congr (fun t ht => (hlk t ht).symm)
      · rw [stg_notin hiS]
        exact (hout i o hmi ho hiS _ (win_mem c1 hc c4 hi)).congr (fun t ht => (hlk t ht).symm)
    refine AStep.sound ho hS hdst hstep (fun a' w' G2 hG2 hS2 => ?_)
    refine ih (listed.setIfInBounds i true) G2 a' w' (by have := left_set hilt hl (ready_not hi); omega) (by simpa using hl) (hc.set hi) (fun k hk => (lst_set hilt hl).2 (.inr (hlow k hk))) (hG.trans hG2) ?_
    rw [frL_set c3 fr0 aas hilt hl]
    have : dstAt ops i = o.dst := by simp [dstAt, ho]
    rw [this]
    exact hS2

theorem at_lst (c1 : chkTab ops (Region.before ops) = true) {listed : Array Bool} (hc : ClosedL ops listed) {i : Nat} (hi : i ∈ Region.ready .any ops listed) (ha : chkAt (Region.before ops) S i = true) {k : Nat} (hk : k ∈ S) (hks : k < ops.size) (hki : k ≠ i) : Lst listed k ↔ k < i := by
  unfold chkAt at ha
  rw [List.all_eq_true] at ha
  have h1 := ha k hk
  simp only [Bool.or_eq_true, beq_iff_eq, hki, false_or] at h1
  obtain ⟨_, o, ho, _⟩ := mem_ready.1 hi
  have hilt : i < ops.size := (Array.getElem?_eq_some_iff.1 ho).1
  by_cases h : k < i
  · rw [if_pos h] at h1
    exact ⟨fun _ => h, fun _ => ready_before c1 hc hi hks h1⟩
  · rw [if_neg h] at h1
    exact ⟨fun hl => absurd (before_listed c1 hc hilt k k (Nat.le_refl _) hks h1 (fun o' ho' e he hbd => hc k o' ho' hl e he hbd)) (ready_not hi), fun hh => absurd hh h⟩
theorem draw_first {Q : Exit → Act → World → Prop} (c1 : chkTab ops (Region.before ops) = true) (c2 : chkNames ops (Region.before ops) = true) (c3 : chkDst ops = true) (c5 : chkEdges ops = true) (hdst : ∀ (j : Nat) (o : Oper), ops[j]? = some o → dstOk n o.dst) (fr0 : Nat → AV) (ps : List Ph) (I : List Nat) (hm : ps.length < ops.size)
    (hf : chkFirst (Region.before ops) I ps.length ops.size = true) (hI : ∀ k, isI ps k = true → k ∈ I) (hIs : ∀ i ∈ I, i < ps.length)
    (hstep : ∀ ids, (∀ k, σ0.objs.length ≤ ids k) → ∀ (k : Nat) (o : Oper) (p : Ph), ops[k]? = some o → ps[k]? = some p → PhStep P σ0 ops S k o p (OsU ps ids O k) (frT ops fr0 (aasU ps ids) k))
    (hnext : ∀ ids σ G' a w fuel (listed : Array Bool), (∀ k, σ0.objs.length ≤ ids k) → ((List.range ops.size).filter fun k => !listed.getD k false).length ≤ fuel → listed.size = ops.size → ClosedL ops listed → (∀ k, Lst listed k → k < ps.length) → (∀ k, isI ps k = true → Lst listed k) → G.Le G' → Holds σ0 (accU ps ids ps.length ++ (OsU ps ids O ps.length).1) (OsU ps ids O ps.length).2 σ → Sim w0 G' n a w (frL ops fr0 (aasU ps ids) listed) σ → wpAny P .any ops Q fuel listed a w) :
    ∀ (fuel : Nat) (listed : Array Bool) (ids : Nat → Nat) (L : List Nat) (q : Nat) (σ : St) (G' : Ghost) (a : Act) (w : World), ((List.range ops.size).filter fun k => !listed.getD k false).length ≤ fuel → listed.size = ops.size → ClosedL ops listed → (∀ k, Lst listed k → k < ps.length) → (∀ k, σ0.objs.length ≤ ids k) → L.Nodup → (∀ k, k ∈ L ↔ isU ps k = true ∧ Lst listed k) → (∀ k, isT ps k = true → (Lst listed k ↔ k < q)) → G.Le G' →
      Holds σ0 ((OsU ps ids O q).1 ++ L.map (fun u => (ids u, csU ps u))) (OsU ps ids O q).2 σ → Sim w0 G' n a w (frL ops fr0 (aasU ps ids) listed) σ → wpAny P .any ops Q fuel listed a w := by
  have tI : ∀ k, isT ps k = true → isI ps k = true := fun k h => by
    unfold isT at h; unfold isI
    split at h
    · rename_i h2; rw [h2]
    · cases h
  have uI : ∀ k, isU ps k = true → isI ps k = true := fun k h => by
    unfold isU at h; unfold isI
    split at h
    · rename_i h2; rw [h2]
    · cases h
  have tS : ∀ k, isT ps k = true → k ∈ S := fun k h => by
    unfold isT at h
    split at h
    · rename_i O' v h2
      have hkl := (List.getElem?_eq_some_iff.1 h2).1
      have hst := hstep (fun _ => σ0.objs.length) (fun _ => Nat.le_refl _) k _ _ (Array.getElem?_eq_getElem (show k < ops.size by omega)) h2
      unfold PhStep at hst
      simpa using hst.1
    · cases h
  intro fuel
  induction fuel with
  | zero =>
    intro listed ids L q σ G' a w hfu hl hc hlt hid hL hLm hq hG hH hS
    exfalso
    have : ps.length ∈ (List.range ops.size).filter fun k => !listed.getD k false := by
      rw [List.mem_filter]
      refine ⟨List.mem_range.2 hm, ?_⟩
      have hn : ¬ Lst listed ps.length := fun h => absurd (hlt _ h) (Nat.lt_irrefl _)
      unfold Lst at hn
      simpa using hn
    have := List.length_pos_of_mem this
    omega
  | succ fuel ih =>
    intro listed ids L q σ G' a w hfu hl hc hlt hid hL hLm hq hG hH hS
    by_cases hall : ∀ k, isI ps k = true → Lst listed k
    · refine hnext ids σ G' a w (fuel + 1) listed hid hfu hl hc hlt hall hG ?_ hS
      have e1 : OsU ps ids O q = OsU ps ids O ps.length := OsU_eq fun k hk => ⟨fun h => hlt k ((hq k hk).2 h), fun _ => (hq k hk).1 (hall k (tI k hk))⟩
      rw [← e1]
      refine hH.perm (List.perm_append_comm.trans (List.Perm.append_right _ ?_))
      rw [accU_eq]
      refine List.Perm.map _ ((List.perm_ext_iff_of_nodup hL (nodup_lstU ps _)).2 fun k => ?_)
      rw [hLm, mem_lstU]
      exact ⟨fun h => ⟨hlt k h.2, h.1⟩, fun h => ⟨h.2, hall k (uI k h.2)⟩⟩
    · have hnear : ∀ i ∈ Region.ready .any ops listed, i < ps.length := by
        intro i hi
        rcases Nat.lt_or_ge i ps.length with h | h
        · exact h
        · exfalso
          refine hall fun k hk => ?_
          obtain ⟨_, o, ho, _⟩ := mem_ready.1 hi
          have hilt : i < ops.size := (Array.getElem?_eq_some_iff.1 ho).1
          have h2 := hf
          unfold chkFirst at h2
          rw [List.all_eq_true] at h2
          have h3 := h2 i (List.mem_range.2 hilt)
          simp only [Bool.or_eq_true, decide_eq_true_eq, List.all_eq_true] at h3
          have h4 := (h3.resolve_left (by omega)) k (hI k hk)
          exact ready_before c1 hc hi (by have := hIs k (hI k hk); omega) h4
      refine ⟨fun hr => ?_, fun i hi => ?_⟩
      · exfalso
        exact absurd (hlt _ (ready_nil c5 hl hr ps.length hm)) (Nat.lt_irrefl _)
      · obtain ⟨h0, o, ho, hal⟩ := mem_ready.1 hi
        have hilt : i < ops.size := (Array.getElem?_eq_some_iff.1 ho).1
        have hin := hnear i hi
        have hni := ready_not hi
        obtain ⟨p, hp⟩ : ∃ p, ps[i]? = some p := ⟨_, List.getElem?_eq_getElem hin⟩
        have hst := hstep ids hid i o _ ho hp
        have hlk := frL_looks c1 c2 c3 fr0 (aasU ps ids) hc ho hi
        have hdd : dstAt ops i = o.dst := by simp [dstAt, ho]
        have hleft := left_set hilt hl hni
        have hlt2 : ∀ k, Lst (listed.setIfInBounds i true) k → k < ps.length := fun k hk => by
          rcases (lst_set hilt hl).1 hk with rfl | h
          · exact hin
          · exact hlt k h
        have hat : chkAt (Region.before ops) S i = true → ∀ k, isT ps k = true → k ≠ i → (k < q ↔ k < i) := fun ha k hk hki => (hq k hk).symm.trans (at_lst c1 hc hi ha (tS k hk) (by have := hIs k (hI k (tI k hk)); omega) hki)
        obtain ⟨kd, v⟩ := p
        unfold PhStep at hst
        have plain : isU ps i = false → isT ps i = false → aasU ps ids i = v 0 → AStep P ops o (frT ops fr0 (aasU ps ids) i) σ (v 0) σ → wpOp P ops Q i (wpAny P .any ops Q fuel (listed.setIfInBounds i true)) a w := by
          intro e1 e2 e3 hs1
          refine AStep.sound ho hS hdst (hs1.congr (fun t ht => (hlk t ht).symm)) (fun a' w' G2 hG2 hS2 => ?_)
          refine ih _ ids L q σ G2 a' w' (by omega) (by simpa using hl) (hc.set hi) hlt2 hid hL (fun k => ?_) (fun k hk => ?_) (hG.trans hG2) hH ?_
          · rw [hLm, lst_set hilt hl]
            constructor
            · exact fun h => ⟨h.1, .inr h.2⟩
            · rintro ⟨h1, rfl | h2⟩
              · rw [e1] at h1; cases h1
              · exact ⟨h1, h2⟩
          · rw [← hq k hk, lst_set hilt hl]
            constructor
            · rintro (rfl | h)
              · rw [e2] at hk; cases hk
              · exact h
            · exact .inr
          · rw [frL_set c3 fr0 _ hilt hl, hdd, e3]
            exact hS2
        cases kd with
        | p => exact plain (by simp [isU, hp]) (by simp [isT, hp]) (by simp [aasU, hp, Ph.val]) (hst σ)
        | r =>
          have e2 : isT ps i = false := by simp [isT, hp]
          refine plain (by simp [isU, hp]) e2 (by simp [aasU, hp, Ph.val]) (hst.2 (L.map fun u => (ids u, csU ps u)) σ ?_)
          rw [← OsU_eq (q := q) fun k hk => hat hst.1 k hk (fun e => by rw [e, e2] at hk; cases hk)]
          exact hH
        | t O' =>
          have e2 : isT ps i = true := by simp [isT, hp]
          have e1 : isU ps i = false := by simp [isU, hp]
          have e3 : aasU ps ids i = v 0 := by simp [aasU, hp, Ph.val]
          have hiq : ¬ i < q := fun h => hni ((hq i e2).2 h)
          have hq2 : ∀ k, isT ps k = true → (k < q ↔ k < i) := fun k hk => by
            by_cases hki : k = i
            · subst hki
              exact ⟨fun h => absurd h hiq, fun h => absurd h (Nat.lt_irrefl _)⟩
            · exact hat hst.2.1 k hk hki
          obtain ⟨id, τ, hs1, hH2, hid2⟩ := hst.2.2 (L.map fun u => (ids u, csU ps u)) σ (by rw [← OsU_eq hq2]; exact hH)
          refine AStep.sound ho hS hdst (hs1.congr (fun t ht => (hlk t ht).symm)) (fun a' w' G2 hG2 hS2 => ?_)
          have hiL : i ∉ L := fun h => hni ((hLm i).1 h).2
          have e6 : L.map (fun u => ((if u = i then id else ids u), csU ps u)) = L.map (fun u => (ids u, csU ps u)) := List.map_congr_left fun u hu => by
            rw [if_neg (show ¬ u = i from fun e => hiL (e ▸ hu))]
          have e7 : aasU ps (fun k => if k = i then id else ids k) = aasU ps ids := by
            funext k
            by_cases hki : k = i
            · subst hki; simp [aasU, hp, Ph.val]
            · simp [aasU, hki]
          refine ih _ (fun k => if k = i then id else ids k) L (i + 1) τ G2 a' w' (by omega) (by simpa using hl) (hc.set hi) hlt2 (fun k => ?_) hL (fun k => ?_) (fun k hk => ?_) (hG.trans hG2) ?_ ?_
          · split
            · exact hid2
            · exact hid k
          · rw [hLm, lst_set hilt hl]
            constructor
            · exact fun h => ⟨h.1, .inr h.2⟩
            · rintro ⟨h1, rfl | h2⟩
              · rw [e1] at h1; cases h1
              · exact ⟨h1, h2⟩
          · rw [lst_set hilt hl, hq k hk, hq2 k hk]
            omega
          · have e4 : OsU ps (fun k => if k = i then id else ids k) O (i + 1) = O' id := by simp [OsU, hp]
            rw [e4, e6]
            exact hH2
          · rw [frL_set c3 fr0 _ hilt hl, hdd, e7, e3]
            exact hS2
        | a c =>
          have e1 : isU ps i = true := by simp [isU, hp]
          have e2 : csU ps i = c := by simp [csU, hp]
          have e5 : isT ps i = false := by simp [isT, hp]
          obtain ⟨id, τ, hs1, hH2, hid2⟩ := hst σ _ _ hH
          refine AStep.sound ho hS hdst (hs1.congr (fun t ht => (hlk t ht).symm)) (fun a' w' G2 hG2 hS2 => ?_)
          have hiL : i ∉ L := fun h => hni ((hLm i).1 h).2
          have e4 : ∀ k, k ≠ i → aasU ps (fun k => if k = i then id else ids k) k = aasU ps ids k := fun k hk => by simp [aasU, hk]
          refine ih _ (fun k => if k = i then id else ids k) (i :: L) q τ G2 a' w' (by omega) (by simpa using hl) (hc.set hi) hlt2 (fun k => ?_) (List.nodup_cons.2 ⟨hiL, hL⟩) (fun k => ?_) (fun k hk => ?_) (hG.trans hG2) ?_ ?_
          · split
            · exact hid2
            · exact hid k
          · rw [List.mem_cons, hLm, lst_set hilt hl]
            constructor
            · rintro (rfl | h)
              · exact ⟨e1, .inl rfl⟩
              · exact ⟨h.1, .inr h.2⟩
            · rintro ⟨h1, rfl | h2⟩
              · exact .inl rfl
              · exact .inr ⟨h1, h2⟩
          · rw [← hq k hk, lst_set hilt hl]
            constructor
            · rintro (rfl | h)
              · rw [e5] at hk; cases hk
              · exact h
            · exact .inr
          · have e6 : L.map (fun u => ((if u = i then id else ids u), csU ps u)) = L.map (fun u => (ids u, csU ps u)) := List.map_congr_left fun u hu => by
              rw [if_neg (show ¬ u = i from fun e => hiL (e ▸ hu))]
            have e8 : OsU ps (fun k => if k = i then id else ids k) O q = OsU ps ids O q := OsU_congr fun k hk ht => by
              rw [if_neg (show ¬ k = i from fun e => by subst e; rw [e5] at ht; cases ht)]
            rw [e8]
            refine hH2.perm ?_
            rw [List.map_cons, e6, e2, if_pos rfl]
            exact List.perm_middle.symm
          · rw [frL_set c3 fr0 _ hilt hl, hdd, frL_congr (aas' := aasU ps ids) fr0 (fun k hk => e4 k (fun e => hni (e ▸ hk)))]
            have e3 : aasU ps (fun k => if k = i then id else ids k) i = v id := by simp [aasU, hp, Ph.val]
            rw [e3]
            exact hS2
theorem take_filter {p : Nat → Bool} {l : List Nat} {j : Nat} (hj : j ≤ l.length) (h : ∀ s ∈ l.take j, p s = true) : j ≤ (l.filter p).length := by
  have h1 : ((l.take j).filter p).length ≤ (l.filter p).length := ((List.take_sublist j l).filter p).length_le
  rw [List.filter_eq_self.2 h, List.length_take] at h1
  omega
theorem awp_drawU {O : List (Nat × List AV)} {A : List Nat} (hm : P.follows .mixedOrders = true) {σ : St} {id : Nat} {Q : AExit → (Nat → AV) → St → Prop} {fr : Nat → AV} (hH : Holds σ0 O A σ) (m : Nat) (I : List Nat) (ps : List Ph) (S : List Nat) (hpm : ps.length = m) (hI : I = (List.range m).filter (isI ps)) (hd : allDst n ops = true) (hchk : drawChk ops S = true) (hs : srt S ops.size = true) (hl : cnt S ops.size = S.length)
    (hlt : Nat.ble (m + 1) ops.size = true) (hf : chkFirst (Region.before ops) I m ops.size = true) (hST : S.all (fun s => Nat.ble m s || isI ps s) = true) (h : wpdU P σ0 ops S (Q .normal) 0 ops.toList ps [] (O, A) fr) : AWP P n (.region id ops true) Q fr σ := by
  subst hpm
  have hchk0 := hchk
  simp only [drawChk, Bool.and_eq_true] at hchk
  obtain ⟨⟨⟨⟨c1, c2⟩, c3⟩, c4⟩, c5⟩ := hchk
  have hlt' : ps.length < ops.size := Nat.le_of_ble_eq_true hlt
  have hIl : ∀ k, isI ps k = true → k < ps.length := fun k hk => by
    rcases Nat.lt_or_ge k ps.length with h | h
    · exact h
    · unfold isI at hk
      rw [List.getElem?_eq_none h] at hk
      cases hk
  have hIm : ∀ k, k ∈ I ↔ isI ps k = true := fun k => by
    rw [hI, List.mem_filter, List.mem_range]
    exact ⟨fun h => h.2, fun h => ⟨hIl k h, h⟩⟩
  have hst := fun (ids : Nat → Nat) (hid : ∀ k, σ0.objs.length ≤ ids k) => wpdU_steps (K := Q .normal) (ops := ops) (S := S) (O := (O, A)) (P := P) fr ps (by omega) ids hid ps.length 0 (by omega) (by simpa [frT, accU, OsU] using h)
  intro w0 G a w hS
  refine wp_region_any hm ?_
  have hrep : ∀ k, ¬ Lst (Array.replicate ops.size false) k := fun k hk => by
    unfold Lst at hk
    rw [Array.getD_eq_getD_getElem?, Array.getElem?_replicate] at hk
    split at hk <;> simp at hk
  refine draw_first (w0 := w0) (G := G) (n := n) (O := (O, A)) (σ0 := σ0) (S := S) c1 c2 c3 c5 (allDst_spec hd) fr ps I hlt' hf (fun k hk => (hIm k).2 hk) (fun i hi => hIl i ((hIm i).1 hi)) (fun ids hid k o p ho hp => (hst ids hid).1 k o p (Nat.zero_le _) ho hp) ?_ ops.size (Array.replicate ops.size false) (fun _ => σ0.objs.length) [] 0 σ G a _ ?_ (by simp) (fun k o ho hk => absurd hk (hrep k)) (fun k hk => absurd hk (hrep k)) (fun _ => Nat.le_refl _) List.nodup_nil (fun k => by simp only [List.not_mem_nil, false_iff]; exact fun h => hrep k h.2) (fun k _ => ⟨fun h => absurd h (hrep k), fun h => absurd h (Nat.not_lt_zero _)⟩) (.refl G) (by simpa [OsU] using hH) ?_
  · intro ids σ1 G1 a1 w1 fuel listed hid hfu hls hcl hlow hall hG1 hH1 hS1
    have hw := (hst ids hid).2 σ1 hH1
    obtain ⟨aas, σs, k1, k2, k3, k4⟩ := wpdS_steps (P := P) (ops := ops) (S := S) (K := Q .normal) fr hs (ops.size - ps.length) ps.length (aasU ps ids) (fun _ => σ1) (by omega) hw
    have hstg : stg listed S ≤ cnt S ps.length := by
      obtain ⟨t1, t2, t3⟩ := stg_spec c1 hcl c4
      exact take_filter t3 fun s hs2 => Nat.ble_eq_true_of_le (show s + 1 ≤ ps.length from hlow s (t1 s hs2))
    have low : ∀ i, ¬ Lst listed i → i < ps.length → ∀ (o : Oper), ops[i]? = some o → i ∉ S ∧ ∀ τ, AStep P ops o (frT ops fr aas i) τ (aas i) τ := fun i hr hil o ho => by
      obtain ⟨p, hp⟩ : ∃ p, ps[i]? = some p := ⟨_, List.getElem?_eq_getElem hil⟩
      have hni : isI ps i = false := by
        cases h : isI ps i with
        | false => rfl
        | true => exact absurd (hall i h) hr
      refine ⟨fun hiS => ?_, ?_⟩
      · have h3 := List.all_eq_true.1 hST i hiS
        rw [hni, Bool.or_false] at h3
        have := Nat.le_of_ble_eq_true h3
        omega
      · have hst2 := (hst ids hid).1 i o p (Nat.zero_le _) ho hp
        obtain ⟨kd, v⟩ := p
        have e3 : aas i = v 0 := by
          rw [k1 i hil]
          unfold isI at hni
          rw [hp] at hni
          cases kd <;> simp at hni
          simp [aasU, hp, Ph.val]
        have e4 : frT ops fr aas i = frT ops fr (aasU ps ids) i := frT_congr fr i fun k hk => k1 k (by omega)
        rw [e3, e4]
        unfold isI at hni
        rw [hp] at hni
        cases kd <;> simp at hni
        exact hst2
    refine draw_from (w0 := w0) (G := G) hchk0 (fun k => ¬ Lst listed k) (allDst_spec hd) fr aas σs (fun i j o hmi ho hj => ?_) (fun i o hmi ho hi j hj => ?_) (fun G' a' w' h1 h2 => ⟨.normal, _, _, G', trivial, h1, h2, by rw [← hl]; exact k3⟩) fuel listed G1 a1 w1 hfu hls hcl (fun k hk => Classical.byContradiction hk) hG1 ?_
    · have hi : S.contains i = true := by simpa using List.mem_of_getElem? hj
      have hmi2 : ps.length ≤ i := by
        rcases Nat.lt_or_ge i ps.length with h | h
        · exact absurd (List.mem_of_getElem? hj) (low i hmi h o ho).1
        · exact h
      have hcj : cnt S i = j := by
        have h2 := hs
        simp only [srt, Bool.and_eq_true, List.all_eq_true] at h2
        have hjl := (List.getElem?_eq_some_iff.1 hj).1
        have := h2.1 j (by simpa using hjl)
        rw [List.getD_eq_getElem?_getD, hj] at this
        simpa using this
      have := (k4 i o hmi2 ho).1 hi
      rw [hcj] at this
      exact this
    · rcases Nat.lt_or_ge i ps.length with h | h
      · exact (low i hmi h o ho).2 _
      · exact (k4 i o h ho).2 (by simpa using hi) j hj
    · rw [k2 _ hstg, frL_congr (aas' := aasU ps ids) fr (fun k hk => k1 k (hlow k hk))]
      exact hS1
  · exact Nat.le_trans (List.length_filter_le _ _) (by simp)
  · have hfr : frL ops fr (aasU ps fun _ => σ0.objs.length) (Array.replicate ops.size false) = fr := by
      funext t
      unfold frL
      cases wOf ops t with
      | none => rfl
      | some k =>
        simp only []
        rw [if_neg (show ¬ (Array.replicate ops.size false).getD k false = true from hrep k)]
    rw [hfr]
    exact ⟨hS.inv.drew, hS.frm, hS.size, hS.defers⟩
end
section
variable {P : Program} {σ0 : St} {O : List (Nat × List AV)} {A : List Nat} {ops : Array Oper} {S : List Nat} {K : (Nat → AV) → St → Prop} {i : Nat} {o : Oper} {rest : List Oper} {ps : List Ph} {acc : List (Nat × List AV)} {l : List (Nat × AV)} {t : Tmp}
theorem wpdU_nil (h : ∀ σ, Holds σ0 (acc ++ O) A σ → wpdS P ops S K i rest (fm l) σ) : wpdU P σ0 ops S K i rest [] acc (O, A) (fm l) := by
  unfold wpdU
  exact h
theorem wpdU_mv {a : AV} (hd : o.dst = some t) (hg : guardOf ops o (fm l) = some true) (ho : OpP P o (fm l) a) (h : wpdU P σ0 ops S K (i + 1) rest ps acc (O, A) (fm ((t, a) :: l))) : wpdU P σ0 ops S K i (o :: rest) ((.p, fun _ => a) :: ps) acc (O, A) (fm l) := by
  unfold wpdU
  refine ⟨fun τ => ?_, by rw [hd]; exact h⟩
  simp only [AStep, hg]
  exact ho τ
theorem wpdU_a {av : Nat → AV} {c : List AV} (hd : o.dst = some t) (hg : guardOf ops o (fm l) = some true) (ho : ∀ σ O' A, Holds σ0 O' A σ → ∃ b τ, OpS P o (fm l) σ (fun a' τ' => a' = av b ∧ τ' = τ) ∧ (Holds σ0 ((b, c) :: O') A τ ∧ σ0.objs.length ≤ b)) (h : ∀ b, σ0.objs.length ≤ b → wpdU P σ0 ops S K (i + 1) rest ps ((b, c) :: acc) (O, A) (fm ((t, av b) :: l))) : wpdU P σ0 ops S K i (o :: rest) ((.a c, av) :: ps) acc (O, A) (fm l) := by
  unfold wpdU
  refine ⟨fun σ O' A' hH => ?_, fun id hid => by rw [hd]; exact h id hid⟩
  obtain ⟨b, τ, h1, h2, h3⟩ := ho σ O' A' hH
  refine ⟨b, τ, ?_, h2, h3⟩
  simp only [AStep, hg]
  exact h1
end
section
variable {P : Program} {Ty : TypeId → Option TI} {fr : Nat → AV} {σ : St} {d : Option Tmp} {ty T T' : TypeId} {pos : String} {af : Array Edge} {gd : Option (Nat × Bool)} {ox oy : Operand}
end

section
variable {P : Program} {n : Nat} {σ σ0 : St} {O : List (Nat × List AV)} {A : List Nat}
end
section
variable {P : Program} {σ : St}
variable {σ0 : St} {O : List (Nat × List AV)} {A : List Nat} {fr : Nat → AV}
end
section
variable {P : Program} {Ty : TypeId → Option TI} {σ σ0 : St} {O : List (Nat × List AV)} {A' : List Nat} {ops : Array Oper} {fr : Nat → AV} {d : Option Tmp} {ty : TypeId} {pos : String} {af : Array Edge} {g : Option (Nat × Bool)} {ox oy oi : Operand} {T T' E U : TypeId} {α : Type} {e : α → AV} {sz id m cap : Nat}
end
end Go.Va
namespace Go.Va
end Go.Va
namespace Go.Va
open Go Go.RowKit
section
variable {P : Program} {Ty : TypeId → Option TI} {σ σ0 : St} {O : List (Nat × List AV)} {A' : List Nat} {fr : Nat → AV} {d : Option Tmp} {ty : TypeId} {pos : String} {af : Array Edge} {g : Option (Nat × Bool)} {ox oy : Operand} {T E : TypeId} {α : Type} {e : α → AV} {sz : Nat}
end
end Go.Va
namespace Go.Va
end Go.Va
namespace Go.Va
end Go.Va
namespace Go.Va
open Go Go.RowKit
set_option linter.unusedVariables false
set_option linter.unusedSimpArgs false
section
variable {P : Program} {Ty : TypeId → Option TI} {n : Nat} {σ : St} {ops : Array Oper} {K : (Nat → AV) → St → Prop} {o : Oper} {rest : List Oper} {l : List (Nat × AV)} {t : Nat}
def gd (ops : Array Oper) (n : Nat) (o : Oper) (fr : Nat → AV) : Option Nat := match guardOf ops o fr with
  | some true => match o.dst with | some t => bif Nat.ble (t + 1) n then some t else none | none => none
  | _ => none
theorem gd_some {fr : Nat → AV} (h : gd ops n o fr = some t) : o.dst = some t ∧ Nat.ble (t + 1) n = true ∧ guardOf ops o fr = some true := by
  unfold gd at h
  split at h
  · rename_i h1
    split at h
    · rename_i u h2
      cases hb : Nat.ble (u + 1) n with
      | true => rw [hb] at h; simp only [cond_true, Option.some.injEq] at h; subst h; exact ⟨h2, hb, h1⟩
      | false => rw [hb] at h; simp at h
    · cases h
  · cases h
theorem m_ (a : AV) (h : gd ops n o (fm l) = some t) (ho : OpP P o (fm l) a) (k : wpo P n ops K rest (fm ((t, a) :: l)) σ) : wpo P n ops K (o :: rest) (fm l) σ := by
  obtain ⟨h1, h2, h3⟩ := gd_some h
  exact wpo_mv h1 h2 h3 ho k
variable {x y c : Operand} {ty : TypeId} {pos : String} {af : Array Edge} {g : Option (Nat × Bool)} {d : Option Tmp}
theorem mm (hT : TyOk P Ty) (a : AV) (h : gd ops n ⟨d, .move x, ty, pos, af, g⟩ (fm l) = some t) (hx : aeval (fm l) x = a) (k : wpo P n ops K rest (fm ((t, a) :: l)) σ) : wpo P n ops K (⟨d, .move x, ty, pos, af, g⟩ :: rest) (fm l) σ := m_ a h (o_mv hT hx (Wk.refl _)) k
theorem ma (hT : TyOk P Ty) (a : AV) (h : gd ops n ⟨d, .assign x, ty, pos, af, g⟩ (fm l) = some t) (hx : aeval (fm l) x = a) (k : wpo P n ops K rest (fm ((t, a) :: l)) σ) : wpo P n ops K (⟨d, .assign x, ty, pos, af, g⟩ :: rest) (fm l) σ := m_ a h (o_as hT hx (Wk.refl _)) k
theorem mc (hT : TyOk P Ty) (a : AV) (h : gd ops n o (fm l) = some t) (hc : callOf o = none) (ho : ∀ τ, aop Ty false o (aeval (fm l)) τ = some (a, τ)) (k : wpo P n ops K rest (fm ((t, a) :: l)) σ) : wpo P n ops K (o :: rest) (fm l) σ := m_ a h (o_c hT false hc ho) k
def gk (ops : Array Oper) (n : Nat) (o : Oper) (fr : Nat → AV) : Option Nat := match guardOf ops o fr with
  | some false => match o.dst with | some t => bif Nat.ble (t + 1) n then some t else none | none => none
  | _ => none
theorem k_ (h : gk ops n o (fm l) = some t) (k : wpo P n ops K rest (fm ((t, .tup []) :: l)) σ) : wpo P n ops K (o :: rest) (fm l) σ := by
  unfold gk at h
  split at h
  · rename_i h1
    split at h
    · rename_i u h2
      cases hb : Nat.ble (u + 1) n with
      | true => rw [hb] at h; simp only [cond_true, Option.some.injEq] at h; subst h; exact wpo_skip h2 hb h1 k
      | false => rw [hb] at h; simp at h
    · cases h
  · cases h
theorem l_ {α β : Type} {z : α} {f : α → Option β} {r : β} (H : lt z f = some r) (enc : α → AV) (h : gd ops n o (fm l) = some t) (ho : OpP P o (fm l) (enc z)) (k : ∀ x, f x = some r → wpo P n ops K rest (fm ((t, enc x) :: l)) σ) : wpo P n ops K (o :: rest) (fm l) σ := by
  obtain ⟨h1, h2, h3⟩ := gd_some h
  exact wpo_lt H enc h1 h2 h3 ho k
theorem b_ {α β : Type} {z : Option α} {f : α → Option β} {r : β} (H : z.bind f = some r) (enc : α → AV) (h : gd ops n o (fm l) = some t) (ho : ∀ x, z = some x → OpP P o (fm l) (enc x)) (k : ∀ x, z = some x → f x = some r → wpo P n ops K rest (fm ((t, enc x) :: l)) σ) : wpo P n ops K (o :: rest) (fm l) σ := by
  obtain ⟨h1, h2, h3⟩ := gd_some h
  exact wpo_bd H enc h1 h2 h3 ho k
theorem pt (hT : TyOk P Ty) (a : AV) (h : gd ops n ⟨d, .pick c x y, ty, pos, af, g⟩ (fm l) = some t) (hc : aeval (fm l) c = .bool true) (hx : aeval (fm l) x = a) (k : wpo P n ops K rest (fm ((t, a) :: l)) σ) : wpo P n ops K (⟨d, .pick c x y, ty, pos, af, g⟩ :: rest) (fm l) σ := m_ a h (o_pick_t hT hc hx (Wk.refl _)) k
theorem pf (hT : TyOk P Ty) (a : AV) (h : gd ops n ⟨d, .pick c x y, ty, pos, af, g⟩ (fm l) = some t) (hc : aeval (fm l) c = .bool false) (hx : aeval (fm l) y = a) (k : wpo P n ops K rest (fm ((t, a) :: l)) σ) : wpo P n ops K (⟨d, .pick c x y, ty, pos, af, g⟩ :: rest) (fm l) σ := m_ a h (o_pick_f hT hc hx (Wk.refl _)) k
theorem sr {id : Nat} {y : Code} {Q : AExit → (Nat → AV) → St → Prop} {fr : Nat → AV} (hd : allDst n ops = true) (h : wpo P n ops (thenQ (AWP P n y Q) Q .normal) ops.toList fr σ) : AWP P n (.seq (.region id ops false) y) Q fr σ := awp_seq (awp_region hd h)
end
theorem ob {α β : Type} {x : Option α} {f : α → Option β} {b : β} (h : x.bind f = some b) : ∃ a, x = some a ∧ f a = some b := Option.bind_eq_some_iff.1 h
theorem nb {a b : Nat} (h : Nat.ble a b = true) : a ≤ b := Nat.le_of_ble_eq_true h
theorem wr {a : AV} : Wk a a := .refl a
theorem wc {f : Nat → AV} {t : Nat} {l : List (Nat × AV)} (k : WkF f (fm l)) : WkF f (fm ((t, f t) :: l)) := wkf_cons (.refl _) k
theorem oi {α : Type} {x y : α} (h : some x = some y) : x = y := Option.some.inj h
section
variable {α β : Type}
def mix [DecidableEq α] (m : List (α × β)) (k : α) : Option Nat := (m.map (·.1)).findIdx? fun x => decide (x = k)
end
section
variable {α β : Type} {P : Program} {Ty : TypeId → Option TI} {σ σ0 : St} {O : List (Nat × List AV)} {A : List Nat} {fr : Nat → AV} {d : Option Tmp} {ty : TypeId} {pos : String} {af : Array Edge} {g : Option (Nat × Bool)} {om ox oy : Operand} {T K E U : TypeId} {ek : α → AV} {ev : β → AV}
end
section
variable {P : Program} {n : Nat} {σ σ0 : St} {O : List (Nat × List AV)} {A : List Nat}
variable {fr : Nat → AV}
end
section
variable {P : Program} {Ty : TypeId → Option TI} {fr : Nat → AV} {d : Option Tmp} {ty : TypeId} {pos : String} {af : Array Edge} {g : Option (Nat × Bool)} {ox oy : Operand} {T E : TypeId} {α : Type} {e : α → AV} {sz : Nat}
end
section
variable {P : Program} {σ0 : St} {O : List (Nat × List AV)} {A : List Nat} {ops : Array Oper} {S : List Nat} {K : (Nat → AV) → St → Prop} {i : Nat} {o : Oper} {rest : List Oper} {ps : List Ph} {acc : List (Nat × List AV)} {l : List (Nat × AV)} {t : Nat}
end
end Go.Va
namespace Go.Proofs.YtggeboakilalhaaDoor
open Go Go.Va
set_option linter.unusedSimpArgs false
def ty_0 : TypeId → Option TI
  | 1 => some ⟨.func, 1, 8, .nilf⟩
  | 2 => some ⟨.int .i64, 1, 8, .int .i64 0⟩
  | 3 => some ⟨.int .i64, 1, 8, .int .i64 0⟩
  | 4 => some ⟨.bool, 1, 1, .bool false⟩
  | 5 => some ⟨.int .u8, 1, 1, .int .u8 0⟩
  | 6 => some ⟨.int .u8, 1, 1, .int .u8 0⟩
  | 7 => some ⟨.struct [(0, 2), (1, 3), (2, 4), (3, 6)], 4, 24, .agg [.int .i64 0, .int .i64 0, .bool false, .int .u8 0]⟩
  | 8 => some ⟨.struct [(0, 2), (1, 3), (2, 4), (3, 6)], 4, 24, .agg [.int .i64 0, .int .i64 0, .bool false, .int .u8 0]⟩
  | 9 => some ⟨.str, 1, 16, .str ⟨#[]⟩⟩
  | 10 => some ⟨.str, 1, 16, .str ⟨#[]⟩⟩
  | 11 => some ⟨.str, 1, 16, .str ⟨#[]⟩⟩
  | 12 => some ⟨.int .u64, 1, 8, .int .u64 0⟩
  | 13 => some ⟨.struct [(0, 9), (1, 12)], 2, 24, .agg [.str ⟨#[]⟩, .int .u64 0]⟩
  | 14 => some ⟨.struct [(0, 9), (1, 12)], 2, 24, .agg [.str ⟨#[]⟩, .int .u64 0]⟩
  | 15 => some ⟨.ptr 155, 1, 8, .nilp⟩
  | 16 => some ⟨.ptr 158, 1, 8, .nilp⟩
  | 17 => some ⟨.ptr 167, 1, 8, .nilp⟩
  | 18 => some ⟨.struct [(0, 17)], 1, 8, .agg [.nilp]⟩
  | 19 => some ⟨.struct [(0, 17)], 1, 8, .agg [.nilp]⟩
  | 20 => some ⟨.iface, 1, 16, .nili⟩
  | 21 => some ⟨.int .i32, 1, 4, .int .i32 0⟩
  | 22 => some ⟨.int .u16, 1, 2, .int .u16 0⟩
  | 23 => some ⟨.slice 41, 1, 24, .nils⟩
  | 24 => some ⟨.func, 1, 8, .nilf⟩
  | 25 => some ⟨.func, 1, 8, .nilf⟩
  | 26 => some ⟨.ptr 72, 1, 8, .nilp⟩
  | 27 => some ⟨.iface, 1, 16, .nili⟩
  | 28 => some ⟨.iface, 1, 16, .nili⟩
  | 30 => some ⟨.func, 1, 8, .nilf⟩
  | 31 => some ⟨.slice 39, 1, 24, .nils⟩
  | 32 => some ⟨.struct [(0, 3), (1, 31)], 2, 32, .agg [.int .i64 0, .nils]⟩
  | 33 => some ⟨.struct [(0, 3), (1, 31)], 2, 32, .agg [.int .i64 0, .nils]⟩
  | 34 => some ⟨.int .i64, 1, 8, .int .i64 0⟩
  | 36 => some ⟨.func, 1, 8, .nilf⟩
  | 37 => some ⟨.slice 5, 1, 24, .nils⟩
  | 38 => some ⟨.struct [(0, 9), (1, 3), (2, 3), (3, 3), (4, 37)], 5, 64, .agg [.str ⟨#[]⟩, .int .i64 0, .int .i64 0, .int .i64 0, .nils]⟩
  | 39 => some ⟨.struct [(0, 9), (1, 3), (2, 3), (3, 3), (4, 37)], 5, 64, .agg [.str ⟨#[]⟩, .int .i64 0, .int .i64 0, .int .i64 0, .nils]⟩
  | 40 => some ⟨.struct [(0, 3), (1, 39), (6, 3)], 7, 80, .agg [.int .i64 0, .str ⟨#[]⟩, .int .i64 0, .int .i64 0, .int .i64 0, .nils, .int .i64 0]⟩
  | 41 => some ⟨.struct [(0, 3), (1, 39), (6, 3)], 7, 80, .agg [.int .i64 0, .str ⟨#[]⟩, .int .i64 0, .int .i64 0, .int .i64 0, .nils, .int .i64 0]⟩
  | 43 => some ⟨.func, 1, 8, .nilf⟩
  | 45 => some ⟨.func, 1, 8, .nilf⟩
  | 46 => some ⟨.func, 1, 8, .nilf⟩
  | 48 => some ⟨.func, 1, 8, .nilf⟩
  | 49 => some ⟨.func, 1, 8, .nilf⟩
  | 50 => some ⟨.func, 1, 8, .nilf⟩
  | 51 => some ⟨.func, 1, 8, .nilf⟩
  | 52 => some ⟨.func, 1, 8, .nilf⟩
  | 53 => some ⟨.func, 1, 8, .nilf⟩
  | 54 => some ⟨.func, 1, 8, .nilf⟩
  | 55 => some ⟨.func, 1, 8, .nilf⟩
  | 56 => some ⟨.func, 1, 8, .nilf⟩
  | 57 => some ⟨.func, 1, 8, .nilf⟩
  | 58 => some ⟨.func, 1, 8, .nilf⟩
  | 59 => some ⟨.func, 1, 8, .nilf⟩
  | 60 => some ⟨.func, 1, 8, .nilf⟩
  | 61 => some ⟨.func, 1, 8, .nilf⟩
  | 62 => some ⟨.func, 1, 8, .nilf⟩
  | 63 => some ⟨.ptr 101, 1, 8, .nilp⟩
  | 65 => some ⟨.func, 1, 8, .nilf⟩
  | 66 => some ⟨.func, 1, 8, .nilf⟩
  | _ => none
def ty_1 : TypeId → Option TI
  | 67 => some ⟨.ptr 104, 1, 8, .nilp⟩
  | 69 => some ⟨.func, 1, 8, .nilf⟩
  | 70 => some ⟨.slice 3, 1, 24, .nils⟩
  | 71 => some ⟨.struct [(0, 63), (1, 67), (2, 70), (3, 70), (4, 31), (5, 3)], 6, 96, .agg [.nilp, .nilp, .nils, .nils, .nils, .int .i64 0]⟩
  | 72 => some ⟨.struct [(0, 63), (1, 67), (2, 70), (3, 70), (4, 31), (5, 3)], 6, 96, .agg [.nilp, .nilp, .nils, .nils, .nils, .int .i64 0]⟩
  | 73 => some ⟨.func, 1, 8, .nilf⟩
  | 74 => some ⟨.func, 1, 8, .nilf⟩
  | 75 => some ⟨.func, 1, 8, .nilf⟩
  | 76 => some ⟨.func, 1, 8, .nilf⟩
  | 78 => some ⟨.func, 1, 8, .nilf⟩
  | 79 => some ⟨.func, 1, 8, .nilf⟩
  | 80 => some ⟨.ptr 3, 1, 8, .nilp⟩
  | 81 => some ⟨.func, 1, 8, .nilf⟩
  | 82 => some ⟨.func, 1, 8, .nilf⟩
  | 83 => some ⟨.func, 1, 8, .nilf⟩
  | 85 => some ⟨.func, 1, 8, .nilf⟩
  | 87 => some ⟨.func, 1, 8, .nilf⟩
  | 88 => some ⟨.func, 1, 8, .nilf⟩
  | 90 => some ⟨.func, 1, 8, .nilf⟩
  | 91 => some ⟨.func, 1, 8, .nilf⟩
  | 92 => some ⟨.func, 1, 8, .nilf⟩
  | 93 => some ⟨.func, 1, 8, .nilf⟩
  | 94 => some ⟨.ptr 98, 1, 8, .nilp⟩
  | 95 => some ⟨.func, 1, 8, .nilf⟩
  | 96 => some ⟨.ptr 94, 1, 8, .nilp⟩
  | 97 => some ⟨.struct [(0, 9), (1, 3), (2, 34), (3, 28)], 4, 48, .agg [.str ⟨#[]⟩, .int .i64 0, .int .i64 0, .nili]⟩
  | 98 => some ⟨.struct [(0, 9), (1, 3), (2, 34), (3, 28)], 4, 48, .agg [.str ⟨#[]⟩, .int .i64 0, .int .i64 0, .nili]⟩
  | 99 => some ⟨.arr 9 3, 9, 72, .agg [.int .i64 0, .int .i64 0, .int .i64 0, .int .i64 0, .int .i64 0, .int .i64 0, .int .i64 0, .int .i64 0, .int .i64 0]⟩
  | 100 => some ⟨.struct [(0, 3), (1, 3), (2, 99)], 11, 88, .agg [.int .i64 0, .int .i64 0, .int .i64 0, .int .i64 0, .int .i64 0, .int .i64 0, .int .i64 0, .int .i64 0, .int .i64 0, .int .i64 0, .int .i64 0]⟩
  | 101 => some ⟨.struct [(0, 3), (1, 3), (2, 99)], 11, 88, .agg [.int .i64 0, .int .i64 0, .int .i64 0, .int .i64 0, .int .i64 0, .int .i64 0, .int .i64 0, .int .i64 0, .int .i64 0, .int .i64 0, .int .i64 0]⟩
  | 102 => some ⟨.slice 106, 1, 24, .nils⟩
  | 103 => some ⟨.struct [(0, 102), (1, 70), (2, 70), (3, 70), (4, 3), (5, 3)], 6, 112, .agg [.nils, .nils, .nils, .nils, .int .i64 0, .int .i64 0]⟩
  | 104 => some ⟨.struct [(0, 102), (1, 70), (2, 70), (3, 70), (4, 3), (5, 3)], 6, 112, .agg [.nils, .nils, .nils, .nils, .int .i64 0, .int .i64 0]⟩
  | 105 => some ⟨.struct [(0, 3), (1, 3), (2, 3), (3, 3)], 4, 32, .agg [.int .i64 0, .int .i64 0, .int .i64 0, .int .i64 0]⟩
  | 106 => some ⟨.struct [(0, 3), (1, 3), (2, 3), (3, 3)], 4, 32, .agg [.int .i64 0, .int .i64 0, .int .i64 0, .int .i64 0]⟩
  | 107 => some ⟨.func, 1, 8, .nilf⟩
  | 108 => some ⟨.func, 1, 8, .nilf⟩
  | 109 => some ⟨.func, 1, 8, .nilf⟩
  | 110 => some ⟨.func, 1, 8, .nilf⟩
  | 111 => some ⟨.int .u64, 1, 8, .int .u64 0⟩
  | 112 => some ⟨.func, 1, 8, .nilf⟩
  | 113 => some ⟨.func, 1, 8, .nilf⟩
  | 114 => some ⟨.func, 1, 8, .nilf⟩
  | 115 => some ⟨.func, 1, 8, .nilf⟩
  | 116 => some ⟨.func, 1, 8, .nilf⟩
  | 117 => some ⟨.func, 1, 8, .nilf⟩
  | 118 => some ⟨.func, 1, 8, .nilf⟩
  | 119 => some ⟨.func, 1, 8, .nilf⟩
  | 120 => some ⟨.func, 1, 8, .nilf⟩
  | 121 => some ⟨.func, 1, 8, .nilf⟩
  | 123 => some ⟨.int .u64, 1, 8, .int .u64 0⟩
  | 126 => some ⟨.func, 1, 8, .nilf⟩
  | 127 => some ⟨.iface, 1, 16, .nili⟩
  | 128 => some ⟨.iface, 1, 16, .nili⟩
  | 129 => some ⟨.func, 1, 8, .nilf⟩
  | 130 => some ⟨.int .u8, 1, 1, .int .u8 0⟩
  | 131 => some ⟨.func, 1, 8, .nilf⟩
  | 132 => some ⟨.func, 1, 8, .nilf⟩
  | 133 => some ⟨.func, 1, 8, .nilf⟩
  | 134 => some ⟨.int .u64, 1, 8, .int .u64 0⟩
  | _ => none
def ty_2 : TypeId → Option TI
  | 135 => some ⟨.func, 1, 8, .nilf⟩
  | 136 => some ⟨.func, 1, 8, .nilf⟩
  | 137 => some ⟨.func, 1, 8, .nilf⟩
  | 138 => some ⟨.struct [(0, 17)], 1, 8, .agg [.nilp]⟩
  | 139 => some ⟨.struct [(0, 17)], 1, 8, .agg [.nilp]⟩
  | 140 => some ⟨.ptr 171, 1, 8, .nilp⟩
  | 141 => some ⟨.func, 1, 8, .nilf⟩
  | 142 => some ⟨.func, 1, 8, .nilf⟩
  | 143 => some ⟨.func, 1, 8, .nilf⟩
  | 144 => some ⟨.iface, 1, 16, .nili⟩
  | 146 => some ⟨.func, 1, 8, .nilf⟩
  | 147 => some ⟨.iface, 1, 16, .nili⟩
  | 148 => some ⟨.func, 1, 8, .nilf⟩
  | 149 => some ⟨.iface, 1, 16, .nili⟩
  | 150 => some ⟨.slice 28, 1, 24, .nils⟩
  | 151 => some ⟨.func, 1, 8, .nilf⟩
  | 152 => some ⟨.func, 1, 8, .nilf⟩
  | 153 => some ⟨.func, 1, 8, .nilf⟩
  | 154 => some ⟨.struct [(0, 17), (1, 17), (2, 17), (3, 9)], 4, 40, .agg [.nilp, .nilp, .nilp, .str ⟨#[]⟩]⟩
  | 155 => some ⟨.struct [(0, 17), (1, 17), (2, 17), (3, 9)], 4, 40, .agg [.nilp, .nilp, .nilp, .str ⟨#[]⟩]⟩
  | 159 => some ⟨.func, 1, 8, .nilf⟩
  | 160 => some ⟨.int .u32, 1, 4, .int .u32 0⟩
  | 161 => some ⟨.int .u8, 1, 1, .int .u8 0⟩
  | 162 => some ⟨.func, 1, 8, .nilf⟩
  | 163 => some ⟨.ptr 5, 1, 8, .nilp⟩
  | 164 => some ⟨.int .i32, 1, 4, .int .i32 0⟩
  | 165 => some ⟨.int .i32, 1, 4, .int .i32 0⟩
  | 166 => some ⟨.struct [(0, 12), (1, 12), (2, 160), (3, 161), (4, 5), (5, 5), (6, 130), (7, 162), (8, 163), (9, 164), (10, 165)], 11, 48, .agg [.int .u64 0, .int .u64 0, .int .u32 0, .int .u8 0, .int .u8 0, .int .u8 0, .int .u8 0, .nilf, .nilp, .int .i32 0, .int .i32 0]⟩
  | 167 => some ⟨.struct [(0, 12), (1, 12), (2, 160), (3, 161), (4, 5), (5, 5), (6, 130), (7, 162), (8, 163), (9, 164), (10, 165)], 11, 48, .agg [.int .u64 0, .int .u64 0, .int .u32 0, .int .u8 0, .int .u8 0, .int .u8 0, .int .u8 0, .nilf, .nilp, .int .i32 0, .int .i32 0]⟩
  | 168 => some ⟨.func, 1, 8, .nilf⟩
  | 169 => some ⟨.func, 1, 8, .nilf⟩
  | 170 => some ⟨.struct [(0, 9), (1, 130)], 2, 24, .agg [.str ⟨#[]⟩, .int .u8 0]⟩
  | 171 => some ⟨.struct [(0, 9), (1, 130)], 2, 24, .agg [.str ⟨#[]⟩, .int .u8 0]⟩
  | 172 => some ⟨.ptr 175, 1, 8, .nilp⟩
  | 173 => some ⟨.func, 1, 8, .nilf⟩
  | 174 => some ⟨.struct [(0, 164), (1, 22), (2, 22), (3, 160), (4, 160)], 5, 16, .agg [.int .i32 0, .int .u16 0, .int .u16 0, .int .u32 0, .int .u32 0]⟩
  | 175 => some ⟨.struct [(0, 164), (1, 22), (2, 22), (3, 160), (4, 160)], 5, 16, .agg [.int .i32 0, .int .u16 0, .int .u16 0, .int .u32 0, .int .u32 0]⟩
  | 176 => some ⟨.slice 179, 1, 24, .nils⟩
  | 177 => some ⟨.int .i32, 1, 4, .int .i32 0⟩
  | 178 => some ⟨.struct [(0, 164), (1, 165), (2, 177), (3, 177)], 4, 16, .agg [.int .i32 0, .int .i32 0, .int .i32 0, .int .i32 0]⟩
  | 179 => some ⟨.struct [(0, 164), (1, 165), (2, 177), (3, 177)], 4, 16, .agg [.int .i32 0, .int .i32 0, .int .i32 0, .int .i32 0]⟩
  | 180 => some ⟨.ptr 28, 1, 8, .nilp⟩
  | _ => none
def ty : TypeId → Option TI := fun t => bif Nat.ble t 66 then ty_0 t else bif Nat.ble t 134 then ty_1 t else ty_2 t
theorem ty3 : ty 3 = some ⟨.int .i64, 1, 8, .int .i64 0⟩ := rfl
theorem td3 : tdOf ty 3 = .int .i64 := rfl
theorem sz3 : szOf ty 3 = 1 := rfl
theorem td4 : tdOf ty 4 = .bool := rfl
theorem sz4 : szOf ty 4 = 1 := rfl
theorem ty5 : ty 5 = some ⟨.int .u8, 1, 1, .int .u8 0⟩ := rfl
theorem td5 : tdOf ty 5 = .int .u8 := rfl
theorem sz5 : szOf ty 5 = 1 := rfl
theorem td9 : tdOf ty 9 = .str := rfl
theorem sz9 : szOf ty 9 = 1 := rfl
theorem td22 : tdOf ty 22 = .int .u16 := rfl
theorem sz22 : szOf ty 22 = 1 := rfl
theorem td23 : tdOf ty 23 = .slice 41 := rfl
theorem sz23 : szOf ty 23 = 1 := rfl
theorem ty28 : ty 28 = some ⟨.iface, 1, 16, .nili⟩ := rfl
theorem sz28 : szOf ty 28 = 1 := rfl
theorem ty31 : ty 31 = some ⟨.slice 39, 1, 24, .nils⟩ := rfl
theorem td31 : tdOf ty 31 = .slice 39 := rfl
theorem sz31 : szOf ty 31 = 1 := rfl
theorem ty33 : ty 33 = some ⟨.struct [(0, 3), (1, 31)], 2, 32, .agg [.int .i64 0, .nils]⟩ := rfl
theorem sz33 : szOf ty 33 = 2 := rfl
theorem td34 : tdOf ty 34 = .int .i64 := rfl
theorem sz34 : szOf ty 34 = 1 := rfl
theorem ty37 : ty 37 = some ⟨.slice 5, 1, 24, .nils⟩ := rfl
theorem td37 : tdOf ty 37 = .slice 5 := rfl
theorem sz37 : szOf ty 37 = 1 := rfl
theorem ty39 : ty 39 = some ⟨.struct [(0, 9), (1, 3), (2, 3), (3, 3), (4, 37)], 5, 64, .agg [.str ⟨#[]⟩, .int .i64 0, .int .i64 0, .int .i64 0, .nils]⟩ := rfl
theorem sz39 : szOf ty 39 = 5 := rfl
theorem sz41 : szOf ty 41 = 7 := rfl
theorem td70 : tdOf ty 70 = .slice 3 := rfl
theorem sz70 : szOf ty 70 = 1 := rfl
theorem ty94 : ty 94 = some ⟨.ptr 98, 1, 8, .nilp⟩ := rfl
theorem sz98 : szOf ty 98 = 4 := rfl
theorem td99 : tdOf ty 99 = .arr 9 3 := rfl
theorem td102 : tdOf ty 102 = .slice 106 := rfl
theorem ty106 : ty 106 = some ⟨.struct [(0, 3), (1, 3), (2, 3), (3, 3)], 4, 32, .agg [.int .i64 0, .int .i64 0, .int .i64 0, .int .i64 0]⟩ := rfl
theorem sz106 : szOf ty 106 = 4 := rfl
theorem td111 : tdOf ty 111 = .int .u64 := rfl
theorem sz111 : szOf ty 111 = 1 := rfl
theorem ok1 : TiOk Tryd.prog 1 ⟨.func, 1, 8, .nilf⟩ := tiOk_mk (.nilFunc) ⟨_, _, _, Tryd.underlying1⟩ (by kernel_rfl) rfl rfl rfl (by simp [Value.cells, Value.oneCell'])
theorem ok2 : TiOk Tryd.prog 2 ⟨.int .i64, 1, 8, .int .i64 0⟩ := tiOk_mk (.int .i64 0) Tryd.underlying2 (by kernel_rfl) rfl rfl rfl (by simp [Value.cells, Value.oneCell'])
theorem ok3 : TiOk Tryd.prog 3 ⟨.int .i64, 1, 8, .int .i64 0⟩ := tiOk_mk (.int .i64 0) Tryd.underlying3 (by kernel_rfl) rfl rfl rfl (by simp [Value.cells, Value.oneCell'])
theorem ok4 : TiOk Tryd.prog 4 ⟨.bool, 1, 1, .bool false⟩ := tiOk_mk (.bool false) Tryd.underlying4 (by kernel_rfl) rfl rfl rfl (by simp [Value.cells, Value.oneCell'])
theorem ok5 : TiOk Tryd.prog 5 ⟨.int .u8, 1, 1, .int .u8 0⟩ := tiOk_mk (.int .u8 0) Tryd.underlying5 (by kernel_rfl) rfl rfl rfl (by simp [Value.cells, Value.oneCell'])
theorem ok6 : TiOk Tryd.prog 6 ⟨.int .u8, 1, 1, .int .u8 0⟩ := tiOk_mk (.int .u8 0) Tryd.underlying6 (by kernel_rfl) rfl rfl rfl (by simp [Value.cells, Value.oneCell'])
theorem ok7 : TiOk Tryd.prog 7 ⟨.struct [(0, 2), (1, 3), (2, 4), (3, 6)], 4, 24, .agg [.int .i64 0, .int .i64 0, .bool false, .int .u8 0]⟩ := tiOk_mk (.agg #[.int .i64 0, .int .i64 0, .bool false, .int .u8 0]) ⟨_, Tryd.underlying7, rfl⟩ (by kernel_rfl) rfl rfl rfl (by simp [Value.cells, Value.oneCell'])
theorem ok8 : TiOk Tryd.prog 8 ⟨.struct [(0, 2), (1, 3), (2, 4), (3, 6)], 4, 24, .agg [.int .i64 0, .int .i64 0, .bool false, .int .u8 0]⟩ := tiOk_mk (.agg #[.int .i64 0, .int .i64 0, .bool false, .int .u8 0]) ⟨_, Tryd.underlying8, rfl⟩ (by kernel_rfl) rfl rfl rfl (by simp [Value.cells, Value.oneCell'])
theorem ok9 : TiOk Tryd.prog 9 ⟨.str, 1, 16, .str ⟨#[]⟩⟩ := tiOk_mk (.string ⟨#[]⟩) Tryd.underlying9 (by kernel_rfl) rfl rfl rfl (by simp [Value.cells, Value.oneCell'])
theorem ok10 : TiOk Tryd.prog 10 ⟨.str, 1, 16, .str ⟨#[]⟩⟩ := tiOk_mk (.string ⟨#[]⟩) Tryd.underlying10 (by kernel_rfl) rfl rfl rfl (by simp [Value.cells, Value.oneCell'])
theorem ok11 : TiOk Tryd.prog 11 ⟨.str, 1, 16, .str ⟨#[]⟩⟩ := tiOk_mk (.string ⟨#[]⟩) Tryd.underlying11 (by kernel_rfl) rfl rfl rfl (by simp [Value.cells, Value.oneCell'])
theorem ok12 : TiOk Tryd.prog 12 ⟨.int .u64, 1, 8, .int .u64 0⟩ := tiOk_mk (.int .u64 0) Tryd.underlying12 (by kernel_rfl) rfl rfl rfl (by simp [Value.cells, Value.oneCell'])
theorem ok13 : TiOk Tryd.prog 13 ⟨.struct [(0, 9), (1, 12)], 2, 24, .agg [.str ⟨#[]⟩, .int .u64 0]⟩ := tiOk_mk (.agg #[.string ⟨#[]⟩, .int .u64 0]) ⟨_, Tryd.underlying13, rfl⟩ (by kernel_rfl) rfl rfl rfl (by simp [Value.cells, Value.oneCell'])
theorem ok14 : TiOk Tryd.prog 14 ⟨.struct [(0, 9), (1, 12)], 2, 24, .agg [.str ⟨#[]⟩, .int .u64 0]⟩ := tiOk_mk (.agg #[.string ⟨#[]⟩, .int .u64 0]) ⟨_, Tryd.underlying14, rfl⟩ (by kernel_rfl) rfl rfl rfl (by simp [Value.cells, Value.oneCell'])
theorem ok15 : TiOk Tryd.prog 15 ⟨.ptr 155, 1, 8, .nilp⟩ := tiOk_mk (.pointer none) Tryd.underlying15 (by kernel_rfl) rfl rfl rfl (by simp [Value.cells, Value.oneCell'])
theorem ok16 : TiOk Tryd.prog 16 ⟨.ptr 158, 1, 8, .nilp⟩ := tiOk_mk (.pointer none) Tryd.underlying16 (by kernel_rfl) rfl rfl rfl (by simp [Value.cells, Value.oneCell'])
theorem ok17 : TiOk Tryd.prog 17 ⟨.ptr 167, 1, 8, .nilp⟩ := tiOk_mk (.pointer none) Tryd.underlying17 (by kernel_rfl) rfl rfl rfl (by simp [Value.cells, Value.oneCell'])
theorem ok18 : TiOk Tryd.prog 18 ⟨.struct [(0, 17)], 1, 8, .agg [.nilp]⟩ := tiOk_mk (.agg #[.pointer none]) ⟨_, Tryd.underlying18, rfl⟩ (by kernel_rfl) rfl rfl rfl (by simp [Value.cells, Value.oneCell'])
theorem ok19 : TiOk Tryd.prog 19 ⟨.struct [(0, 17)], 1, 8, .agg [.nilp]⟩ := tiOk_mk (.agg #[.pointer none]) ⟨_, Tryd.underlying19, rfl⟩ (by kernel_rfl) rfl rfl rfl (by simp [Value.cells, Value.oneCell'])
theorem ok20 : TiOk Tryd.prog 20 ⟨.iface, 1, 16, .nili⟩ := tiOk_mk (.nilIface) ⟨_, Tryd.underlying20⟩ (by kernel_rfl) rfl rfl rfl (by simp [Value.cells, Value.oneCell'])
theorem ok21 : TiOk Tryd.prog 21 ⟨.int .i32, 1, 4, .int .i32 0⟩ := tiOk_mk (.int .i32 0) Tryd.underlying21 (by kernel_rfl) rfl rfl rfl (by simp [Value.cells, Value.oneCell'])
theorem ok22 : TiOk Tryd.prog 22 ⟨.int .u16, 1, 2, .int .u16 0⟩ := tiOk_mk (.int .u16 0) Tryd.underlying22 (by kernel_rfl) rfl rfl rfl (by simp [Value.cells, Value.oneCell'])
theorem ok23 : TiOk Tryd.prog 23 ⟨.slice 41, 1, 24, .nils⟩ := tiOk_mk (.slice none 0 0) Tryd.underlying23 (by kernel_rfl) rfl rfl rfl (by simp [Value.cells, Value.oneCell'])
theorem ok24 : TiOk Tryd.prog 24 ⟨.func, 1, 8, .nilf⟩ := tiOk_mk (.nilFunc) ⟨_, _, _, Tryd.underlying24⟩ (by kernel_rfl) rfl rfl rfl (by simp [Value.cells, Value.oneCell'])
theorem ok25 : TiOk Tryd.prog 25 ⟨.func, 1, 8, .nilf⟩ := tiOk_mk (.nilFunc) ⟨_, _, _, Tryd.underlying25⟩ (by kernel_rfl) rfl rfl rfl (by simp [Value.cells, Value.oneCell'])
theorem ok26 : TiOk Tryd.prog 26 ⟨.ptr 72, 1, 8, .nilp⟩ := tiOk_mk (.pointer none) Tryd.underlying26 (by kernel_rfl) rfl rfl rfl (by simp [Value.cells, Value.oneCell'])
theorem ok27 : TiOk Tryd.prog 27 ⟨.iface, 1, 16, .nili⟩ := tiOk_mk (.nilIface) ⟨_, Tryd.underlying27⟩ (by kernel_rfl) rfl rfl rfl (by simp [Value.cells, Value.oneCell'])
theorem ok28 : TiOk Tryd.prog 28 ⟨.iface, 1, 16, .nili⟩ := tiOk_mk (.nilIface) ⟨_, Tryd.underlying28⟩ (by kernel_rfl) rfl rfl rfl (by simp [Value.cells, Value.oneCell'])
theorem ok30 : TiOk Tryd.prog 30 ⟨.func, 1, 8, .nilf⟩ := tiOk_mk (.nilFunc) ⟨_, _, _, Tryd.underlying30⟩ (by kernel_rfl) rfl rfl rfl (by simp [Value.cells, Value.oneCell'])
theorem ok31 : TiOk Tryd.prog 31 ⟨.slice 39, 1, 24, .nils⟩ := tiOk_mk (.slice none 0 0) Tryd.underlying31 (by kernel_rfl) rfl rfl rfl (by simp [Value.cells, Value.oneCell'])
theorem ok32 : TiOk Tryd.prog 32 ⟨.struct [(0, 3), (1, 31)], 2, 32, .agg [.int .i64 0, .nils]⟩ := tiOk_mk (.agg #[.int .i64 0, .slice none 0 0]) ⟨_, Tryd.underlying32, rfl⟩ (by kernel_rfl) rfl rfl rfl (by simp [Value.cells, Value.oneCell'])
theorem ok33 : TiOk Tryd.prog 33 ⟨.struct [(0, 3), (1, 31)], 2, 32, .agg [.int .i64 0, .nils]⟩ := tiOk_mk (.agg #[.int .i64 0, .slice none 0 0]) ⟨_, Tryd.underlying33, rfl⟩ (by kernel_rfl) rfl rfl rfl (by simp [Value.cells, Value.oneCell'])
theorem ok34 : TiOk Tryd.prog 34 ⟨.int .i64, 1, 8, .int .i64 0⟩ := tiOk_mk (.int .i64 0) Tryd.underlying34 (by kernel_rfl) rfl rfl rfl (by simp [Value.cells, Value.oneCell'])
theorem ok36 : TiOk Tryd.prog 36 ⟨.func, 1, 8, .nilf⟩ := tiOk_mk (.nilFunc) ⟨_, _, _, Tryd.underlying36⟩ (by kernel_rfl) rfl rfl rfl (by simp [Value.cells, Value.oneCell'])
theorem ok37 : TiOk Tryd.prog 37 ⟨.slice 5, 1, 24, .nils⟩ := tiOk_mk (.slice none 0 0) Tryd.underlying37 (by kernel_rfl) rfl rfl rfl (by simp [Value.cells, Value.oneCell'])
theorem ok38 : TiOk Tryd.prog 38 ⟨.struct [(0, 9), (1, 3), (2, 3), (3, 3), (4, 37)], 5, 64, .agg [.str ⟨#[]⟩, .int .i64 0, .int .i64 0, .int .i64 0, .nils]⟩ := tiOk_mk (.agg #[.string ⟨#[]⟩, .int .i64 0, .int .i64 0, .int .i64 0, .slice none 0 0]) ⟨_, Tryd.underlying38, rfl⟩ (by kernel_rfl) rfl rfl rfl (by simp [Value.cells, Value.oneCell'])
theorem ok39 : TiOk Tryd.prog 39 ⟨.struct [(0, 9), (1, 3), (2, 3), (3, 3), (4, 37)], 5, 64, .agg [.str ⟨#[]⟩, .int .i64 0, .int .i64 0, .int .i64 0, .nils]⟩ := tiOk_mk (.agg #[.string ⟨#[]⟩, .int .i64 0, .int .i64 0, .int .i64 0, .slice none 0 0]) ⟨_, Tryd.underlying39, rfl⟩ (by kernel_rfl) rfl rfl rfl (by simp [Value.cells, Value.oneCell'])
theorem ok40 : TiOk Tryd.prog 40 ⟨.struct [(0, 3), (1, 39), (6, 3)], 7, 80, .agg [.int .i64 0, .str ⟨#[]⟩, .int .i64 0, .int .i64 0, .int .i64 0, .nils, .int .i64 0]⟩ := tiOk_mk (.agg #[.int .i64 0, .string ⟨#[]⟩, .int .i64 0, .int .i64 0, .int .i64 0, .slice none 0 0, .int .i64 0]) ⟨_, Tryd.underlying40, rfl⟩ (by kernel_rfl) rfl rfl rfl (by simp [Value.cells, Value.oneCell'])
theorem ok41 : TiOk Tryd.prog 41 ⟨.struct [(0, 3), (1, 39), (6, 3)], 7, 80, .agg [.int .i64 0, .str ⟨#[]⟩, .int .i64 0, .int .i64 0, .int .i64 0, .nils, .int .i64 0]⟩ := tiOk_mk (.agg #[.int .i64 0, .string ⟨#[]⟩, .int .i64 0, .int .i64 0, .int .i64 0, .slice none 0 0, .int .i64 0]) ⟨_, Tryd.underlying41, rfl⟩ (by kernel_rfl) rfl rfl rfl (by simp [Value.cells, Value.oneCell'])
theorem ok43 : TiOk Tryd.prog 43 ⟨.func, 1, 8, .nilf⟩ := tiOk_mk (.nilFunc) ⟨_, _, _, Tryd.underlying43⟩ (by kernel_rfl) rfl rfl rfl (by simp [Value.cells, Value.oneCell'])
theorem ok45 : TiOk Tryd.prog 45 ⟨.func, 1, 8, .nilf⟩ := tiOk_mk (.nilFunc) ⟨_, _, _, Tryd.underlying45⟩ (by kernel_rfl) rfl rfl rfl (by simp [Value.cells, Value.oneCell'])
theorem ok46 : TiOk Tryd.prog 46 ⟨.func, 1, 8, .nilf⟩ := tiOk_mk (.nilFunc) ⟨_, _, _, Tryd.underlying46⟩ (by kernel_rfl) rfl rfl rfl (by simp [Value.cells, Value.oneCell'])
theorem ok48 : TiOk Tryd.prog 48 ⟨.func, 1, 8, .nilf⟩ := tiOk_mk (.nilFunc) ⟨_, _, _, Tryd.underlying48⟩ (by kernel_rfl) rfl rfl rfl (by simp [Value.cells, Value.oneCell'])
theorem ok49 : TiOk Tryd.prog 49 ⟨.func, 1, 8, .nilf⟩ := tiOk_mk (.nilFunc) ⟨_, _, _, Tryd.underlying49⟩ (by kernel_rfl) rfl rfl rfl (by simp [Value.cells, Value.oneCell'])
theorem ok50 : TiOk Tryd.prog 50 ⟨.func, 1, 8, .nilf⟩ := tiOk_mk (.nilFunc) ⟨_, _, _, Tryd.underlying50⟩ (by kernel_rfl) rfl rfl rfl (by simp [Value.cells, Value.oneCell'])
theorem ok51 : TiOk Tryd.prog 51 ⟨.func, 1, 8, .nilf⟩ := tiOk_mk (.nilFunc) ⟨_, _, _, Tryd.underlying51⟩ (by kernel_rfl) rfl rfl rfl (by simp [Value.cells, Value.oneCell'])
theorem ok52 : TiOk Tryd.prog 52 ⟨.func, 1, 8, .nilf⟩ := tiOk_mk (.nilFunc) ⟨_, _, _, Tryd.underlying52⟩ (by kernel_rfl) rfl rfl rfl (by simp [Value.cells, Value.oneCell'])
theorem ok53 : TiOk Tryd.prog 53 ⟨.func, 1, 8, .nilf⟩ := tiOk_mk (.nilFunc) ⟨_, _, _, Tryd.underlying53⟩ (by kernel_rfl) rfl rfl rfl (by simp [Value.cells, Value.oneCell'])
theorem ok54 : TiOk Tryd.prog 54 ⟨.func, 1, 8, .nilf⟩ := tiOk_mk (.nilFunc) ⟨_, _, _, Tryd.underlying54⟩ (by kernel_rfl) rfl rfl rfl (by simp [Value.cells, Value.oneCell'])
theorem ok55 : TiOk Tryd.prog 55 ⟨.func, 1, 8, .nilf⟩ := tiOk_mk (.nilFunc) ⟨_, _, _, Tryd.underlying55⟩ (by kernel_rfl) rfl rfl rfl (by simp [Value.cells, Value.oneCell'])
theorem ok56 : TiOk Tryd.prog 56 ⟨.func, 1, 8, .nilf⟩ := tiOk_mk (.nilFunc) ⟨_, _, _, Tryd.underlying56⟩ (by kernel_rfl) rfl rfl rfl (by simp [Value.cells, Value.oneCell'])
theorem ok57 : TiOk Tryd.prog 57 ⟨.func, 1, 8, .nilf⟩ := tiOk_mk (.nilFunc) ⟨_, _, _, Tryd.underlying57⟩ (by kernel_rfl) rfl rfl rfl (by simp [Value.cells, Value.oneCell'])
theorem ok58 : TiOk Tryd.prog 58 ⟨.func, 1, 8, .nilf⟩ := tiOk_mk (.nilFunc) ⟨_, _, _, Tryd.underlying58⟩ (by kernel_rfl) rfl rfl rfl (by simp [Value.cells, Value.oneCell'])
theorem ok59 : TiOk Tryd.prog 59 ⟨.func, 1, 8, .nilf⟩ := tiOk_mk (.nilFunc) ⟨_, _, _, Tryd.underlying59⟩ (by kernel_rfl) rfl rfl rfl (by simp [Value.cells, Value.oneCell'])
theorem ok60 : TiOk Tryd.prog 60 ⟨.func, 1, 8, .nilf⟩ := tiOk_mk (.nilFunc) ⟨_, _, _, Tryd.underlying60⟩ (by kernel_rfl) rfl rfl rfl (by simp [Value.cells, Value.oneCell'])
theorem ok61 : TiOk Tryd.prog 61 ⟨.func, 1, 8, .nilf⟩ := tiOk_mk (.nilFunc) ⟨_, _, _, Tryd.underlying61⟩ (by kernel_rfl) rfl rfl rfl (by simp [Value.cells, Value.oneCell'])
theorem ok62 : TiOk Tryd.prog 62 ⟨.func, 1, 8, .nilf⟩ := tiOk_mk (.nilFunc) ⟨_, _, _, Tryd.underlying62⟩ (by kernel_rfl) rfl rfl rfl (by simp [Value.cells, Value.oneCell'])
theorem ok63 : TiOk Tryd.prog 63 ⟨.ptr 101, 1, 8, .nilp⟩ := tiOk_mk (.pointer none) Tryd.underlying63 (by kernel_rfl) rfl rfl rfl (by simp [Value.cells, Value.oneCell'])
theorem ok65 : TiOk Tryd.prog 65 ⟨.func, 1, 8, .nilf⟩ := tiOk_mk (.nilFunc) ⟨_, _, _, Tryd.underlying65⟩ (by kernel_rfl) rfl rfl rfl (by simp [Value.cells, Value.oneCell'])
theorem ok66 : TiOk Tryd.prog 66 ⟨.func, 1, 8, .nilf⟩ := tiOk_mk (.nilFunc) ⟨_, _, _, Tryd.underlying66⟩ (by kernel_rfl) rfl rfl rfl (by simp [Value.cells, Value.oneCell'])
theorem ok67 : TiOk Tryd.prog 67 ⟨.ptr 104, 1, 8, .nilp⟩ := tiOk_mk (.pointer none) Tryd.underlying67 (by kernel_rfl) rfl rfl rfl (by simp [Value.cells, Value.oneCell'])
theorem ok69 : TiOk Tryd.prog 69 ⟨.func, 1, 8, .nilf⟩ := tiOk_mk (.nilFunc) ⟨_, _, _, Tryd.underlying69⟩ (by kernel_rfl) rfl rfl rfl (by simp [Value.cells, Value.oneCell'])
theorem ok70 : TiOk Tryd.prog 70 ⟨.slice 3, 1, 24, .nils⟩ := tiOk_mk (.slice none 0 0) Tryd.underlying70 (by kernel_rfl) rfl rfl rfl (by simp [Value.cells, Value.oneCell'])
theorem ok71 : TiOk Tryd.prog 71 ⟨.struct [(0, 63), (1, 67), (2, 70), (3, 70), (4, 31), (5, 3)], 6, 96, .agg [.nilp, .nilp, .nils, .nils, .nils, .int .i64 0]⟩ := tiOk_mk (.agg #[.pointer none, .pointer none, .slice none 0 0, .slice none 0 0, .slice none 0 0, .int .i64 0]) ⟨_, Tryd.underlying71, rfl⟩ (by kernel_rfl) rfl rfl rfl (by simp [Value.cells, Value.oneCell'])
theorem ok72 : TiOk Tryd.prog 72 ⟨.struct [(0, 63), (1, 67), (2, 70), (3, 70), (4, 31), (5, 3)], 6, 96, .agg [.nilp, .nilp, .nils, .nils, .nils, .int .i64 0]⟩ := tiOk_mk (.agg #[.pointer none, .pointer none, .slice none 0 0, .slice none 0 0, .slice none 0 0, .int .i64 0]) ⟨_, Tryd.underlying72, rfl⟩ (by kernel_rfl) rfl rfl rfl (by simp [Value.cells, Value.oneCell'])
theorem ok73 : TiOk Tryd.prog 73 ⟨.func, 1, 8, .nilf⟩ := tiOk_mk (.nilFunc) ⟨_, _, _, Tryd.underlying73⟩ (by kernel_rfl) rfl rfl rfl (by simp [Value.cells, Value.oneCell'])
theorem ok74 : TiOk Tryd.prog 74 ⟨.func, 1, 8, .nilf⟩ := tiOk_mk (.nilFunc) ⟨_, _, _, Tryd.underlying74⟩ (by kernel_rfl) rfl rfl rfl (by simp [Value.cells, Value.oneCell'])
theorem ok75 : TiOk Tryd.prog 75 ⟨.func, 1, 8, .nilf⟩ := tiOk_mk (.nilFunc) ⟨_, _, _, Tryd.underlying75⟩ (by kernel_rfl) rfl rfl rfl (by simp [Value.cells, Value.oneCell'])
theorem ok76 : TiOk Tryd.prog 76 ⟨.func, 1, 8, .nilf⟩ := tiOk_mk (.nilFunc) ⟨_, _, _, Tryd.underlying76⟩ (by kernel_rfl) rfl rfl rfl (by simp [Value.cells, Value.oneCell'])
theorem ok78 : TiOk Tryd.prog 78 ⟨.func, 1, 8, .nilf⟩ := tiOk_mk (.nilFunc) ⟨_, _, _, Tryd.underlying78⟩ (by kernel_rfl) rfl rfl rfl (by simp [Value.cells, Value.oneCell'])
theorem ok79 : TiOk Tryd.prog 79 ⟨.func, 1, 8, .nilf⟩ := tiOk_mk (.nilFunc) ⟨_, _, _, Tryd.underlying79⟩ (by kernel_rfl) rfl rfl rfl (by simp [Value.cells, Value.oneCell'])
theorem ok80 : TiOk Tryd.prog 80 ⟨.ptr 3, 1, 8, .nilp⟩ := tiOk_mk (.pointer none) Tryd.underlying80 (by kernel_rfl) rfl rfl rfl (by simp [Value.cells, Value.oneCell'])
theorem ok81 : TiOk Tryd.prog 81 ⟨.func, 1, 8, .nilf⟩ := tiOk_mk (.nilFunc) ⟨_, _, _, Tryd.underlying81⟩ (by kernel_rfl) rfl rfl rfl (by simp [Value.cells, Value.oneCell'])
theorem ok82 : TiOk Tryd.prog 82 ⟨.func, 1, 8, .nilf⟩ := tiOk_mk (.nilFunc) ⟨_, _, _, Tryd.underlying82⟩ (by kernel_rfl) rfl rfl rfl (by simp [Value.cells, Value.oneCell'])
theorem ok83 : TiOk Tryd.prog 83 ⟨.func, 1, 8, .nilf⟩ := tiOk_mk (.nilFunc) ⟨_, _, _, Tryd.underlying83⟩ (by kernel_rfl) rfl rfl rfl (by simp [Value.cells, Value.oneCell'])
theorem ok85 : TiOk Tryd.prog 85 ⟨.func, 1, 8, .nilf⟩ := tiOk_mk (.nilFunc) ⟨_, _, _, Tryd.underlying85⟩ (by kernel_rfl) rfl rfl rfl (by simp [Value.cells, Value.oneCell'])
theorem ok87 : TiOk Tryd.prog 87 ⟨.func, 1, 8, .nilf⟩ := tiOk_mk (.nilFunc) ⟨_, _, _, Tryd.underlying87⟩ (by kernel_rfl) rfl rfl rfl (by simp [Value.cells, Value.oneCell'])
theorem ok88 : TiOk Tryd.prog 88 ⟨.func, 1, 8, .nilf⟩ := tiOk_mk (.nilFunc) ⟨_, _, _, Tryd.underlying88⟩ (by kernel_rfl) rfl rfl rfl (by simp [Value.cells, Value.oneCell'])
theorem ok90 : TiOk Tryd.prog 90 ⟨.func, 1, 8, .nilf⟩ := tiOk_mk (.nilFunc) ⟨_, _, _, Tryd.underlying90⟩ (by kernel_rfl) rfl rfl rfl (by simp [Value.cells, Value.oneCell'])
theorem ok91 : TiOk Tryd.prog 91 ⟨.func, 1, 8, .nilf⟩ := tiOk_mk (.nilFunc) ⟨_, _, _, Tryd.underlying91⟩ (by kernel_rfl) rfl rfl rfl (by simp [Value.cells, Value.oneCell'])
theorem ok92 : TiOk Tryd.prog 92 ⟨.func, 1, 8, .nilf⟩ := tiOk_mk (.nilFunc) ⟨_, _, _, Tryd.underlying92⟩ (by kernel_rfl) rfl rfl rfl (by simp [Value.cells, Value.oneCell'])
theorem ok93 : TiOk Tryd.prog 93 ⟨.func, 1, 8, .nilf⟩ := tiOk_mk (.nilFunc) ⟨_, _, _, Tryd.underlying93⟩ (by kernel_rfl) rfl rfl rfl (by simp [Value.cells, Value.oneCell'])
theorem ok94 : TiOk Tryd.prog 94 ⟨.ptr 98, 1, 8, .nilp⟩ := tiOk_mk (.pointer none) Tryd.underlying94 (by kernel_rfl) rfl rfl rfl (by simp [Value.cells, Value.oneCell'])
theorem ok95 : TiOk Tryd.prog 95 ⟨.func, 1, 8, .nilf⟩ := tiOk_mk (.nilFunc) ⟨_, _, _, Tryd.underlying95⟩ (by kernel_rfl) rfl rfl rfl (by simp [Value.cells, Value.oneCell'])
theorem ok96 : TiOk Tryd.prog 96 ⟨.ptr 94, 1, 8, .nilp⟩ := tiOk_mk (.pointer none) Tryd.underlying96 (by kernel_rfl) rfl rfl rfl (by simp [Value.cells, Value.oneCell'])
theorem ok97 : TiOk Tryd.prog 97 ⟨.struct [(0, 9), (1, 3), (2, 34), (3, 28)], 4, 48, .agg [.str ⟨#[]⟩, .int .i64 0, .int .i64 0, .nili]⟩ := tiOk_mk (.agg #[.string ⟨#[]⟩, .int .i64 0, .int .i64 0, .nilIface]) ⟨_, Tryd.underlying97, rfl⟩ (by kernel_rfl) rfl rfl rfl (by simp [Value.cells, Value.oneCell'])
theorem ok98 : TiOk Tryd.prog 98 ⟨.struct [(0, 9), (1, 3), (2, 34), (3, 28)], 4, 48, .agg [.str ⟨#[]⟩, .int .i64 0, .int .i64 0, .nili]⟩ := tiOk_mk (.agg #[.string ⟨#[]⟩, .int .i64 0, .int .i64 0, .nilIface]) ⟨_, Tryd.underlying98, rfl⟩ (by kernel_rfl) rfl rfl rfl (by simp [Value.cells, Value.oneCell'])
theorem ok99 : TiOk Tryd.prog 99 ⟨.arr 9 3, 9, 72, .agg [.int .i64 0, .int .i64 0, .int .i64 0, .int .i64 0, .int .i64 0, .int .i64 0, .int .i64 0, .int .i64 0, .int .i64 0]⟩ := tiOk_mk (.agg #[.int .i64 0, .int .i64 0, .int .i64 0, .int .i64 0, .int .i64 0, .int .i64 0, .int .i64 0, .int .i64 0, .int .i64 0]) Tryd.underlying99 (by kernel_rfl) rfl rfl rfl (by simp [Value.cells, Value.oneCell'])
theorem ok100 : TiOk Tryd.prog 100 ⟨.struct [(0, 3), (1, 3), (2, 99)], 11, 88, .agg [.int .i64 0, .int .i64 0, .int .i64 0, .int .i64 0, .int .i64 0, .int .i64 0, .int .i64 0, .int .i64 0, .int .i64 0, .int .i64 0, .int .i64 0]⟩ := tiOk_mk (.agg #[.int .i64 0, .int .i64 0, .int .i64 0, .int .i64 0, .int .i64 0, .int .i64 0, .int .i64 0, .int .i64 0, .int .i64 0, .int .i64 0, .int .i64 0]) ⟨_, Tryd.underlying100, rfl⟩ (by kernel_rfl) rfl rfl rfl (by simp [Value.cells, Value.oneCell'])
theorem ok101 : TiOk Tryd.prog 101 ⟨.struct [(0, 3), (1, 3), (2, 99)], 11, 88, .agg [.int .i64 0, .int .i64 0, .int .i64 0, .int .i64 0, .int .i64 0, .int .i64 0, .int .i64 0, .int .i64 0, .int .i64 0, .int .i64 0, .int .i64 0]⟩ := tiOk_mk (.agg #[.int .i64 0, .int .i64 0, .int .i64 0, .int .i64 0, .int .i64 0, .int .i64 0, .int .i64 0, .int .i64 0, .int .i64 0, .int .i64 0, .int .i64 0]) ⟨_, Tryd.underlying101, rfl⟩ (by kernel_rfl) rfl rfl rfl (by simp [Value.cells, Value.oneCell'])
theorem ok102 : TiOk Tryd.prog 102 ⟨.slice 106, 1, 24, .nils⟩ := tiOk_mk (.slice none 0 0) Tryd.underlying102 (by kernel_rfl) rfl rfl rfl (by simp [Value.cells, Value.oneCell'])
theorem ok103 : TiOk Tryd.prog 103 ⟨.struct [(0, 102), (1, 70), (2, 70), (3, 70), (4, 3), (5, 3)], 6, 112, .agg [.nils, .nils, .nils, .nils, .int .i64 0, .int .i64 0]⟩ := tiOk_mk (.agg #[.slice none 0 0, .slice none 0 0, .slice none 0 0, .slice none 0 0, .int .i64 0, .int .i64 0]) ⟨_, Tryd.underlying103, rfl⟩ (by kernel_rfl) rfl rfl rfl (by simp [Value.cells, Value.oneCell'])
theorem ok104 : TiOk Tryd.prog 104 ⟨.struct [(0, 102), (1, 70), (2, 70), (3, 70), (4, 3), (5, 3)], 6, 112, .agg [.nils, .nils, .nils, .nils, .int .i64 0, .int .i64 0]⟩ := tiOk_mk (.agg #[.slice none 0 0, .slice none 0 0, .slice none 0 0, .slice none 0 0, .int .i64 0, .int .i64 0]) ⟨_, Tryd.underlying104, rfl⟩ (by kernel_rfl) rfl rfl rfl (by simp [Value.cells, Value.oneCell'])
theorem ok105 : TiOk Tryd.prog 105 ⟨.struct [(0, 3), (1, 3), (2, 3), (3, 3)], 4, 32, .agg [.int .i64 0, .int .i64 0, .int .i64 0, .int .i64 0]⟩ := tiOk_mk (.agg #[.int .i64 0, .int .i64 0, .int .i64 0, .int .i64 0]) ⟨_, Tryd.underlying105, rfl⟩ (by kernel_rfl) rfl rfl rfl (by simp [Value.cells, Value.oneCell'])
theorem ok106 : TiOk Tryd.prog 106 ⟨.struct [(0, 3), (1, 3), (2, 3), (3, 3)], 4, 32, .agg [.int .i64 0, .int .i64 0, .int .i64 0, .int .i64 0]⟩ := tiOk_mk (.agg #[.int .i64 0, .int .i64 0, .int .i64 0, .int .i64 0]) ⟨_, Tryd.underlying106, rfl⟩ (by kernel_rfl) rfl rfl rfl (by simp [Value.cells, Value.oneCell'])
theorem ok107 : TiOk Tryd.prog 107 ⟨.func, 1, 8, .nilf⟩ := tiOk_mk (.nilFunc) ⟨_, _, _, Tryd.underlying107⟩ (by kernel_rfl) rfl rfl rfl (by simp [Value.cells, Value.oneCell'])
theorem ok108 : TiOk Tryd.prog 108 ⟨.func, 1, 8, .nilf⟩ := tiOk_mk (.nilFunc) ⟨_, _, _, Tryd.underlying108⟩ (by kernel_rfl) rfl rfl rfl (by simp [Value.cells, Value.oneCell'])
theorem ok109 : TiOk Tryd.prog 109 ⟨.func, 1, 8, .nilf⟩ := tiOk_mk (.nilFunc) ⟨_, _, _, Tryd.underlying109⟩ (by kernel_rfl) rfl rfl rfl (by simp [Value.cells, Value.oneCell'])
theorem ok110 : TiOk Tryd.prog 110 ⟨.func, 1, 8, .nilf⟩ := tiOk_mk (.nilFunc) ⟨_, _, _, Tryd.underlying110⟩ (by kernel_rfl) rfl rfl rfl (by simp [Value.cells, Value.oneCell'])
theorem ok111 : TiOk Tryd.prog 111 ⟨.int .u64, 1, 8, .int .u64 0⟩ := tiOk_mk (.int .u64 0) Tryd.underlying111 (by kernel_rfl) rfl rfl rfl (by simp [Value.cells, Value.oneCell'])
theorem ok112 : TiOk Tryd.prog 112 ⟨.func, 1, 8, .nilf⟩ := tiOk_mk (.nilFunc) ⟨_, _, _, Tryd.underlying112⟩ (by kernel_rfl) rfl rfl rfl (by simp [Value.cells, Value.oneCell'])
theorem ok113 : TiOk Tryd.prog 113 ⟨.func, 1, 8, .nilf⟩ := tiOk_mk (.nilFunc) ⟨_, _, _, Tryd.underlying113⟩ (by kernel_rfl) rfl rfl rfl (by simp [Value.cells, Value.oneCell'])
theorem ok114 : TiOk Tryd.prog 114 ⟨.func, 1, 8, .nilf⟩ := tiOk_mk (.nilFunc) ⟨_, _, _, Tryd.underlying114⟩ (by kernel_rfl) rfl rfl rfl (by simp [Value.cells, Value.oneCell'])
theorem ok115 : TiOk Tryd.prog 115 ⟨.func, 1, 8, .nilf⟩ := tiOk_mk (.nilFunc) ⟨_, _, _, Tryd.underlying115⟩ (by kernel_rfl) rfl rfl rfl (by simp [Value.cells, Value.oneCell'])
theorem ok116 : TiOk Tryd.prog 116 ⟨.func, 1, 8, .nilf⟩ := tiOk_mk (.nilFunc) ⟨_, _, _, Tryd.underlying116⟩ (by kernel_rfl) rfl rfl rfl (by simp [Value.cells, Value.oneCell'])
theorem ok117 : TiOk Tryd.prog 117 ⟨.func, 1, 8, .nilf⟩ := tiOk_mk (.nilFunc) ⟨_, _, _, Tryd.underlying117⟩ (by kernel_rfl) rfl rfl rfl (by simp [Value.cells, Value.oneCell'])
theorem ok118 : TiOk Tryd.prog 118 ⟨.func, 1, 8, .nilf⟩ := tiOk_mk (.nilFunc) ⟨_, _, _, Tryd.underlying118⟩ (by kernel_rfl) rfl rfl rfl (by simp [Value.cells, Value.oneCell'])
theorem ok119 : TiOk Tryd.prog 119 ⟨.func, 1, 8, .nilf⟩ := tiOk_mk (.nilFunc) ⟨_, _, _, Tryd.underlying119⟩ (by kernel_rfl) rfl rfl rfl (by simp [Value.cells, Value.oneCell'])
theorem ok120 : TiOk Tryd.prog 120 ⟨.func, 1, 8, .nilf⟩ := tiOk_mk (.nilFunc) ⟨_, _, _, Tryd.underlying120⟩ (by kernel_rfl) rfl rfl rfl (by simp [Value.cells, Value.oneCell'])
theorem ok121 : TiOk Tryd.prog 121 ⟨.func, 1, 8, .nilf⟩ := tiOk_mk (.nilFunc) ⟨_, _, _, Tryd.underlying121⟩ (by kernel_rfl) rfl rfl rfl (by simp [Value.cells, Value.oneCell'])
theorem ok123 : TiOk Tryd.prog 123 ⟨.int .u64, 1, 8, .int .u64 0⟩ := tiOk_mk (.int .u64 0) Tryd.underlying123 (by kernel_rfl) rfl rfl rfl (by simp [Value.cells, Value.oneCell'])
theorem ok126 : TiOk Tryd.prog 126 ⟨.func, 1, 8, .nilf⟩ := tiOk_mk (.nilFunc) ⟨_, _, _, Tryd.underlying126⟩ (by kernel_rfl) rfl rfl rfl (by simp [Value.cells, Value.oneCell'])
theorem ok127 : TiOk Tryd.prog 127 ⟨.iface, 1, 16, .nili⟩ := tiOk_mk (.nilIface) ⟨_, Tryd.underlying127⟩ (by kernel_rfl) rfl rfl rfl (by simp [Value.cells, Value.oneCell'])
theorem ok128 : TiOk Tryd.prog 128 ⟨.iface, 1, 16, .nili⟩ := tiOk_mk (.nilIface) ⟨_, Tryd.underlying128⟩ (by kernel_rfl) rfl rfl rfl (by simp [Value.cells, Value.oneCell'])
theorem ok129 : TiOk Tryd.prog 129 ⟨.func, 1, 8, .nilf⟩ := tiOk_mk (.nilFunc) ⟨_, _, _, Tryd.underlying129⟩ (by kernel_rfl) rfl rfl rfl (by simp [Value.cells, Value.oneCell'])
theorem ok130 : TiOk Tryd.prog 130 ⟨.int .u8, 1, 1, .int .u8 0⟩ := tiOk_mk (.int .u8 0) Tryd.underlying130 (by kernel_rfl) rfl rfl rfl (by simp [Value.cells, Value.oneCell'])
theorem ok131 : TiOk Tryd.prog 131 ⟨.func, 1, 8, .nilf⟩ := tiOk_mk (.nilFunc) ⟨_, _, _, Tryd.underlying131⟩ (by kernel_rfl) rfl rfl rfl (by simp [Value.cells, Value.oneCell'])
theorem ok132 : TiOk Tryd.prog 132 ⟨.func, 1, 8, .nilf⟩ := tiOk_mk (.nilFunc) ⟨_, _, _, Tryd.underlying132⟩ (by kernel_rfl) rfl rfl rfl (by simp [Value.cells, Value.oneCell'])
theorem ok133 : TiOk Tryd.prog 133 ⟨.func, 1, 8, .nilf⟩ := tiOk_mk (.nilFunc) ⟨_, _, _, Tryd.underlying133⟩ (by kernel_rfl) rfl rfl rfl (by simp [Value.cells, Value.oneCell'])
theorem ok134 : TiOk Tryd.prog 134 ⟨.int .u64, 1, 8, .int .u64 0⟩ := tiOk_mk (.int .u64 0) Tryd.underlying134 (by kernel_rfl) rfl rfl rfl (by simp [Value.cells, Value.oneCell'])
theorem ok135 : TiOk Tryd.prog 135 ⟨.func, 1, 8, .nilf⟩ := tiOk_mk (.nilFunc) ⟨_, _, _, Tryd.underlying135⟩ (by kernel_rfl) rfl rfl rfl (by simp [Value.cells, Value.oneCell'])
theorem ok136 : TiOk Tryd.prog 136 ⟨.func, 1, 8, .nilf⟩ := tiOk_mk (.nilFunc) ⟨_, _, _, Tryd.underlying136⟩ (by kernel_rfl) rfl rfl rfl (by simp [Value.cells, Value.oneCell'])
theorem ok137 : TiOk Tryd.prog 137 ⟨.func, 1, 8, .nilf⟩ := tiOk_mk (.nilFunc) ⟨_, _, _, Tryd.underlying137⟩ (by kernel_rfl) rfl rfl rfl (by simp [Value.cells, Value.oneCell'])
theorem ok138 : TiOk Tryd.prog 138 ⟨.struct [(0, 17)], 1, 8, .agg [.nilp]⟩ := tiOk_mk (.agg #[.pointer none]) ⟨_, Tryd.underlying138, rfl⟩ (by kernel_rfl) rfl rfl rfl (by simp [Value.cells, Value.oneCell'])
theorem ok139 : TiOk Tryd.prog 139 ⟨.struct [(0, 17)], 1, 8, .agg [.nilp]⟩ := tiOk_mk (.agg #[.pointer none]) ⟨_, Tryd.underlying139, rfl⟩ (by kernel_rfl) rfl rfl rfl (by simp [Value.cells, Value.oneCell'])
theorem ok140 : TiOk Tryd.prog 140 ⟨.ptr 171, 1, 8, .nilp⟩ := tiOk_mk (.pointer none) Tryd.underlying140 (by kernel_rfl) rfl rfl rfl (by simp [Value.cells, Value.oneCell'])
theorem ok141 : TiOk Tryd.prog 141 ⟨.func, 1, 8, .nilf⟩ := tiOk_mk (.nilFunc) ⟨_, _, _, Tryd.underlying141⟩ (by kernel_rfl) rfl rfl rfl (by simp [Value.cells, Value.oneCell'])
theorem ok142 : TiOk Tryd.prog 142 ⟨.func, 1, 8, .nilf⟩ := tiOk_mk (.nilFunc) ⟨_, _, _, Tryd.underlying142⟩ (by kernel_rfl) rfl rfl rfl (by simp [Value.cells, Value.oneCell'])
theorem ok143 : TiOk Tryd.prog 143 ⟨.func, 1, 8, .nilf⟩ := tiOk_mk (.nilFunc) ⟨_, _, _, Tryd.underlying143⟩ (by kernel_rfl) rfl rfl rfl (by simp [Value.cells, Value.oneCell'])
theorem ok144 : TiOk Tryd.prog 144 ⟨.iface, 1, 16, .nili⟩ := tiOk_mk (.nilIface) ⟨_, Tryd.underlying144⟩ (by kernel_rfl) rfl rfl rfl (by simp [Value.cells, Value.oneCell'])
theorem ok146 : TiOk Tryd.prog 146 ⟨.func, 1, 8, .nilf⟩ := tiOk_mk (.nilFunc) ⟨_, _, _, Tryd.underlying146⟩ (by kernel_rfl) rfl rfl rfl (by simp [Value.cells, Value.oneCell'])
theorem ok147 : TiOk Tryd.prog 147 ⟨.iface, 1, 16, .nili⟩ := tiOk_mk (.nilIface) ⟨_, Tryd.underlying147⟩ (by kernel_rfl) rfl rfl rfl (by simp [Value.cells, Value.oneCell'])
theorem ok148 : TiOk Tryd.prog 148 ⟨.func, 1, 8, .nilf⟩ := tiOk_mk (.nilFunc) ⟨_, _, _, Tryd.underlying148⟩ (by kernel_rfl) rfl rfl rfl (by simp [Value.cells, Value.oneCell'])
theorem ok149 : TiOk Tryd.prog 149 ⟨.iface, 1, 16, .nili⟩ := tiOk_mk (.nilIface) ⟨_, Tryd.underlying149⟩ (by kernel_rfl) rfl rfl rfl (by simp [Value.cells, Value.oneCell'])
theorem ok150 : TiOk Tryd.prog 150 ⟨.slice 28, 1, 24, .nils⟩ := tiOk_mk (.slice none 0 0) Tryd.underlying150 (by kernel_rfl) rfl rfl rfl (by simp [Value.cells, Value.oneCell'])
theorem ok151 : TiOk Tryd.prog 151 ⟨.func, 1, 8, .nilf⟩ := tiOk_mk (.nilFunc) ⟨_, _, _, Tryd.underlying151⟩ (by kernel_rfl) rfl rfl rfl (by simp [Value.cells, Value.oneCell'])
theorem ok152 : TiOk Tryd.prog 152 ⟨.func, 1, 8, .nilf⟩ := tiOk_mk (.nilFunc) ⟨_, _, _, Tryd.underlying152⟩ (by kernel_rfl) rfl rfl rfl (by simp [Value.cells, Value.oneCell'])
theorem ok153 : TiOk Tryd.prog 153 ⟨.func, 1, 8, .nilf⟩ := tiOk_mk (.nilFunc) ⟨_, _, _, Tryd.underlying153⟩ (by kernel_rfl) rfl rfl rfl (by simp [Value.cells, Value.oneCell'])
theorem ok154 : TiOk Tryd.prog 154 ⟨.struct [(0, 17), (1, 17), (2, 17), (3, 9)], 4, 40, .agg [.nilp, .nilp, .nilp, .str ⟨#[]⟩]⟩ := tiOk_mk (.agg #[.pointer none, .pointer none, .pointer none, .string ⟨#[]⟩]) ⟨_, Tryd.underlying154, rfl⟩ (by kernel_rfl) rfl rfl rfl (by simp [Value.cells, Value.oneCell'])
theorem ok155 : TiOk Tryd.prog 155 ⟨.struct [(0, 17), (1, 17), (2, 17), (3, 9)], 4, 40, .agg [.nilp, .nilp, .nilp, .str ⟨#[]⟩]⟩ := tiOk_mk (.agg #[.pointer none, .pointer none, .pointer none, .string ⟨#[]⟩]) ⟨_, Tryd.underlying155, rfl⟩ (by kernel_rfl) rfl rfl rfl (by simp [Value.cells, Value.oneCell'])
theorem ok159 : TiOk Tryd.prog 159 ⟨.func, 1, 8, .nilf⟩ := tiOk_mk (.nilFunc) ⟨_, _, _, Tryd.underlying159⟩ (by kernel_rfl) rfl rfl rfl (by simp [Value.cells, Value.oneCell'])
theorem ok160 : TiOk Tryd.prog 160 ⟨.int .u32, 1, 4, .int .u32 0⟩ := tiOk_mk (.int .u32 0) Tryd.underlying160 (by kernel_rfl) rfl rfl rfl (by simp [Value.cells, Value.oneCell'])
theorem ok161 : TiOk Tryd.prog 161 ⟨.int .u8, 1, 1, .int .u8 0⟩ := tiOk_mk (.int .u8 0) Tryd.underlying161 (by kernel_rfl) rfl rfl rfl (by simp [Value.cells, Value.oneCell'])
theorem ok162 : TiOk Tryd.prog 162 ⟨.func, 1, 8, .nilf⟩ := tiOk_mk (.nilFunc) ⟨_, _, _, Tryd.underlying162⟩ (by kernel_rfl) rfl rfl rfl (by simp [Value.cells, Value.oneCell'])
theorem ok163 : TiOk Tryd.prog 163 ⟨.ptr 5, 1, 8, .nilp⟩ := tiOk_mk (.pointer none) Tryd.underlying163 (by kernel_rfl) rfl rfl rfl (by simp [Value.cells, Value.oneCell'])
theorem ok164 : TiOk Tryd.prog 164 ⟨.int .i32, 1, 4, .int .i32 0⟩ := tiOk_mk (.int .i32 0) Tryd.underlying164 (by kernel_rfl) rfl rfl rfl (by simp [Value.cells, Value.oneCell'])
theorem ok165 : TiOk Tryd.prog 165 ⟨.int .i32, 1, 4, .int .i32 0⟩ := tiOk_mk (.int .i32 0) Tryd.underlying165 (by kernel_rfl) rfl rfl rfl (by simp [Value.cells, Value.oneCell'])
theorem ok166 : TiOk Tryd.prog 166 ⟨.struct [(0, 12), (1, 12), (2, 160), (3, 161), (4, 5), (5, 5), (6, 130), (7, 162), (8, 163), (9, 164), (10, 165)], 11, 48, .agg [.int .u64 0, .int .u64 0, .int .u32 0, .int .u8 0, .int .u8 0, .int .u8 0, .int .u8 0, .nilf, .nilp, .int .i32 0, .int .i32 0]⟩ := tiOk_mk (.agg #[.int .u64 0, .int .u64 0, .int .u32 0, .int .u8 0, .int .u8 0, .int .u8 0, .int .u8 0, .nilFunc, .pointer none, .int .i32 0, .int .i32 0]) ⟨_, Tryd.underlying166, rfl⟩ (by kernel_rfl) rfl rfl rfl (by simp [Value.cells, Value.oneCell'])
theorem ok167 : TiOk Tryd.prog 167 ⟨.struct [(0, 12), (1, 12), (2, 160), (3, 161), (4, 5), (5, 5), (6, 130), (7, 162), (8, 163), (9, 164), (10, 165)], 11, 48, .agg [.int .u64 0, .int .u64 0, .int .u32 0, .int .u8 0, .int .u8 0, .int .u8 0, .int .u8 0, .nilf, .nilp, .int .i32 0, .int .i32 0]⟩ := tiOk_mk (.agg #[.int .u64 0, .int .u64 0, .int .u32 0, .int .u8 0, .int .u8 0, .int .u8 0, .int .u8 0, .nilFunc, .pointer none, .int .i32 0, .int .i32 0]) ⟨_, Tryd.underlying167, rfl⟩ (by kernel_rfl) rfl rfl rfl (by simp [Value.cells, Value.oneCell'])
theorem ok168 : TiOk Tryd.prog 168 ⟨.func, 1, 8, .nilf⟩ := tiOk_mk (.nilFunc) ⟨_, _, _, Tryd.underlying168⟩ (by kernel_rfl) rfl rfl rfl (by simp [Value.cells, Value.oneCell'])
theorem ok169 : TiOk Tryd.prog 169 ⟨.func, 1, 8, .nilf⟩ := tiOk_mk (.nilFunc) ⟨_, _, _, Tryd.underlying169⟩ (by kernel_rfl) rfl rfl rfl (by simp [Value.cells, Value.oneCell'])
theorem ok170 : TiOk Tryd.prog 170 ⟨.struct [(0, 9), (1, 130)], 2, 24, .agg [.str ⟨#[]⟩, .int .u8 0]⟩ := tiOk_mk (.agg #[.string ⟨#[]⟩, .int .u8 0]) ⟨_, Tryd.underlying170, rfl⟩ (by kernel_rfl) rfl rfl rfl (by simp [Value.cells, Value.oneCell'])
theorem ok171 : TiOk Tryd.prog 171 ⟨.struct [(0, 9), (1, 130)], 2, 24, .agg [.str ⟨#[]⟩, .int .u8 0]⟩ := tiOk_mk (.agg #[.string ⟨#[]⟩, .int .u8 0]) ⟨_, Tryd.underlying171, rfl⟩ (by kernel_rfl) rfl rfl rfl (by simp [Value.cells, Value.oneCell'])
theorem ok172 : TiOk Tryd.prog 172 ⟨.ptr 175, 1, 8, .nilp⟩ := tiOk_mk (.pointer none) Tryd.underlying172 (by kernel_rfl) rfl rfl rfl (by simp [Value.cells, Value.oneCell'])
theorem ok173 : TiOk Tryd.prog 173 ⟨.func, 1, 8, .nilf⟩ := tiOk_mk (.nilFunc) ⟨_, _, _, Tryd.underlying173⟩ (by kernel_rfl) rfl rfl rfl (by simp [Value.cells, Value.oneCell'])
theorem ok174 : TiOk Tryd.prog 174 ⟨.struct [(0, 164), (1, 22), (2, 22), (3, 160), (4, 160)], 5, 16, .agg [.int .i32 0, .int .u16 0, .int .u16 0, .int .u32 0, .int .u32 0]⟩ := tiOk_mk (.agg #[.int .i32 0, .int .u16 0, .int .u16 0, .int .u32 0, .int .u32 0]) ⟨_, Tryd.underlying174, rfl⟩ (by kernel_rfl) rfl rfl rfl (by simp [Value.cells, Value.oneCell'])
theorem ok175 : TiOk Tryd.prog 175 ⟨.struct [(0, 164), (1, 22), (2, 22), (3, 160), (4, 160)], 5, 16, .agg [.int .i32 0, .int .u16 0, .int .u16 0, .int .u32 0, .int .u32 0]⟩ := tiOk_mk (.agg #[.int .i32 0, .int .u16 0, .int .u16 0, .int .u32 0, .int .u32 0]) ⟨_, Tryd.underlying175, rfl⟩ (by kernel_rfl) rfl rfl rfl (by simp [Value.cells, Value.oneCell'])
theorem ok176 : TiOk Tryd.prog 176 ⟨.slice 179, 1, 24, .nils⟩ := tiOk_mk (.slice none 0 0) Tryd.underlying176 (by kernel_rfl) rfl rfl rfl (by simp [Value.cells, Value.oneCell'])
theorem ok177 : TiOk Tryd.prog 177 ⟨.int .i32, 1, 4, .int .i32 0⟩ := tiOk_mk (.int .i32 0) Tryd.underlying177 (by kernel_rfl) rfl rfl rfl (by simp [Value.cells, Value.oneCell'])
theorem ok178 : TiOk Tryd.prog 178 ⟨.struct [(0, 164), (1, 165), (2, 177), (3, 177)], 4, 16, .agg [.int .i32 0, .int .i32 0, .int .i32 0, .int .i32 0]⟩ := tiOk_mk (.agg #[.int .i32 0, .int .i32 0, .int .i32 0, .int .i32 0]) ⟨_, Tryd.underlying178, rfl⟩ (by kernel_rfl) rfl rfl rfl (by simp [Value.cells, Value.oneCell'])
theorem ok179 : TiOk Tryd.prog 179 ⟨.struct [(0, 164), (1, 165), (2, 177), (3, 177)], 4, 16, .agg [.int .i32 0, .int .i32 0, .int .i32 0, .int .i32 0]⟩ := tiOk_mk (.agg #[.int .i32 0, .int .i32 0, .int .i32 0, .int .i32 0]) ⟨_, Tryd.underlying179, rfl⟩ (by kernel_rfl) rfl rfl rfl (by simp [Value.cells, Value.oneCell'])
theorem ok180 : TiOk Tryd.prog 180 ⟨.ptr 28, 1, 8, .nilp⟩ := tiOk_mk (.pointer none) Tryd.underlying180 (by kernel_rfl) rfl rfl rfl (by simp [Value.cells, Value.oneCell'])
theorem tk_0 : TyOk Tryd.prog ty_0 := by
  intro t i h
  unfold ty_0 at h
  split at h
  · cases h; exact ok1
  · cases h; exact ok2
  · cases h; exact ok3
  · cases h; exact ok4
  · cases h; exact ok5
  · cases h; exact ok6
  · cases h; exact ok7
  · cases h; exact ok8
  · cases h; exact ok9
  · cases h; exact ok10
  · cases h; exact ok11
  · cases h; exact ok12
  · cases h; exact ok13
  · cases h; exact ok14
  · cases h; exact ok15
  · cases h; exact ok16
  · cases h; exact ok17
  · cases h; exact ok18
  · cases h; exact ok19
  · cases h; exact ok20
  · cases h; exact ok21
  · cases h; exact ok22
  · cases h; exact ok23
  · cases h; exact ok24
  · cases h; exact ok25
  · cases h; exact ok26
  · cases h; exact ok27
  · cases h; exact ok28
  · cases h; exact ok30
  · cases h; exact ok31
  · cases h; exact ok32
  · cases h; exact ok33
  · cases h; exact ok34
  · cases h; exact ok36
  · cases h; exact ok37
  · cases h; exact ok38
  · cases h; exact ok39
  · cases h; exact ok40
  · cases h; exact ok41
  · cases h; exact ok43
  · cases h; exact ok45
  · cases h; exact ok46
  · cases h; exact ok48
  · cases h; exact ok49
  · cases h; exact ok50
  · cases h; exact ok51
  · cases h; exact ok52
  · cases h; exact ok53
  · cases h; exact ok54
  · cases h; exact ok55
  · cases h; exact ok56
  · cases h; exact ok57
  · cases h; exact ok58
  · cases h; exact ok59
  · cases h; exact ok60
  · cases h; exact ok61
  · cases h; exact ok62
  · cases h; exact ok63
  · cases h; exact ok65
  · cases h; exact ok66
  · cases h
theorem tk_1 : TyOk Tryd.prog ty_1 := by
  intro t i h
  unfold ty_1 at h
  split at h
  · cases h; exact ok67
  · cases h; exact ok69
  · cases h; exact ok70
  · cases h; exact ok71
  · cases h; exact ok72
  · cases h; exact ok73
  · cases h; exact ok74
  · cases h; exact ok75
  · cases h; exact ok76
  · cases h; exact ok78
  · cases h; exact ok79
  · cases h; exact ok80
  · cases h; exact ok81
  · cases h; exact ok82
  · cases h; exact ok83
  · cases h; exact ok85
  · cases h; exact ok87
  · cases h; exact ok88
  · cases h; exact ok90
  · cases h; exact ok91
  · cases h; exact ok92
  · cases h; exact ok93
  · cases h; exact ok94
  · cases h; exact ok95
  · cases h; exact ok96
  · cases h; exact ok97
  · cases h; exact ok98
  · cases h; exact ok99
  · cases h; exact ok100
  · cases h; exact ok101
  · cases h; exact ok102
  · cases h; exact ok103
  · cases h; exact ok104
  · cases h; exact ok105
  · cases h; exact ok106
  · cases h; exact ok107
  · cases h; exact ok108
  · cases h; exact ok109
  · cases h; exact ok110
  · cases h; exact ok111
  · cases h; exact ok112
  · cases h; exact ok113
  · cases h; exact ok114
  · cases h; exact ok115
  · cases h; exact ok116
  · cases h; exact ok117
  · cases h; exact ok118
  · cases h; exact ok119
  · cases h; exact ok120
  · cases h; exact ok121
  · cases h; exact ok123
  · cases h; exact ok126
  · cases h; exact ok127
  · cases h; exact ok128
  · cases h; exact ok129
  · cases h; exact ok130
  · cases h; exact ok131
  · cases h; exact ok132
  · cases h; exact ok133
  · cases h; exact ok134
  · cases h
theorem tk_2 : TyOk Tryd.prog ty_2 := by
  intro t i h
  unfold ty_2 at h
  split at h
  · cases h; exact ok135
  · cases h; exact ok136
  · cases h; exact ok137
  · cases h; exact ok138
  · cases h; exact ok139
  · cases h; exact ok140
  · cases h; exact ok141
  · cases h; exact ok142
  · cases h; exact ok143
  · cases h; exact ok144
  · cases h; exact ok146
  · cases h; exact ok147
  · cases h; exact ok148
  · cases h; exact ok149
  · cases h; exact ok150
  · cases h; exact ok151
  · cases h; exact ok152
  · cases h; exact ok153
  · cases h; exact ok154
  · cases h; exact ok155
  · cases h; exact ok159
  · cases h; exact ok160
  · cases h; exact ok161
  · cases h; exact ok162
  · cases h; exact ok163
  · cases h; exact ok164
  · cases h; exact ok165
  · cases h; exact ok166
  · cases h; exact ok167
  · cases h; exact ok168
  · cases h; exact ok169
  · cases h; exact ok170
  · cases h; exact ok171
  · cases h; exact ok172
  · cases h; exact ok173
  · cases h; exact ok174
  · cases h; exact ok175
  · cases h; exact ok176
  · cases h; exact ok177
  · cases h; exact ok178
  · cases h; exact ok179
  · cases h; exact ok180
  · cases h
theorem tk : TyOk Tryd.prog ty := by
  intro t i h
  unfold ty at h
  cases hb0 : Nat.ble t 66
  case true => simp only [hb0, cond_true] at h; exact tk_0 t i h
  cases hb1 : Nat.ble t 134
  case true => simp only [hb1, cond_true, hb0, cond_false] at h; exact tk_1 t i h
  simp only [hb0, hb1, cond_false] at h
  exact tk_2 t i h
theorem mixed : Tryd.prog.follows .mixedOrders = true := by kernel_rfl
end Go.Proofs.YtggeboakilalhaaDoor
namespace Go.Proofs.YtggeboakilalhaaDoor
open Go Go.Va
set_option linter.unusedSimpArgs false
set_option linter.unusedVariables false
inductive Err where
  | nil
  | fault (op : List (BitVec 8)) (at_ : Int) (code : Int) (under : Err)
  deriving DecidableEq
def Err.isNil : Err → Bool
  | .nil => true
  | _ => false
def eErr : Err → AV
  | .nil => .nili
  | .fault o a c u => .iface 94 (.fptr [eS o, eI a, eI c, eErr u] 0)
theorem eErr_cut (nl nt : Nat → Option Nat) : ∀ e, cutAV nl nt (eErr e) = eErr e
  | .nil => rfl
  | .fault o a c u => by simp only [eErr, cutAV, cutL, eErr_cut nl nt u, eS, eI]
theorem eErr_flat (e : Err) : flatAV (eErr e) = true := by cases e <;> rfl
theorem nsp_err (e : Err) : spcl [eErr e] = false := by cases e <;> rfl
theorem encErr : Enc ty 28 1 eErr := ⟨sz28, by decide, fun x => (by cases x <;> rfl), fun h => (by cases h), fun _ x => (by cases x <;> rfl), fun x => (by cases x <;> rfl), eErr_cut⟩
structure aEn where
  Key : List (BitVec 8)
  Version : Int
  AsOf : Int
  Ends : Int
  Value : List (BitVec 8)
  deriving DecidableEq
def c_aEn (x : aEn) : List AV := [eS x.Key, eI x.Version, eI x.AsOf, eI x.Ends, (eL 1 (@eU .u8 8)) x.Value]
def e_aEn (x : aEn) : AV := .agg (c_aEn x)
def z_aEn : aEn := ⟨([] : List (BitVec 8)), (0 : Int), (0 : Int), (0 : Int), ([] : List (BitVec 8))⟩
theorem c_aEn_cut (nl nt : Nat → Option Nat) (x : aEn) : cutL nl nt (c_aEn x) = c_aEn x := by simp only [cutL, e_aEn, c_aEn, cutAV, (enc_s td9 sz9).cut nl nt, (enc_i64 td3 sz3).cut nl nt, (enc_i64 td3 sz3).cut nl nt, (enc_i64 td3 sz3).cut nl nt, (enc_l td37 sz37 (enc_u td5 sz5).cut).cut nl nt]
theorem enc39 : Enc ty 39 5 e_aEn := ⟨sz39, by decide, fun _ => rfl, fun _ _ => rfl, fun h => (by cases h), fun _ => rfl, fun nl nt x => by simp only [e_aEn, cutAV, c_aEn_cut]⟩
structure R11_Ram where
  Limit : Int
  L : List aEn
  deriving DecidableEq
def c_R11_Ram (x : R11_Ram) : List AV := [eI x.Limit, (eL 5 e_aEn) x.L]
def e_R11_Ram (x : R11_Ram) : AV := .agg (c_R11_Ram x)
def z_R11_Ram : R11_Ram := ⟨(0 : Int), ([] : List aEn)⟩
theorem c_R11_Ram_cut (nl nt : Nat → Option Nat) (x : R11_Ram) : cutL nl nt (c_R11_Ram x) = c_R11_Ram x := by simp only [cutL, e_R11_Ram, c_R11_Ram, cutAV, (enc_i64 td3 sz3).cut nl nt, (enc_l td31 sz31 enc39.cut).cut nl nt]
theorem enc33 : Enc ty 33 2 e_R11_Ram := ⟨sz33, by decide, fun _ => rfl, fun _ _ => rfl, fun h => (by cases h), fun _ => rfl, fun nl nt x => by simp only [e_R11_Ram, cutAV, c_R11_Ram_cut]⟩
structure L11_Op where
  Kind : Int
  X : aEn
  Now : Int
  deriving DecidableEq
def c_L11_Op (x : L11_Op) : List AV := [eI x.Kind] ++ (c_aEn x.X) ++ [eI x.Now]
def e_L11_Op (x : L11_Op) : AV := .agg (c_L11_Op x)
theorem c_L11_Op_cut (nl nt : Nat → Option Nat) (x : L11_Op) : cutL nl nt (c_L11_Op x) = c_L11_Op x := by simp only [cutL, e_L11_Op, c_L11_Op, cutAV, (enc_i64 td3 sz3).cut nl nt, (enc_i64 td3 sz3).cut nl nt, c_aEn_cut nl nt, cutL_append]
theorem enc41 : Enc ty 41 7 e_L11_Op := ⟨sz41, by decide, fun _ => rfl, fun _ _ => rfl, fun h => (by cases h), fun _ => rfl, fun nl nt x => by simp only [e_L11_Op, cutAV, c_L11_Op_cut]⟩
structure slab_Budget where
  limit : Int
  used : Int
  count : Vector Int 9
  deriving DecidableEq
def c_slab_Budget (x : slab_Budget) : List AV := [eI x.limit] ++ [eI x.used] ++ (cL eI x.count.toList)
def e_slab_Budget (x : slab_Budget) : AV := .agg (c_slab_Budget x)
theorem c_slab_Budget_cut (nl nt : Nat → Option Nat) (x : slab_Budget) : cutL nl nt (c_slab_Budget x) = c_slab_Budget x := by simp only [c_slab_Budget, cutL, cutL_append, (enc_i64 td3 sz3).cut nl nt, (enc_i64 td3 sz3).cut nl nt, cut_cL (enc_i64 td3 sz3).cut nl nt]
theorem g_slab_Budget_limit (x : slab_Budget) : acut ty 3 (c_slab_Budget x) 0 = some (eI x.limit) := rfl
theorem g_slab_Budget_used (x : slab_Budget) : acut ty 3 (c_slab_Budget x) 1 = some (eI x.used) := rfl
theorem s_slab_Budget_used (x : slab_Budget) (y : Int) : repl (c_slab_Budget x) 1 (eI y).cells = c_slab_Budget { x with used := y } := rfl
def a_slab_Budget_count (x : slab_Budget) : List AV := ([eI x.limit]) ++ ([eI x.used])
def b_slab_Budget_count (x : slab_Budget) : List AV := []
theorem sp_slab_Budget_count (x : slab_Budget) : c_slab_Budget x = a_slab_Budget_count x ++ (cL eI x.count.toList ++ b_slab_Budget_count x) := by simp only [c_slab_Budget, a_slab_Budget_count, b_slab_Budget_count, List.append_assoc, List.nil_append, List.append_nil, List.cons_append]
theorem al_slab_Budget_count (x : slab_Budget) : (a_slab_Budget_count x).length = 2 := by simp [a_slab_Budget_count, cL_length (enc_i64 td3 sz3).len]
theorem cf_slab_Budget (x : slab_Budget) : (c_slab_Budget x).all flatAV = true := by
  have h0 : (cL eI x.count.toList).all flatAV = true := all_flat_cL (enc_i64 td3 sz3) _
  simp only [c_slab_Budget, List.all_append, h0]; rfl
theorem cl_slab_Budget (x : slab_Budget) : (c_slab_Budget x).length = 11 := by simp [c_slab_Budget, cL_length (enc_i64 td3 sz3).len]
structure lists_link where
  ahead : Int
  behind : Int
  list : Int
  used : Int
  deriving DecidableEq
def c_lists_link (x : lists_link) : List AV := [eI x.ahead, eI x.behind, eI x.list, eI x.used]
def e_lists_link (x : lists_link) : AV := .agg (c_lists_link x)
def z_lists_link : lists_link := ⟨(0 : Int), (0 : Int), (0 : Int), (0 : Int)⟩
theorem c_lists_link_cut (nl nt : Nat → Option Nat) (x : lists_link) : cutL nl nt (c_lists_link x) = c_lists_link x := by simp only [cutL, e_lists_link, c_lists_link, cutAV, (enc_i64 td3 sz3).cut nl nt, (enc_i64 td3 sz3).cut nl nt, (enc_i64 td3 sz3).cut nl nt, (enc_i64 td3 sz3).cut nl nt]
theorem enc106 : Enc ty 106 4 e_lists_link := ⟨sz106, by decide, fun _ => rfl, fun _ _ => rfl, fun h => (by cases h), fun _ => rfl, fun nl nt x => by simp only [e_lists_link, cutAV, c_lists_link_cut]⟩
structure lists_Lists where
  nodes : List lists_link
  first_ : List Int
  last_ : List Int
  count : List Int
  free : Int
  clock : Int
  deriving DecidableEq
structure ram_Ram where
  budget : slab_Budget
  lists : lists_Lists
  heads : List Int
  next_ : List Int
  things : List aEn
  count : Int
  deriving DecidableEq
structure trouble_fault where
  op : List (BitVec 8)
  at_ : Int
  code : Int
  under : Err
  deriving DecidableEq
def c_trouble_fault (x : trouble_fault) : List AV := [eS x.op, eI x.at_, eI x.code, eErr x.under]
def e_trouble_fault (x : trouble_fault) : AV := .agg (c_trouble_fault x)
theorem c_trouble_fault_cut (nl nt : Nat → Option Nat) (x : trouble_fault) : cutL nl nt (c_trouble_fault x) = c_trouble_fault x := by simp only [cutL, e_trouble_fault, c_trouble_fault, cutAV, (enc_s td9 sz9).cut nl nt, (enc_i64 td3 sz3).cut nl nt, (enc_i64 td34 sz34).cut nl nt, encErr.cut nl nt]
theorem enc98 : Enc ty 98 4 e_trouble_fault := ⟨sz98, by decide, fun _ => rfl, fun _ _ => rfl, fun h => (by cases h), fun x => (by simp only [e_trouble_fault, c_trouble_fault, AV.cells, List.all_cons, List.all_nil, eErr_flat]; rfl), fun nl nt x => by simp only [e_trouble_fault, cutAV, c_trouble_fault_cut]⟩
end Go.Proofs.YtggeboakilalhaaDoor
namespace Go.Proofs.YtggeboakilalhaaDoor
open Go Go.Va
set_option linter.unusedVariables false
set_option linter.unusedSimpArgs false
set_option maxRecDepth 20000
noncomputable def trouble_New (x0 : List (BitVec 8)) (x1 : Int) (x2 : Int) : Option (Err) :=
 lt (x2 == (0 : Int)) fun v2 =>
 if v2 = true then
  some Err.nil
 else
  lt ((⟨x0, x1, x2, Err.nil⟩ : trouble_fault)) fun v5 =>
  some (Err.fault v5.op v5.at_ v5.code v5.under)
noncomputable def trouble_Wrap (x0 : List (BitVec 8)) (x1 : Int) (x2 : Err) : Option (Err) :=
 lt (Err.isNil x2) fun v2 =>
 if v2 = true then
  some Err.nil
 else
  lt ((⟨x0, x1, (0 : Int), x2⟩ : trouble_fault)) fun v5 =>
  some (Err.fault v5.op v5.at_ v5.code v5.under)
noncomputable def octets_Key (x0 : List (BitVec 8)) : Option (Int) :=
 lt (((x0).length : Int)) fun v2 =>
 lt (v2 == (0 : Int)) fun v4 =>
 if v4 = true then
  some (1 : Int)
 else
  lt (decide (v2 > (40 : Int))) fun v7 =>
  if v7 = true then
   some (3 : Int)
  else
   some (0 : Int)
noncomputable def item_Check_1_c (x0 : List (BitVec 8)) (x1 : Int) (x2 : Int) (x3 : Err) : Option (Err) :=
 (
  lt (Err.isNil x3) fun v6 =>
  if v6 = true then
   lt (decide (x1 < x2)) fun v9 =>
   if v9 = true then
    some true
   else
    lt (decide (x1 > (1099511627776 : Int))) fun v12 =>
    some v12
  else
   some false
 : Option (Bool)).bind fun s1 =>
  if s1 = true then
   (trouble_New x0 x1 (2 : Int)).bind fun v16 =>
   lt ((v16 : Err)) fun c18 =>
   some c18
  else
   some x3
noncomputable def item_Check (x0 : aEn) : Option (Err) :=
 (octets_Key x0.Key).bind fun v2 =>
 lt (v2 != (0 : Int)) fun v4 =>
 if v4 = true then
  lt (((x0.Key).length : Int)) fun v7 =>
  (trouble_New ([107#8, 101#8, 121#8] : List (BitVec 8)) v7 v2).bind fun v9 =>
  some v9
 else
  (item_Check_1_c ([118#8, 101#8, 114#8, 115#8, 105#8, 111#8, 110#8] : List (BitVec 8)) x0.Version (1 : Int) Err.nil).bind fun v13 =>
  (item_Check_1_c ([97#8, 115#8, 111#8, 102#8] : List (BitVec 8)) x0.AsOf x0.Version v13).bind fun v15 =>
  (item_Check_1_c ([101#8, 110#8, 100#8, 115#8] : List (BitVec 8)) x0.Ends (0 : Int) v15).bind fun v17 =>
  (
   lt (Err.isNil v17) fun v23 =>
   if v23 = true then
    lt (((x0.Value).length : Int)) fun v26 =>
    lt (decide (v26 > (4096 : Int))) fun v28 =>
    some v28
   else
    some false
  : Option (Bool)).bind fun s18 =>
   if s18 = true then
    lt (((x0.Value).length : Int)) fun v32 =>
    (trouble_New ([118#8, 97#8, 108#8, 117#8, 101#8] : List (BitVec 8)) v32 (3 : Int)).bind fun v34 =>
    lt ((v34 : Err)) fun c36 =>
    some c36
   else
    some v17
noncomputable def octets_Len_F (rec : Int → Option (Int)) (x0 : Int) : Option (Int) :=
 lt (decide (x0 ≥ (34359738368 : Int))) fun v2 =>
 if v2 = true then
  lt (shr64 x0 35) fun v5 =>
  (rec v5).bind fun v7 =>
  lt (w64 ((5 : Int) + v7)) fun v9 =>
  some v9
 else
  lt (decide (x0 ≥ (268435456 : Int))) fun v11 =>
  if v11 = true then
   lt (w64 ((1 : Int) + (1 : Int))) fun v14 =>
   lt (w64 (v14 + (1 : Int))) fun v16 =>
   lt (w64 (v16 + (1 : Int))) fun v18 =>
   lt (w64 (v18 + (1 : Int))) fun v20 =>
   some v20
  else
   lt (decide (x0 ≥ (2097152 : Int))) fun v22 =>
   if v22 = true then
    lt (w64 ((1 : Int) + (1 : Int))) fun v25 =>
    lt (w64 (v25 + (1 : Int))) fun v27 =>
    lt (w64 (v27 + (1 : Int))) fun v29 =>
    some v29
   else
    lt (decide (x0 ≥ (16384 : Int))) fun v31 =>
    if v31 = true then
     lt (w64 ((1 : Int) + (1 : Int))) fun v34 =>
     lt (w64 (v34 + (1 : Int))) fun v36 =>
     some v36
    else
     lt (decide (x0 ≥ (128 : Int))) fun v38 =>
     if v38 = true then
      lt (w64 ((1 : Int) + (1 : Int))) fun v41 =>
      some v41
     else
      some (1 : Int)
noncomputable def octets_Len_n : Nat → Int → Option (Int)
 | 0 => fun _ => none
 | k + 1 => octets_Len_F (octets_Len_n k)
noncomputable def octets_Len (x0 : Int) : Option (Int) := octets_Len_n 1000000 x0
noncomputable def item_Size (x0 : aEn) : Option (Int) :=
 lt (((x0.Key).length : Int)) fun v2 =>
 (octets_Len v2).bind fun v4 =>
 lt (((x0.Key).length : Int)) fun v6 =>
 lt (w64 (v4 + v6)) fun v8 =>
 lt (((x0.Value).length : Int)) fun v10 =>
 (octets_Len v10).bind fun v12 =>
 lt (w64 (v8 + v12)) fun v14 =>
 lt (((x0.Value).length : Int)) fun v16 =>
 lt (w64 (v14 + v16)) fun v18 =>
 (octets_Len x0.Version).bind fun v20 =>
 lt (w64 (v18 + v20)) fun v22 =>
 (octets_Len x0.AsOf).bind fun v24 =>
 lt (w64 (v22 + v24)) fun v26 =>
 (octets_Len x0.Ends).bind fun v28 =>
 lt (w64 (v26 + v28)) fun v30 =>
 some v30
noncomputable def item_Live (x0 : aEn) (x1 : Int) : Option (Bool) :=
 lt (x0.Ends == (0 : Int)) fun v2 =>
 if v2 = true then
  some true
 else
  lt (decide (x0.Ends > x1)) fun v5 =>
  some v5
noncomputable def slab_Size (x0 : Int) : Option (Int) :=
 (
  lt (decide (x0 < (0 : Int))) fun v6 =>
  if v6 = true then
   some true
  else
   lt (decide (x0 ≥ (9 : Int))) fun v9 =>
   some v9
 : Option (Bool)).bind fun s1 =>
  if s1 = true then
   some (0 : Int)
  else
   ((sc x0).map fun m => shl64 (32 : Int) m).bind fun v13 =>
   some v13
noncomputable def slab_Class_b0 (x0 : Int) (c4 : Int) : Option ((Int) ⊕ (Unit ⊕ (Int))) :=
 lt (decide (c4 < (9 : Int))) fun v15 =>
 if v15 = true then
  (slab_Size c4).bind fun v18 =>
  lt (decide (x0 ≤ v18)) fun v20 =>
  if v20 = true then
   some (.inr (.inr c4))
  else
   lt (w64 (c4 + (1 : Int))) fun v24 =>
   some (.inl v24)
 else
  some (.inr (.inl ()))
noncomputable def slab_Class_l0 (x0 : Int) (s : Int) : Option (Unit ⊕ (Int)) := loopO (fun s => slab_Class_b0 x0 s) s
noncomputable def slab_Class (x0 : Int) : Option (Int) :=
 lt (decide (x0 < (0 : Int))) fun v2 =>
 if v2 = true then
  some (-1 : Int)
 else
  (slab_Class_l0 x0 (0 : Int)).bind fun o5 =>
   Sum.elim (fun s12 : Unit =>
    some (-1 : Int)
    ) (fun y => some y) o5
noncomputable def slab_Budget_Fits (x0 : slab_Budget) (x1 : Int) : Option (Bool) :=
 (slab_Class x1).bind fun v2 =>
 lt (decide (v2 ≥ (0 : Int))) fun v4 =>
 if v4 = true then
  (slab_Size v2).bind fun v7 =>
  lt (decide (v7 ≤ x0.limit)) fun v9 =>
  some v9
 else
  some false
noncomputable def bloom_Slot (x0 : BitVec 64) (x1 : Int) : Option (Int) :=
 lt (decide (x1 < (1 : Int))) fun v2 =>
 if v2 = true then
  some (0 : Int)
 else
  lt (BitVec.ofInt 64 x1) fun v5 =>
  ((dvU v5).map fun m => x0 % m).bind fun v7 =>
  lt (BitVec.toInt v7) fun v9 =>
  some v9
noncomputable def bloom_Mix (x0 : BitVec 64) : Option ((BitVec 64)) :=
 lt (x0 >>> 33) fun v2 =>
 lt (x0 ^^^ v2) fun v4 =>
 lt (v4 * 18397679294719823053#64) fun v6 =>
 lt (v6 >>> 33) fun v8 =>
 lt (v6 ^^^ v8) fun v10 =>
 lt (v10 * 14181476777654086739#64) fun v12 =>
 lt (v12 >>> 33) fun v14 =>
 lt (v12 ^^^ v14) fun v16 =>
 some v16
noncomputable def bloom_Hash_b0 (x0 : List (BitVec 8)) (v2 : Int) (c3 : BitVec 64) (c4 : Int) : Option (((BitVec 64) × Int) ⊕ ((BitVec 64))) :=
 lt (decide (c4 < v2)) fun v15 =>
 if v15 = true then
  (ix x0 c4).bind fun v18 =>
  lt (BitVec.setWidth 64 v18) fun v20 =>
  lt (c3 ^^^ v20) fun v22 =>
  lt (v22 * 1099511628211#64) fun v24 =>
  lt (w64 (c4 + (1 : Int))) fun v26 =>
  some (.inl (v24, v26))
 else
  some (.inr c3)
noncomputable def bloom_Hash_l0 (x0 : List (BitVec 8)) (v2 : Int) (s : (BitVec 64) × Int) : Option ((BitVec 64)) := loopO (fun s => bloom_Hash_b0 x0 v2 s.1 s.2) s
noncomputable def bloom_Hash (x0 : List (BitVec 8)) : Option ((BitVec 64)) :=
 lt (((x0).length : Int)) fun v2 =>
 (bloom_Hash_l0 x0 v2 (14695981039346656037#64, (0 : Int))).bind fun s12 =>
  (bloom_Mix s12).bind fun v29 =>
  some v29
noncomputable def ram_Ram_head (x0 : ram_Ram) (x1 : List (BitVec 8)) : Option (Int) :=
 (bloom_Hash x1).bind fun v2 =>
 lt ((((x0.heads).length : Nat) : Int)) fun v4 =>
 (bloom_Slot v2 v4).bind fun v6 =>
 (chk (x0.heads).length v6).bind fun v8 =>
 some v6
noncomputable def ram_Ram_find_b0 (x0 : ram_Ram) (x1 : List (BitVec 8)) (c5 : Int) : Option ((Int) ⊕ (Unit ⊕ (Int))) :=
 lt (decide (c5 ≥ (0 : Int))) fun v16 =>
 if v16 = true then
  (chk (x0.things).length c5).bind fun v19 =>
  (ixA (x0.things).length x0.things c5).bind fun v21 =>
  lt (v21.Key == x1) fun v23 =>
  if v23 = true then
   some (.inr (.inr c5))
  else
   (chk (x0.next_).length c5).bind fun v27 =>
   (ixA (x0.next_).length x0.next_ c5).bind fun v29 =>
   some (.inl v29)
 else
  some (.inr (.inl ()))
noncomputable def ram_Ram_find_l0 (x0 : ram_Ram) (x1 : List (BitVec 8)) (s : Int) : Option (Unit ⊕ (Int)) := loopO (fun s => ram_Ram_find_b0 x0 x1 s) s
noncomputable def ram_Ram_find (x0 : ram_Ram) (x1 : List (BitVec 8)) : Option (Int) :=
 (ram_Ram_head x0 x1).bind fun v2 =>
 (ixA (x0.heads).length x0.heads v2).bind fun v4 =>
 (ram_Ram_find_l0 x0 x1 v4).bind fun o6 =>
  Sum.elim (fun s13 : Unit =>
   some (-1 : Int)
   ) (fun y => some y) o6
noncomputable def lists_Lists_List (x0 : lists_Lists) (x1 : Int) : Option (Int) :=
 (
  lt (decide (x1 < (0 : Int))) fun v6 =>
  if v6 = true then
   some true
  else
   lt ((((x0.nodes).length : Nat) : Int)) fun v9 =>
   lt (decide (x1 ≥ v9)) fun v11 =>
   some v11
 : Option (Bool)).bind fun s1 =>
  if s1 = true then
   some (-1 : Int)
  else
   (chk (x0.nodes).length x1).bind fun v15 =>
   (ixA (x0.nodes).length x0.nodes x1).bind fun v17 =>
   some v17.list
noncomputable def lists_Lists_at (x0 : lists_Lists) (x1 : List (BitVec 8)) (x2 : Int) : Option (Err) :=
 (
  lt (decide (x2 < (0 : Int))) fun v6 =>
  if v6 = true then
   some true
  else
   lt ((((x0.nodes).length : Nat) : Int)) fun v9 =>
   lt (decide (x2 ≥ v9)) fun v11 =>
   some v11
 : Option (Bool)).bind fun s1 =>
  if s1 = true then
   (trouble_New x1 x2 (2 : Int)).bind fun v15 =>
   some v15
  else
   (chk (x0.nodes).length x2).bind fun v17 =>
   (ixA (x0.nodes).length x0.nodes x2).bind fun v19 =>
   lt (v19.list == (-1 : Int)) fun v21 =>
   if v21 = true then
    (trouble_New x1 x2 (9 : Int)).bind fun v24 =>
    some v24
   else
    some Err.nil
noncomputable def lists_Lists_pull (x0 : lists_Lists) (x1 : Int) : Option (lists_Lists) :=
 (chk (x0.nodes).length x1).bind fun v2 =>
 (ixA (x0.nodes).length x0.nodes x1).bind fun v4 =>
 lt ((v4 : lists_link)) fun c8 =>
 lt (c8.ahead == (-1 : Int)) fun v11 =>
 (
  if v11 = true then
   (chk (x0.first_).length c8.list).bind fun v18 =>
   (updA (x0.first_).length x0.first_ c8.list (fun _ => c8.behind)).bind fun c20 =>
   some (x0.nodes, c20)
  else
   (chk (x0.nodes).length c8.ahead).bind fun v23 =>
   (updA (x0.nodes).length x0.nodes c8.ahead (fun y => ({ y with behind := c8.behind } : lists_link))).bind fun c25 =>
   some (c25, x0.first_)
 : Option ((List lists_link) × (List Int))).bind fun s12 =>
  lt (c8.behind == (-1 : Int)) fun v29 =>
  (
   if v29 = true then
    (chk (x0.last_).length c8.list).bind fun v36 =>
    (updA (x0.last_).length x0.last_ c8.list (fun _ => c8.ahead)).bind fun c38 =>
    some (s12.1, c38)
   else
    (chk (s12.1).length c8.behind).bind fun v41 =>
    (updA (s12.1).length s12.1 c8.behind (fun y => ({ y with ahead := c8.ahead } : lists_link))).bind fun c43 =>
    some (c43, x0.last_)
  : Option ((List lists_link) × (List Int))).bind fun s30 =>
   (chk (x0.count).length c8.list).bind fun v47 =>
   (ixA (x0.count).length x0.count c8.list).bind fun v49 =>
   lt (w64 (v49 - (1 : Int))) fun v51 =>
   (chk (x0.count).length c8.list).bind fun v53 =>
   (updA (x0.count).length x0.count c8.list (fun _ => v51)).bind fun c55 =>
   some ({ x0 with nodes := s30.1, first_ := s12.2, last_ := s30.2, count := c55 } : lists_Lists)
noncomputable def lists_Lists_Drop (x0 : lists_Lists) (x1 : Int) : Option (Err × lists_Lists) :=
 (lists_Lists_at x0 ([100#8, 114#8, 111#8, 112#8] : List (BitVec 8)) x1).bind fun v2 =>
 lt (!Err.isNil v2) fun v4 =>
 if v4 = true then
  some (v2, x0)
 else
  (lists_Lists_pull x0 x1).bind fun v7 =>
  lt ((⟨(-1 : Int), v7.free, (-1 : Int), (0 : Int)⟩ : lists_link)) fun v9 =>
  (chk (v7.nodes).length x1).bind fun v11 =>
  (updA (v7.nodes).length v7.nodes x1 (fun _ => v9)).bind fun c13 =>
  some (Err.nil, ({ ({ v7 with free := x1 } : lists_Lists) with nodes := c13, first_ := v7.first_, last_ := v7.last_, count := v7.count } : lists_Lists))
noncomputable def slab_Budget_Give (x0 : slab_Budget) (x1 : Int) : Option (Err × slab_Budget) :=
 (slab_Size x1).bind fun v2 =>
 lt (v2 == (0 : Int)) fun v4 =>
 if v4 = true then
  (trouble_New ([99#8, 108#8, 97#8, 115#8, 115#8] : List (BitVec 8)) x1 (2 : Int)).bind fun v7 =>
  some (v7, x0)
 else
  (chk 9 x1).bind fun v9 =>
  (ixA 9 (x0.count).toList x1).bind fun v11 =>
  lt (v11 == (0 : Int)) fun v13 =>
  if v13 = true then
   (trouble_New ([103#8, 105#8, 118#8, 101#8] : List (BitVec 8)) x1 (9 : Int)).bind fun v16 =>
   some (v16, x0)
  else
   lt (w64 (x0.used - v2)) fun v18 =>
   lt (({ x0 with used := v18 } : slab_Budget)) fun c20 =>
   (chk 9 x1).bind fun v23 =>
   (ixA 9 (c20.count).toList x1).bind fun v25 =>
   lt (w64 (v25 - (1 : Int))) fun v27 =>
   (chk 9 x1).bind fun v29 =>
   (updV (c20.count) x1 (fun _ => v27)).bind fun v31 =>
   lt (({ c20 with count := v31 } : slab_Budget)) fun c33 =>
   some (Err.nil, c33)
noncomputable def ram_Ram_remove_b0 (x0 : ram_Ram) (x1 : Int) (v6 : aEn) (c12 : Bool × Int) : Option (((Bool × Int)) ⊕ ((Bool × Int))) :=
 (
  if c12.1 = true then
   (ixA (x0.heads).length x0.heads c12.2).bind fun v28 =>
   lt (v28 != x1) fun v30 =>
   some ((true, c12.2), v30)
  else
   (ixA (x0.next_).length x0.next_ c12.2).bind fun v32 =>
   lt (v32 != x1) fun v34 =>
   some ((false, c12.2), v34)
 : Option ((Bool × Int) × Bool)).bind fun s22 =>
  if s22.2 = true then
   if s22.1.1 = true then
    (ixA (x0.heads).length x0.heads s22.1.2).bind fun v39 =>
    (chk (x0.next_).length v39).bind fun v41 =>
    some (.inl (false, v39))
   else
    (ixA (x0.next_).length x0.next_ s22.1.2).bind fun v43 =>
    (chk (x0.next_).length v43).bind fun v45 =>
    some (.inl (false, v43))
  else
   some (.inr (s22.1.1, s22.1.2))
noncomputable def ram_Ram_remove_l0 (x0 : ram_Ram) (x1 : Int) (v6 : aEn) (s : (Bool × Int)) : Option ((Bool × Int)) := loopO (fun s => ram_Ram_remove_b0 x0 x1 v6 s) s
noncomputable def ram_Ram_remove (x0 : ram_Ram) (x1 : Int) : Option (aEn × ram_Ram) :=
 (chk (x0.things).length x1).bind fun v4 =>
 (ixA (x0.things).length x0.things x1).bind fun v6 =>
 (ram_Ram_head x0 ((v6 : aEn).Key)).bind fun v11 =>
 (ram_Ram_remove_l0 x0 x1 v6 (true, v11)).bind fun s20 =>
  (
   if s20.1 = true then
    (chk (x0.next_).length x1).bind fun v53 =>
    (ixA (x0.next_).length x0.next_ x1).bind fun v55 =>
    (updA (x0.heads).length x0.heads s20.2 (fun _ => v55)).bind fun c57 =>
    some (c57, x0.next_)
   else
    (chk (x0.next_).length x1).bind fun v60 =>
    (ixA (x0.next_).length x0.next_ x1).bind fun v62 =>
    (updA (x0.next_).length x0.next_ s20.2 (fun _ => v62)).bind fun c64 =>
    some (x0.heads, c64)
  : Option ((List Int) × (List Int))).bind fun s47 =>
   (lists_Lists_List x0.lists x1).bind fun v68 =>
   (lists_Lists_Drop x0.lists x1).bind fun v70 =>
   (slab_Budget_Give x0.budget v68).bind fun v72 =>
   (chk (x0.things).length x1).bind fun v74 =>
   (updA (x0.things).length x0.things x1 (fun _ => (⟨[], 0, 0, 0, []⟩ : aEn))).bind fun c76 =>
   lt (w64 (x0.count - (1 : Int))) fun v79 =>
   some (((v6 : aEn) : aEn), ({ ({ x0 with count := v79 } : ram_Ram) with budget := v72.2, lists := v70.2, heads := s47.1, next_ := s47.2, things := c76 } : ram_Ram))
noncomputable def slab_Budget_Left (x0 : slab_Budget) : Option (Int) :=
 lt (w64 (x0.limit - x0.used)) fun v2 =>
 some v2
noncomputable def lists_Lists_Oldest_b0 (x0 : lists_Lists) (v2 : Int) (c3 : Int) (c4 : Int) : Option ((Int × Int) ⊕ (Int)) :=
 lt (decide (c4 < v2)) fun v15 =>
 if v15 = true then
  (chk (x0.last_).length c4).bind fun v18 =>
  (ixA (x0.last_).length x0.last_ c4).bind fun v20 =>
  (
   lt (v20 != (-1 : Int)) fun v26 =>
   if v26 = true then
    lt (c3 == (-1 : Int)) fun v29 =>
    if v29 = true then
     some true
    else
     (chk (x0.nodes).length v20).bind fun v32 =>
     (ixA (x0.nodes).length x0.nodes v20).bind fun v34 =>
     (chk (x0.nodes).length c3).bind fun v36 =>
     (ixA (x0.nodes).length x0.nodes c3).bind fun v38 =>
     lt (decide (v34.used < v38.used)) fun v40 =>
     some v40
   else
    some false
  : Option (Bool)).bind fun s21 =>
   if s21 = true then
    lt (w64 (c4 + (1 : Int))) fun v44 =>
    some (.inl (v20, v44))
   else
    lt (w64 (c4 + (1 : Int))) fun v46 =>
    some (.inl (c3, v46))
 else
  some (.inr c3)
noncomputable def lists_Lists_Oldest_l0 (x0 : lists_Lists) (v2 : Int) (s : Int × Int) : Option (Int) := loopO (fun s => lists_Lists_Oldest_b0 x0 v2 s.1 s.2) s
noncomputable def lists_Lists_Oldest (x0 : lists_Lists) : Option (Int) :=
 lt ((((x0.last_).length : Nat) : Int)) fun v2 =>
 (lists_Lists_Oldest_l0 x0 v2 ((-1 : Int), (0 : Int))).bind fun s12 =>
  some s12
noncomputable def lists_Lists_push (x0 : lists_Lists) (x1 : Int) (x2 : Int) : Option (lists_Lists) :=
 lt (w64 (x0.clock + (1 : Int))) fun v2 =>
 (chk (x0.first_).length x2).bind fun v5 =>
 (ixA (x0.first_).length x0.first_ x2).bind fun v7 =>
 lt ((⟨(-1 : Int), v7, x2, ({ x0 with clock := v2 } : lists_Lists).clock⟩ : lists_link)) fun v9 =>
 (chk (x0.nodes).length x1).bind fun v11 =>
 (updA (x0.nodes).length x0.nodes x1 (fun _ => v9)).bind fun c13 =>
 (chk (x0.first_).length x2).bind fun v16 =>
 (ixA (x0.first_).length x0.first_ x2).bind fun v18 =>
 lt (v18 == (-1 : Int)) fun v20 =>
 (
  if v20 = true then
   (chk (x0.last_).length x2).bind fun v27 =>
   (updA (x0.last_).length x0.last_ x2 (fun _ => x1)).bind fun c29 =>
   some (c13, c29)
  else
   (chk (x0.first_).length x2).bind fun v32 =>
   (ixA (x0.first_).length x0.first_ x2).bind fun v34 =>
   (chk (c13).length v34).bind fun v36 =>
   (updA (c13).length c13 v34 (fun y => ({ y with ahead := x1 } : lists_link))).bind fun c38 =>
   some (c38, x0.last_)
 : Option ((List lists_link) × (List Int))).bind fun s21 =>
  (chk (x0.first_).length x2).bind fun v42 =>
  (updA (x0.first_).length x0.first_ x2 (fun _ => x1)).bind fun c44 =>
  (chk (x0.count).length x2).bind fun v47 =>
  (ixA (x0.count).length x0.count x2).bind fun v49 =>
  lt (w64 (v49 + (1 : Int))) fun v51 =>
  (chk (x0.count).length x2).bind fun v53 =>
  (updA (x0.count).length x0.count x2 (fun _ => v51)).bind fun c55 =>
  some ({ ({ x0 with clock := v2 } : lists_Lists) with nodes := s21.1, first_ := c44, last_ := s21.2, count := c55 } : lists_Lists)
noncomputable def lists_Lists_Add (x0 : lists_Lists) (x1 : Int) : Option (Int × Err × lists_Lists) :=
 (
  lt (decide (x1 < (0 : Int))) fun v6 =>
  if v6 = true then
   some true
  else
   lt ((((x0.first_).length : Nat) : Int)) fun v9 =>
   lt (decide (x1 ≥ v9)) fun v11 =>
   some v11
 : Option (Bool)).bind fun s1 =>
  if s1 = true then
   (trouble_New ([97#8, 100#8, 100#8] : List (BitVec 8)) x1 (2 : Int)).bind fun v15 =>
   some ((-1 : Int), v15, x0)
  else
   lt (x0.free == (-1 : Int)) fun v17 =>
   if v17 = true then
    (trouble_New ([97#8, 100#8, 100#8] : List (BitVec 8)) x1 (4 : Int)).bind fun v20 =>
    some ((-1 : Int), v20, x0)
   else
    (chk (x0.nodes).length x0.free).bind fun v22 =>
    (ixA (x0.nodes).length x0.nodes x0.free).bind fun v24 =>
    (lists_Lists_push ({ ({ x0 with free := v24.behind } : lists_Lists) with nodes := x0.nodes, first_ := x0.first_, last_ := x0.last_, count := x0.count } : lists_Lists) x0.free x1).bind fun v27 =>
    some (x0.free, Err.nil, v27)
noncomputable def slab_Budget_Take (x0 : slab_Budget) (x1 : Int) : Option (Err × slab_Budget) :=
 (slab_Size x1).bind fun v2 =>
 lt (v2 == (0 : Int)) fun v4 =>
 if v4 = true then
  (trouble_New ([99#8, 108#8, 97#8, 115#8, 115#8] : List (BitVec 8)) x1 (2 : Int)).bind fun v7 =>
  some (v7, x0)
 else
  (slab_Budget_Left x0).bind fun v9 =>
  lt (decide (v2 > v9)) fun v11 =>
  if v11 = true then
   (trouble_New ([116#8, 97#8, 107#8, 101#8] : List (BitVec 8)) v2 (4 : Int)).bind fun v14 =>
   some (v14, x0)
  else
   lt (w64 (x0.used + v2)) fun v16 =>
   lt (({ x0 with used := v16 } : slab_Budget)) fun c18 =>
   (chk 9 x1).bind fun v21 =>
   (ixA 9 (c18.count).toList x1).bind fun v23 =>
   lt (w64 (v23 + (1 : Int))) fun v25 =>
   (chk 9 x1).bind fun v27 =>
   (updV (c18.count) x1 (fun _ => v25)).bind fun v29 =>
   lt (({ c18 with count := v29 } : slab_Budget)) fun c31 =>
   some (Err.nil, c31)
noncomputable def item_Copy (x0 : aEn) : Option (aEn) :=
 (app 1 ([] : List (BitVec 8)) x0.Value).bind fun v6 =>
 lt (({ x0 with Value := v6 } : aEn)) fun c10 =>
 some (c10 : aEn)
noncomputable def ram_Ram_Set_b0 (x1 : aEn) (x2 : Int) (v27 : Int) (c40 : List aEn) (c41 : ram_Ram) (c42 : slab_Budget) (c43 : lists_Lists) (c44 : List lists_link) (c45 : List Int) (c46 : List Int) (c47 : List Int) (c48 : List Int) (c49 : List Int) (c50 : List aEn) : Option (((List aEn) × ram_Ram × slab_Budget × lists_Lists × (List lists_link) × (List Int) × (List Int) × (List Int) × (List Int) × (List Int) × (List aEn)) ⊕ ((List aEn) × ram_Ram × slab_Budget × lists_Lists × (List lists_link) × (List Int) × (List Int) × (List Int) × (List Int) × (List Int) × (List aEn))) :=
 (slab_Size v27).bind fun v62 =>
 (slab_Budget_Left c42).bind fun v64 =>
 lt (decide (v62 > v64)) fun v66 =>
 if v66 = true then
  (lists_Lists_Oldest ({ c43 with nodes := c44, first_ := c45, last_ := c46, count := c47 } : lists_Lists)).bind fun v69 =>
  (ram_Ram_remove ({ c41 with budget := c42, lists := ({ c43 with nodes := c44, first_ := c45, last_ := c46, count := c47 } : lists_Lists), heads := c48, next_ := c49, things := c50 } : ram_Ram) v69).bind fun v71 =>
  (item_Live (v71.1 : aEn) x2).bind fun v76 =>
  if v76 = true then
   lt (([(v71.1 : aEn)] : List aEn)) fun v79 =>
   (app 64 c40 v79).bind fun v81 =>
   some (.inl (v81, v71.2, v71.2.budget, v71.2.lists, v71.2.lists.nodes, v71.2.lists.first_, v71.2.lists.last_, v71.2.lists.count, v71.2.heads, v71.2.next_, v71.2.things))
  else
   some (.inl (c40, v71.2, v71.2.budget, v71.2.lists, v71.2.lists.nodes, v71.2.lists.first_, v71.2.lists.last_, v71.2.lists.count, v71.2.heads, v71.2.next_, v71.2.things))
 else
  some (.inr (c40, c41, c42, c43, c44, c45, c46, c47, c48, c49, c50))
noncomputable def ram_Ram_Set_l0 (x1 : aEn) (x2 : Int) (v27 : Int) (s : (List aEn) × ram_Ram × slab_Budget × lists_Lists × (List lists_link) × (List Int) × (List Int) × (List Int) × (List Int) × (List Int) × (List aEn)) : Option ((List aEn) × ram_Ram × slab_Budget × lists_Lists × (List lists_link) × (List Int) × (List Int) × (List Int) × (List Int) × (List Int) × (List aEn)) := loopO (fun s => ram_Ram_Set_b0 x1 x2 v27 s.1 s.2.1 s.2.2.1 s.2.2.2.1 s.2.2.2.2.1 s.2.2.2.2.2.1 s.2.2.2.2.2.2.1 s.2.2.2.2.2.2.2.1 s.2.2.2.2.2.2.2.2.1 s.2.2.2.2.2.2.2.2.2.1 s.2.2.2.2.2.2.2.2.2.2) s
noncomputable def ram_Ram_Set (x0 : ram_Ram) (x1 : aEn) (x2 : Int) : Option ((List aEn) × Err × ram_Ram) :=
 (item_Check x1).bind fun v2 =>
 lt (!Err.isNil v2) fun v4 =>
 if v4 = true then
  (trouble_Wrap ([115#8, 101#8, 116#8] : List (BitVec 8)) x2 v2).bind fun v7 =>
  some ([], v7, x0)
 else
  (item_Size x1).bind fun v9 =>
  (item_Live x1 x2).bind fun v11 =>
  lt (!v11) fun v13 =>
  if v13 = true then
   (trouble_New ([115#8, 101#8, 116#8] : List (BitVec 8)) x2 (10 : Int)).bind fun v16 =>
   some ([], v16, x0)
  else
   (slab_Budget_Fits x0.budget v9).bind fun v18 =>
   lt (!v18) fun v20 =>
   if v20 = true then
    (trouble_New ([115#8, 101#8, 116#8] : List (BitVec 8)) v9 (3 : Int)).bind fun v23 =>
    some ([], v23, x0)
   else
    (item_Size x1).bind fun v25 =>
    (slab_Class v25).bind fun v27 =>
    (ram_Ram_find x0 x1.Key).bind fun v29 =>
    lt (decide (v29 ≥ (0 : Int))) fun v31 =>
    (
     if v31 = true then
      (ram_Ram_remove x0 v29).bind fun v38 =>
      some (v38.2, v38.2.budget, v38.2.lists, v38.2.lists.nodes, v38.2.lists.first_, v38.2.lists.last_, v38.2.lists.count, v38.2.heads, v38.2.next_, v38.2.things)
     else
      some (x0, x0.budget, x0.lists, x0.lists.nodes, x0.lists.first_, x0.lists.last_, x0.lists.count, x0.heads, x0.next_, x0.things)
    : Option (ram_Ram × slab_Budget × lists_Lists × (List lists_link) × (List Int) × (List Int) × (List Int) × (List Int) × (List Int) × (List aEn))).bind fun s32 =>
     (ram_Ram_Set_l0 x1 x2 v27 ([], s32.1, s32.2.1, s32.2.2.1, s32.2.2.2.1, s32.2.2.2.2.1, s32.2.2.2.2.2.1, s32.2.2.2.2.2.2.1, s32.2.2.2.2.2.2.2.1, s32.2.2.2.2.2.2.2.2.1, s32.2.2.2.2.2.2.2.2.2)).bind fun s59 =>
      (lists_Lists_Add ({ s59.2.2.2.1 with nodes := s59.2.2.2.2.1, first_ := s59.2.2.2.2.2.1, last_ := s59.2.2.2.2.2.2.1, count := s59.2.2.2.2.2.2.2.1 } : lists_Lists) v27).bind fun v86 =>
      lt (!Err.isNil v86.2.1) fun v88 =>
      if v88 = true then
       (trouble_Wrap ([115#8, 101#8, 116#8] : List (BitVec 8)) v27 v86.2.1).bind fun v91 =>
       some (s59.1, v91, ({ s59.2.1 with budget := s59.2.2.1, lists := v86.2.2, heads := s59.2.2.2.2.2.2.2.2.1, next_ := s59.2.2.2.2.2.2.2.2.2.1, things := s59.2.2.2.2.2.2.2.2.2.2 } : ram_Ram))
      else
       (slab_Budget_Take s59.2.2.1 v27).bind fun v93 =>
       (ram_Ram_head ({ s59.2.1 with budget := v93.2, lists := v86.2.2, heads := s59.2.2.2.2.2.2.2.2.1, next_ := s59.2.2.2.2.2.2.2.2.2.1, things := s59.2.2.2.2.2.2.2.2.2.2 } : ram_Ram) x1.Key).bind fun v95 =>
       (item_Copy x1).bind fun v97 =>
       (ixA (s59.2.2.2.2.2.2.2.2.1).length s59.2.2.2.2.2.2.2.2.1 v95).bind fun v99 =>
       (chk (s59.2.2.2.2.2.2.2.2.2.2).length v86.1).bind fun v101 =>
       (updA (s59.2.2.2.2.2.2.2.2.2.2).length s59.2.2.2.2.2.2.2.2.2.2 v86.1 (fun _ => v97)).bind fun c103 =>
       (chk (s59.2.2.2.2.2.2.2.2.2.1).length v86.1).bind fun v106 =>
       (updA (s59.2.2.2.2.2.2.2.2.2.1).length s59.2.2.2.2.2.2.2.2.2.1 v86.1 (fun _ => v99)).bind fun c108 =>
       (updA (s59.2.2.2.2.2.2.2.2.1).length s59.2.2.2.2.2.2.2.2.1 v95 (fun _ => v86.1)).bind fun c111 =>
       lt (w64 (s59.2.1.count + (1 : Int))) fun v114 =>
       some (s59.1, Err.nil, ({ ({ s59.2.1 with count := v114 } : ram_Ram) with budget := v93.2, lists := v86.2.2, heads := c111, next_ := c108, things := c103 } : ram_Ram))
noncomputable def ram_Ram_Peek (x0 : ram_Ram) (x1 : List (BitVec 8)) : Option (aEn × Bool) :=
 (ram_Ram_find x0 x1).bind fun v4 =>
 lt (decide (v4 < (0 : Int))) fun v6 =>
 if v6 = true then
  some (((⟨[], 0, 0, 0, []⟩ : aEn) : aEn), false)
 else
  (chk (x0.things).length v4).bind fun v10 =>
  (ixA (x0.things).length x0.things v4).bind fun v12 =>
  (item_Copy v12).bind fun v14 =>
  some ((v14 : aEn), true)
noncomputable def R02_Same_b0 (x0 : List (BitVec 8)) (x1 : List (BitVec 8)) (c8 : Int) : Option ((Int) ⊕ (Unit ⊕ (Bool))) :=
 lt (((x0).length : Int)) fun v19 =>
 lt (decide (c8 < v19)) fun v21 =>
 if v21 = true then
  (ix x0 c8).bind fun v24 =>
  (ix x1 c8).bind fun v26 =>
  lt (v24 != v26) fun v28 =>
  if v28 = true then
   some (.inr (.inr false))
  else
   lt (w64 (c8 + (1 : Int))) fun v32 =>
   some (.inl v32)
 else
  some (.inr (.inl ()))
noncomputable def R02_Same_l0 (x0 : List (BitVec 8)) (x1 : List (BitVec 8)) (s : Int) : Option (Unit ⊕ (Bool)) := loopO (fun s => R02_Same_b0 x0 x1 s) s
noncomputable def R02_Same (x0 : List (BitVec 8)) (x1 : List (BitVec 8)) : Option (Bool) :=
 lt (((x0).length : Int)) fun v2 =>
 lt (((x1).length : Int)) fun v4 =>
 lt (v2 != v4) fun v6 =>
 if v6 = true then
  some false
 else
  (R02_Same_l0 x0 x1 (0 : Int)).bind fun o9 =>
   Sum.elim (fun s16 : Unit =>
    some true
    ) (fun y => some y) o9
noncomputable def R06_Same (x0 : aEn) (x1 : aEn) : Option (Bool) :=
 lt (x0.Key == x1.Key) fun v2 =>
 if v2 = true then
  lt (x0.Version == x1.Version) fun v5 =>
  if v5 = true then
   lt (x0.AsOf == x1.AsOf) fun v8 =>
   if v8 = true then
    lt (x0.Ends == x1.Ends) fun v11 =>
    if v11 = true then
     (R02_Same x0.Value x1.Value).bind fun v14 =>
     some v14
    else
     some false
   else
    some false
  else
   some false
 else
  some false
noncomputable def R06_Find_b0 (x0 : List aEn) (x1 : List (BitVec 8)) (c1 : Int) : Option ((Int) ⊕ (Unit ⊕ (Int))) :=
 lt (((x0).length : Int)) fun v12 =>
 lt (decide (c1 < v12)) fun v14 =>
 if v14 = true then
  (ix x0 c1).bind fun v17 =>
  lt (v17.Key == x1) fun v19 =>
  if v19 = true then
   some (.inr (.inr c1))
  else
   lt (w64 (c1 + (1 : Int))) fun v23 =>
   some (.inl v23)
 else
  some (.inr (.inl ()))
noncomputable def R06_Find_l0 (x0 : List aEn) (x1 : List (BitVec 8)) (s : Int) : Option (Unit ⊕ (Int)) := loopO (fun s => R06_Find_b0 x0 x1 s) s
noncomputable def R06_Find (x0 : List aEn) (x1 : List (BitVec 8)) : Option (Int) :=
 (R06_Find_l0 x0 x1 (0 : Int)).bind fun o2 =>
  Sum.elim (fun s9 : Unit =>
   some (-1 : Int)
   ) (fun y => some y) o2
noncomputable def R06_SameAll_b0 (x0 : List aEn) (x1 : List aEn) (c8 : Int) : Option ((Int) ⊕ (Unit ⊕ (Bool))) :=
 lt (((x0).length : Int)) fun v19 =>
 lt (decide (c8 < v19)) fun v21 =>
 if v21 = true then
  (ix x0 c8).bind fun v24 =>
  (ix x1 c8).bind fun v26 =>
  (R06_Same v24 v26).bind fun v28 =>
  lt (!v28) fun v30 =>
  if v30 = true then
   some (.inr (.inr false))
  else
   lt (w64 (c8 + (1 : Int))) fun v34 =>
   some (.inl v34)
 else
  some (.inr (.inl ()))
noncomputable def R06_SameAll_l0 (x0 : List aEn) (x1 : List aEn) (s : Int) : Option (Unit ⊕ (Bool)) := loopO (fun s => R06_SameAll_b0 x0 x1 s) s
noncomputable def R06_SameAll (x0 : List aEn) (x1 : List aEn) : Option (Bool) :=
 lt (((x0).length : Int)) fun v2 =>
 lt (((x1).length : Int)) fun v4 =>
 lt (v2 != v4) fun v6 =>
 if v6 = true then
  some false
 else
  (R06_SameAll_l0 x0 x1 (0 : Int)).bind fun o9 =>
   Sum.elim (fun s16 : Unit =>
    some true
    ) (fun y => some y) o9
noncomputable def lists_Lists_Touch (x0 : lists_Lists) (x1 : Int) : Option (Err × lists_Lists) :=
 (lists_Lists_at x0 ([116#8, 111#8, 117#8, 99#8, 104#8] : List (BitVec 8)) x1).bind fun v2 =>
 lt (!Err.isNil v2) fun v4 =>
 if v4 = true then
  some (v2, x0)
 else
  (chk (x0.nodes).length x1).bind fun v7 =>
  (ixA (x0.nodes).length x0.nodes x1).bind fun v9 =>
  (lists_Lists_pull x0 x1).bind fun v11 =>
  (lists_Lists_push v11 x1 v9.list).bind fun v13 =>
  some (Err.nil, v13)
noncomputable def ram_Ram_Get (x0 : ram_Ram) (x1 : List (BitVec 8)) (x2 : Int) : Option (aEn × Bool × ram_Ram) :=
 (ram_Ram_find x0 x1).bind fun v4 =>
 lt (decide (v4 < (0 : Int))) fun v6 =>
 if v6 = true then
  some (((⟨[], 0, 0, 0, []⟩ : aEn) : aEn), false, x0)
 else
  (chk (x0.things).length v4).bind fun v10 =>
  (ixA (x0.things).length x0.things v4).bind fun v12 =>
  (item_Live v12 x2).bind fun v14 =>
  lt (!v14) fun v16 =>
  if v16 = true then
   (ram_Ram_remove x0 v4).bind fun v19 =>
   some (((⟨[], 0, 0, 0, []⟩ : aEn) : aEn), false, v19.2)
  else
   (lists_Lists_Touch x0.lists v4).bind fun v22 =>
   (chk (x0.things).length v4).bind fun v24 =>
   (ixA (x0.things).length x0.things v4).bind fun v26 =>
   (item_Copy v26).bind fun v28 =>
   some ((v28 : aEn), true, ({ x0 with lists := v22.2 } : ram_Ram))
noncomputable def ram_Ram_each (x0 : ram_Ram) : Option (Unit) :=
 some ()
noncomputable def lists_Lists_Order_b0 (x0 : lists_Lists) (c18 : List Int) (c19 : Int) : Option (((List Int) × Int) ⊕ ((List Int))) :=
 lt (c19 != (-1 : Int)) fun v31 =>
 if v31 = true then
  lt (([c19] : List Int)) fun v34 =>
  (app 8 c18 v34).bind fun v36 =>
  (chk (x0.nodes).length c19).bind fun v40 =>
  (ixA (x0.nodes).length x0.nodes c19).bind fun v42 =>
  some (.inl (v36, v42.behind))
 else
  some (.inr c18)
noncomputable def lists_Lists_Order_l0 (x0 : lists_Lists) (s : (List Int) × Int) : Option ((List Int)) := loopO (fun s => lists_Lists_Order_b0 x0 s.1 s.2) s
noncomputable def lists_Lists_Order (x0 : lists_Lists) (x1 : Int) : Option ((List Int)) :=
 (
  lt (decide (x1 < (0 : Int))) fun v6 =>
  if v6 = true then
   some true
  else
   lt ((((x0.first_).length : Nat) : Int)) fun v9 =>
   lt (decide (x1 ≥ v9)) fun v11 =>
   some v11
 : Option (Bool)).bind fun s1 =>
  if s1 = true then
   some []
  else
   (chk (x0.first_).length x1).bind fun v15 =>
   (ixA (x0.first_).length x0.first_ x1).bind fun v17 =>
   (lists_Lists_Order_l0 x0 ([], v17)).bind fun s28 =>
    some s28
noncomputable def ram_Ram_All_asg : Code := match Tryd.f14.body with | some (.seq _ (.seq _ (.seq (.seq _ (.block _ (.rangeFunc _ _ a _))) _))) => a | _ => .skip
noncomputable def ram_Ram_All_bd : Code := match Tryd.f14.body with | some (.seq _ (.seq _ (.seq (.seq _ (.block _ (.rangeFunc _ _ _ b))) _))) => b | _ => .skip
noncomputable def ram_Ram_All_y (l0 : List aEn) (x1 : aEn) : Option (List aEn) :=
 (item_Copy (x1 : aEn)).bind fun v5 =>
 lt (([v5] : List aEn)) fun v7 =>
 (app 64 l0 v7).bind fun v9 =>
 some (v9 : List aEn)
noncomputable def ram_Ram_each_1_b1 (x0 : ram_Ram) (c1 : Int) (v16 : List Int) (v18 : Int) (c19 : Int) (c20 : List aEn) : Option ((Int × (List aEn)) ⊕ ((List aEn))) :=
 lt (decide (c19 < v18)) fun v31 =>
 if v31 = true then
  (ix v16 c19).bind fun v34 =>
  (chk (x0.things).length v34).bind fun v36 =>
  (ixA (x0.things).length x0.things v34).bind fun v38 =>
  (ram_Ram_All_y c20 v38).bind fun v40 =>
  lt (w64 (c19 + (1 : Int))) fun v44 =>
  some (.inl (v44, v40))
 else
  some (.inr c20)
noncomputable def ram_Ram_each_1_l1 (x0 : ram_Ram) (c1 : Int) (v16 : List Int) (v18 : Int) (s : Int × (List aEn)) : Option ((List aEn)) := loopO (fun s => ram_Ram_each_1_b1 x0 c1 v16 v18 s.1 s.2) s
noncomputable def ram_Ram_each_1_b0 (x0 : ram_Ram) (c1 : Int) (c2 : List aEn) : Option ((Int × (List aEn)) ⊕ ((List aEn))) :=
 lt (decide (c1 < (9 : Int))) fun v13 =>
 if v13 = true then
  (lists_Lists_Order x0.lists c1).bind fun v16 =>
  lt (((v16).length : Int)) fun v18 =>
  (ram_Ram_each_1_l1 x0 c1 v16 v18 ((0 : Int), c2)).bind fun s28 =>
   lt (w64 (c1 + (1 : Int))) fun v47 =>
   some (.inl (v47, s28))
 else
  some (.inr c2)
noncomputable def ram_Ram_each_1_l0 (x0 : ram_Ram) (s : Int × (List aEn)) : Option ((List aEn)) := loopO (fun s => ram_Ram_each_1_b0 x0 s.1 s.2) s
noncomputable def ram_Ram_each_1 (x0 : ram_Ram) (l0 : List aEn) : Option (List aEn) :=
 (ram_Ram_each_1_l0 x0 ((0 : Int), l0)).bind fun s10 =>
  some s10
noncomputable def ram_Ram_All (x0 : ram_Ram) : Option (List aEn) :=
 (ram_Ram_each x0).bind fun v5 =>
 (ram_Ram_each_1 x0 ([] : List aEn)).bind fun v7 =>
 some v7
noncomputable def ram_Ram_Sweep_b0 (x1 : Int) (v2 : List aEn) (v4 : Int) (c5 : Int) (c6 : Int) (c7 : ram_Ram) (c8 : slab_Budget) (c9 : lists_Lists) (c10 : List lists_link) (c11 : List Int) (c12 : List Int) (c13 : List Int) (c14 : List Int) (c15 : List Int) (c16 : List aEn) : Option ((Int × Int × ram_Ram × slab_Budget × lists_Lists × (List lists_link) × (List Int) × (List Int) × (List Int) × (List Int) × (List Int) × (List aEn)) ⊕ (Int × ram_Ram × slab_Budget × lists_Lists × (List lists_link) × (List Int) × (List Int) × (List Int) × (List Int) × (List Int) × (List aEn))) :=
 lt (decide (c6 < v4)) fun v27 =>
 if v27 = true then
  (ix v2 c6).bind fun v30 =>
  (item_Live (v30 : aEn) x1).bind fun v35 =>
  lt (!v35) fun v37 =>
  if v37 = true then
   (ram_Ram_find ({ c7 with budget := c8, lists := ({ c9 with nodes := c10, first_ := c11, last_ := c12, count := c13 } : lists_Lists), heads := c14, next_ := c15, things := c16 } : ram_Ram) ((v30 : aEn).Key)).bind fun v40 =>
   (ram_Ram_remove ({ c7 with budget := c8, lists := ({ c9 with nodes := c10, first_ := c11, last_ := c12, count := c13 } : lists_Lists), heads := c14, next_ := c15, things := c16 } : ram_Ram) v40).bind fun v42 =>
   lt (w64 (c5 + (1 : Int))) fun v44 =>
   lt (w64 (c6 + (1 : Int))) fun v46 =>
   some (.inl (v44, v46, v42.2, v42.2.budget, v42.2.lists, v42.2.lists.nodes, v42.2.lists.first_, v42.2.lists.last_, v42.2.lists.count, v42.2.heads, v42.2.next_, v42.2.things))
  else
   lt (w64 (c6 + (1 : Int))) fun v48 =>
   some (.inl (c5, v48, c7, c8, c9, c10, c11, c12, c13, c14, c15, c16))
 else
  some (.inr (c5, c7, c8, c9, c10, c11, c12, c13, c14, c15, c16))
noncomputable def ram_Ram_Sweep_l0 (x1 : Int) (v2 : List aEn) (v4 : Int) (s : Int × Int × ram_Ram × slab_Budget × lists_Lists × (List lists_link) × (List Int) × (List Int) × (List Int) × (List Int) × (List Int) × (List aEn)) : Option (Int × ram_Ram × slab_Budget × lists_Lists × (List lists_link) × (List Int) × (List Int) × (List Int) × (List Int) × (List Int) × (List aEn)) := loopO (fun s => ram_Ram_Sweep_b0 x1 v2 v4 s.1 s.2.1 s.2.2.1 s.2.2.2.1 s.2.2.2.2.1 s.2.2.2.2.2.1 s.2.2.2.2.2.2.1 s.2.2.2.2.2.2.2.1 s.2.2.2.2.2.2.2.2.1 s.2.2.2.2.2.2.2.2.2.1 s.2.2.2.2.2.2.2.2.2.2.1 s.2.2.2.2.2.2.2.2.2.2.2) s
noncomputable def ram_Ram_Sweep (x0 : ram_Ram) (x1 : Int) : Option (Int × ram_Ram) :=
 (ram_Ram_All x0).bind fun v2 =>
 lt (((v2).length : Int)) fun v4 =>
 (ram_Ram_Sweep_l0 x1 v2 v4 ((0 : Int), (0 : Int), x0, x0.budget, x0.lists, x0.lists.nodes, x0.lists.first_, x0.lists.last_, x0.lists.count, x0.heads, x0.next_, x0.things)).bind fun s24 =>
  some (s24.1, ({ s24.2.1 with budget := s24.2.2.1, lists := ({ s24.2.2.2.1 with nodes := s24.2.2.2.2.1, first_ := s24.2.2.2.2.2.1, last_ := s24.2.2.2.2.2.2.1, count := s24.2.2.2.2.2.2.2.1 } : lists_Lists), heads := s24.2.2.2.2.2.2.2.2.1, next_ := s24.2.2.2.2.2.2.2.2.2.1, things := s24.2.2.2.2.2.2.2.2.2.2 } : ram_Ram))
end Go.Proofs.YtggeboakilalhaaDoor
namespace Go.Va
open Go
set_option linter.unusedVariables false
set_option linter.unusedSimpArgs false

theorem loopO_up {S X : Type} {body : S → Option (S ⊕ X)} (g : Nat → S) (n : Nat) {x : X} (h : ∀ i, i < n → body (g i) = some (.inl (g (i + 1)))) (hx : body (g n) = some (.inr x)) : loopO body (g 0) = some x := by
  have key : ∀ k, k ≤ n → loopO body (g (n - k)) = some x := by
    intro k
    induction k with
    | zero => intro _; exact loopO_out hx
    | succ k ih =>
      intro hk
      rw [loopO_in (h (n - (k + 1)) (by omega)), show n - (k + 1) + 1 = n - k by omega]
      exact ih (by omega)
  have := key n (Nat.le_refl _)
  rwa [Nat.sub_self] at this
def nx {S X : Type} (o : Option X) (s : S) : S ⊕ X := match o with | none => .inl s | some y => .inr y
theorem loopO_find {S X : Type} {body : S → Option (S ⊕ X)} (g : Nat → S) (n : Nat) (f : Nat → Option X) {x : X} (h : ∀ i, i < n → body (g i) = some (nx (f i) (g (i + 1)))) (hx : body (g n) = some (.inr x)) : loopO body (g 0) = some (((List.range n).findSome? f).getD x) := by
  have key : ∀ k, k ≤ n → loopO body (g (n - k)) = some (((List.range' (n - k) k).findSome? f).getD x) := by
    intro k
    induction k with
    | zero => intro _; exact loopO_out hx
    | succ k ih =>
      intro hk
      rw [List.range'_succ, List.findSome?_cons]
      have h1 := h (n - (k + 1)) (by omega)
      cases hf : f (n - (k + 1)) with
      | none =>
        rw [hf] at h1
        rw [loopO_in (s' := g (n - (k + 1) + 1)) h1, show n - (k + 1) + 1 = n - k by omega]
        exact ih (by omega)
      | some y => rw [hf] at h1; exact loopO_out h1
  have := key n (Nat.le_refl _)
  rwa [Nat.sub_self, ← List.range_eq_range'] at this
theorem loopO_inv {S X : Type} {body : S → Option (S ⊕ X)} (I : S → Prop) (m : S → Nat) (Q : X → Prop) (h : ∀ s, I s → (∃ s', body s = some (.inl s') ∧ I s' ∧ m s' < m s) ∨ ∃ x, body s = some (.inr x) ∧ Q x) {s : S} (h0 : I s) : ∃ x, loopO body s = some x ∧ Q x := by
  generalize hk : m s = k
  induction k using Nat.strongRecOn generalizing s with
  | _ k ih =>
    rcases h s h0 with ⟨s', h1, h2, h3⟩ | ⟨x, h1, h2⟩
    · obtain ⟨x, k1, k2⟩ := ih (m s') (hk ▸ h3) h2 rfl
      exact ⟨x, by rw [loopO_in h1]; exact k1, k2⟩
    · exact ⟨x, loopO_out h1, h2⟩
theorem loopO_foldl {α σ X : Type} (l : List α) (f : σ → α → σ) (fin : σ → X) {body : σ × Int → Option ((σ × Int) ⊕ X)} (h1 : ∀ (s : σ) (i : Nat) (hi : i < l.length), body (s, (i : Int)) = some (.inl (f s l[i], ((i + 1 : Nat) : Int)))) (h2 : ∀ s, body (s, (l.length : Int)) = some (.inr (fin s))) (s0 : σ) : loopO body (s0, 0) = some (fin (l.foldl f s0)) := by
  have := loopO_up (body := body) (fun i => ((l.take i).foldl f s0, (i : Int))) l.length (x := fin (l.foldl f s0)) (fun i hi => by
    rw [h1 _ i hi, List.take_succ_eq_append_getElem hi, List.foldl_append]; rfl) (by rw [List.take_length]; exact h2 _)
  simpa using this
theorem ix_nat {α : Type} {l : List α} {i : Nat} (h : i < l.length) : ix l (i : Int) = some l[i] := by
  unfold ix
  rw [if_pos (by omega)]
  simp [h]
theorem ixA_nat {α : Type} {l : List α} {n i : Nat} (hn : i < n) (h : i < l.length) : ixA n l (i : Int) = some l[i] := by
  unfold ixA
  rw [if_pos ⟨by omega, by omega⟩]
  simp [h]
theorem w64_nat {i : Nat} (h : i < 9223372036854775807) : w64 ((i : Int) + 1) = ((i + 1 : Nat) : Int) := by
  rw [w64_eq (by omega) (by omega)]; omega
theorem app_eq {α : Type} {b : Nat} {l m : List α} (h : (l.length + m.length) * b ≤ 140737488355328) : app b l m = some (l ++ m) := by simp [app, h]
theorem cutTo_eq {α : Type} {l : List α} {n : Nat} (h : n ≤ l.length) : cutTo l (n : Int) = some (l.take n) := by
  unfold cutTo
  rw [if_pos ⟨by omega, by omega⟩]; simp
theorem cutFrom_eq {α : Type} {l : List α} {n : Nat} (h : n ≤ l.length) : cutFrom l (n : Int) = some (l.drop n) := by
  unfold cutFrom
  rw [if_pos ⟨by omega, by omega⟩]; simp
theorem dvU_eq {w : Nat} {y : BitVec w} (h : y ≠ 0#w) : dvU y = some y := by unfold dvU; rw [if_neg h]
end Go.Va
namespace Go.Proofs.YtggeboakilalhaaDoor
open Go Go.Va
set_option linter.unusedVariables false
set_option linter.unusedSimpArgs false
set_option maxRecDepth 20000
def codeOf : Err → Int
 | .nil => 0
 | .fault o a c u => if c = 0 then codeOf u else c
def trouble_Of_b0 : Err → Option (Err ⊕ (Unit ⊕ Int))
 | .nil => some (.inr (.inl ()))
 | .fault o a c u => if (c != 0) = true then some (.inr (.inr c)) else some (.inl u)
def trouble_Of (x : Err) : Option Int := some (codeOf x)
theorem trouble_Of_l0 : ∀ x : Err, loopO trouble_Of_b0 x = some (if codeOf x = 0 then .inl () else .inr (codeOf x))
 | .nil => loopO_out rfl
 | .fault o a c u => by
  by_cases hc : c = 0
  · rw [loopO_in (s' := u) (by simp [trouble_Of_b0, hc]), trouble_Of_l0 u]; simp [codeOf, hc]
  · rw [loopO_out (x := .inr c) (by simp [trouble_Of_b0, hc])]; simp [codeOf, hc]
noncomputable def R08_Size_b0 (x0 : Int) (c12 : Int) (c13 : Int) : Option ((Int × Int) ⊕ (Int)) :=
 lt (decide (c13 < x0)) fun v24 =>
 if v24 = true then
  lt (w64 (c12 * (2 : Int))) fun v27 =>
  lt (w64 (c13 + (1 : Int))) fun v29 =>
  some (.inl (v27, v29))
 else
  some (.inr c12)
noncomputable def R08_Size_l0 (x0 : Int) (s : Int × Int) : Option (Int) := loopO (fun s => R08_Size_b0 x0 s.1 s.2) s
noncomputable def R08_Size (x0 : Int) : Option (Int) :=
 (
  lt (decide (x0 < (0 : Int))) fun v6 =>
  if v6 = true then
   some true
  else
   lt (decide (x0 > (8 : Int))) fun v9 =>
   some v9
 : Option (Bool)).bind fun s1 =>
  if s1 = true then
   some (0 : Int)
  else
   (R08_Size_l0 x0 ((32 : Int), (0 : Int))).bind fun s21 =>
    some s21
noncomputable def R08_Class_b0 (x0 : Int) (c1 : Int) : Option ((Int) ⊕ (Unit ⊕ (Int))) :=
 (
  lt (decide (c1 ≤ (8 : Int))) fun v16 =>
  if v16 = true then
   lt (decide (x0 ≥ (0 : Int))) fun v19 =>
   some v19
  else
   some false
 : Option (Bool)).bind fun s11 =>
  if s11 = true then
   (R08_Size c1).bind fun v23 =>
   lt (decide (x0 ≤ v23)) fun v25 =>
   if v25 = true then
    some (.inr (.inr c1))
   else
    lt (w64 (c1 + (1 : Int))) fun v29 =>
    some (.inl v29)
  else
   some (.inr (.inl ()))
noncomputable def R08_Class_l0 (x0 : Int) (s : Int) : Option (Unit ⊕ (Int)) := loopO (fun s => R08_Class_b0 x0 s) s
noncomputable def R08_Class (x0 : Int) : Option (Int) :=
 (R08_Class_l0 x0 (0 : Int)).bind fun o2 =>
  Sum.elim (fun s9 : Unit =>
   some (-1 : Int)
   ) (fun y => some y) o2
noncomputable def R02_num_b0  (c9 : List (BitVec 8)) (c10 : Int) : Option (((List (BitVec 8)) × Int) ⊕ ((List (BitVec 8)))) :=
 lt (decide (c10 > (0 : Int))) fun v22 =>
 if v22 = true then
  lt (Int.tmod c10 (128 : Int)) fun v25 =>
  lt (w64 (v25 + (128 : Int))) fun v27 =>
  lt (BitVec.ofInt 8 v27) fun v29 =>
  lt (([v29] : List (BitVec 8))) fun v31 =>
  (app 1 v31 c9).bind fun v33 =>
  lt (quo64 c10 (128 : Int)) fun v37 =>
  some (.inl (v33, v37))
 else
  some (.inr c9)
noncomputable def R02_num_l0  (s : (List (BitVec 8)) × Int) : Option ((List (BitVec 8))) := loopO (fun s => R02_num_b0 s.1 s.2) s
noncomputable def R02_num (x0 : Int) : Option ((List (BitVec 8))) :=
 lt (Int.tmod x0 (128 : Int)) fun v2 =>
 lt (BitVec.ofInt 8 v2) fun v4 =>
 lt (([v4] : List (BitVec 8))) fun v6 =>
 lt (quo64 x0 (128 : Int)) fun v8 =>
 (R02_num_l0 (v6, v8)).bind fun s19 =>
  some s19
noncomputable def R02_Put_b0 (x1 : List Int) (c5 : List (BitVec 8)) (c6 : Int) : Option (((List (BitVec 8)) × Int) ⊕ ((List (BitVec 8)))) :=
 lt (((x1).length : Int)) fun v17 =>
 lt (decide (c6 < v17)) fun v19 =>
 if v19 = true then
  (ix x1 c6).bind fun v22 =>
  (R02_num v22).bind fun v24 =>
  (app 1 c5 v24).bind fun v26 =>
  lt (w64 (c6 + (1 : Int))) fun v30 =>
  some (.inl (v26, v30))
 else
  some (.inr c5)
noncomputable def R02_Put_l0 (x1 : List Int) (s : (List (BitVec 8)) × Int) : Option ((List (BitVec 8))) := loopO (fun s => R02_Put_b0 x1 s.1 s.2) s
noncomputable def R02_Put (x0 : List (BitVec 8)) (x1 : List Int) : Option ((List (BitVec 8))) :=
 (app 1 ([] : List (BitVec 8)) x0).bind fun v2 =>
 (R02_Put_l0 x1 (v2, (0 : Int))).bind fun s14 =>
  some s14
noncomputable def R02_Bytes (x0 : List (BitVec 8)) (x1 : List (BitVec 8)) : Option ((List (BitVec 8))) :=
 lt (((x1).length : Int)) fun v2 =>
 lt (([v2] : List Int)) fun v4 =>
 (R02_Put x0 v4).bind fun v6 =>
 (app 1 v6 x1).bind fun v9 =>
 some v9
noncomputable def R06_Put (x0 : List (BitVec 8)) (x1 : aEn) : Option ((List (BitVec 8))) :=
 (toBytes x1.Key).bind fun v2 =>
 (R02_Bytes x0 v2).bind fun v4 =>
 lt (([x1.Version, x1.AsOf, x1.Ends] : List Int)) fun v6 =>
 (R02_Put v4 v6).bind fun v8 =>
 (R02_Bytes v8 x1.Value).bind fun v10 =>
 some v10
noncomputable def R06_Size (x0 : aEn) : Option (Int) :=
 (R06_Put [] x0).bind fun v2 =>
 lt (((v2).length : Int)) fun v4 =>
 some v4
noncomputable def R11_Takes (x0 : aEn) : Option (Int) :=
 (R06_Size x0).bind fun v2 =>
 (R08_Class v2).bind fun v4 =>
 (R08_Size v4).bind fun v6 =>
 some v6
noncomputable def R06_Live (x0 : aEn) (x1 : Int) : Option (Bool) :=
 lt (x0.Ends == (0 : Int)) fun v2 =>
 if v2 = true then
  some true
 else
  lt (decide (x0.Ends > x1)) fun v5 =>
  some v5
noncomputable def R11_But (x0 : R11_Ram) (x1 : Int) : Option (R11_Ram) :=
 (cutTo x0.L x1).bind fun v7 =>
 (app 64 ([] : List aEn) v7).bind fun v9 =>
 lt (w64 (x1 + (1 : Int))) fun v14 =>
 (cutFrom x0.L v14).bind fun v16 =>
 (app 64 (({ ((⟨x0.Limit, ([] : List aEn)⟩ : R11_Ram) : R11_Ram) with L := v9 } : R11_Ram).L) v16).bind fun v18 =>
 some (({ ({ ((⟨x0.Limit, ([] : List aEn)⟩ : R11_Ram) : R11_Ram) with L := v9 } : R11_Ram) with L := v18 } : R11_Ram) : R11_Ram)
noncomputable def R02_Key (x0 : List (BitVec 8)) : Option (Int) :=
 lt (x0 == ([] : List (BitVec 8))) fun v2 =>
 if v2 = true then
  some (1 : Int)
 else
  lt (((x0).length : Int)) fun v5 =>
  lt (decide (v5 > (40 : Int))) fun v7 =>
  if v7 = true then
   some (3 : Int)
  else
   some (0 : Int)
noncomputable def R06_Check (x0 : aEn) : Option (Int) :=
 (R02_Key x0.Key).bind fun v2 =>
 lt (v2 != (0 : Int)) fun v4 =>
 if v4 = true then
  some v2
 else
  (
   lt (decide (x0.Version < (1 : Int))) fun v11 =>
   if v11 = true then
    some true
   else
    lt (decide (x0.Version > (1099511627776 : Int))) fun v14 =>
    if v14 = true then
     some true
    else
     lt (decide (x0.AsOf < x0.Version)) fun v17 =>
     if v17 = true then
      some true
     else
      lt (decide (x0.AsOf > (1099511627776 : Int))) fun v20 =>
      if v20 = true then
       some true
      else
       lt (decide (x0.Ends < (0 : Int))) fun v23 =>
       if v23 = true then
        some true
       else
        lt (decide (x0.Ends > (1099511627776 : Int))) fun v26 =>
        some v26
  : Option (Bool)).bind fun s6 =>
   if s6 = true then
    some (2 : Int)
   else
    lt (((x0.Value).length : Int)) fun v30 =>
    lt (decide (v30 > (4096 : Int))) fun v32 =>
    if v32 = true then
     some (3 : Int)
    else
     some (0 : Int)
noncomputable def R11_Fits (x0 : R11_Ram) (x1 : aEn) : Option (Bool) :=
 (R11_Takes x1).bind fun v2 =>
 lt (decide (v2 > (0 : Int))) fun v4 =>
 if v4 = true then
  (R11_Takes x1).bind fun v7 =>
  lt (decide (v7 ≤ x0.Limit)) fun v9 =>
  some v9
 else
  some false
noncomputable def R11_Used_b0 (x0 : R11_Ram) (c1 : Int) (c2 : Int) : Option ((Int × Int) ⊕ (Int)) :=
 lt (((x0.L).length : Int)) fun v13 =>
 lt (decide (c2 < v13)) fun v15 =>
 if v15 = true then
  (ix x0.L c2).bind fun v18 =>
  (R11_Takes v18).bind fun v20 =>
  lt (w64 (c1 + v20)) fun v22 =>
  lt (w64 (c2 + (1 : Int))) fun v24 =>
  some (.inl (v22, v24))
 else
  some (.inr c1)
noncomputable def R11_Used_l0 (x0 : R11_Ram) (s : Int × Int) : Option (Int) := loopO (fun s => R11_Used_b0 x0 s.1 s.2) s
noncomputable def R11_Used (x0 : R11_Ram) : Option (Int) :=
 (R11_Used_l0 x0 ((0 : Int), (0 : Int))).bind fun s10 =>
  some s10
noncomputable def R11_ahead (x0 : R11_Ram) (x1 : aEn) : Option (R11_Ram) :=
 lt (([x1] : List aEn)) fun v4 =>
 (app 64 (((⟨x0.Limit, v4⟩ : R11_Ram) : R11_Ram).L) x0.L).bind fun v9 =>
 some (({ ((⟨x0.Limit, v4⟩ : R11_Ram) : R11_Ram) with L := v9 } : R11_Ram) : R11_Ram)
noncomputable def R11_Set_b0 (x1 : aEn) (x2 : Int) (c39 : List aEn) (c40 : R11_Ram) : Option (((List aEn) × R11_Ram) ⊕ ((List aEn) × R11_Ram)) :=
 (R11_Takes x1).bind fun v52 =>
 (R11_Used c40).bind fun v54 =>
 lt (w64 (c40.Limit - v54)) fun v56 =>
 lt (decide (v52 > v56)) fun v58 =>
 if v58 = true then
  lt (((c40.L).length : Int)) fun v61 =>
  lt (w64 (v61 - (1 : Int))) fun v63 =>
  (ix c40.L v63).bind fun v65 =>
  (R06_Live v65 x2).bind fun v67 =>
  if v67 = true then
   (ix c40.L v63).bind fun v70 =>
   lt (([v70] : List aEn)) fun v72 =>
   (app 64 c39 v72).bind fun v74 =>
   (R11_But c40 v63).bind fun v78 =>
   lt ((v78 : R11_Ram)) fun c80 =>
   some (.inl (v74, c80))
  else
   (R11_But c40 v63).bind fun v83 =>
   lt ((v83 : R11_Ram)) fun c85 =>
   some (.inl (c39, c85))
 else
  some (.inr (c39, c40))
noncomputable def R11_Set_l0 (x1 : aEn) (x2 : Int) (s : (List aEn) × R11_Ram) : Option ((List aEn) × R11_Ram) := loopO (fun s => R11_Set_b0 x1 x2 s.1 s.2) s
noncomputable def R11_Set (x0 : R11_Ram) (x1 : aEn) (x2 : Int) : Option (R11_Ram × (List aEn) × Int) :=
 (R06_Check x1).bind fun v4 =>
 lt (v4 != (0 : Int)) fun v6 =>
 if v6 = true then
  some ((x0 : R11_Ram), [], v4)
 else
  (R06_Live x1 x2).bind fun v10 =>
  lt (!v10) fun v12 =>
  if v12 = true then
   some ((x0 : R11_Ram), [], (10 : Int))
  else
   (R11_Fits x0 x1).bind fun v16 =>
   lt (!v16) fun v18 =>
   if v18 = true then
    some ((x0 : R11_Ram), [], (3 : Int))
   else
    (R06_Find x0.L x1.Key).bind fun v25 =>
    lt (decide (v25 ≥ (0 : Int))) fun v27 =>
    (
     if v27 = true then
      (R11_But x0 v25).bind fun v34 =>
      lt ((v34 : R11_Ram)) fun c36 =>
      some c36
     else
      some (x0 : R11_Ram)
    : Option (R11_Ram)).bind fun s28 =>
     (R11_Set_l0 x1 x2 ([], s28)).bind fun s49 =>
      (R11_ahead s49.2 x1).bind fun v89 =>
      some ((v89 : R11_Ram), s49.1, (0 : Int))
noncomputable def R11_Get (x0 : R11_Ram) (x1 : List (BitVec 8)) (x2 : Int) : Option (R11_Ram × aEn × Bool) :=
 (R06_Find x0.L x1).bind fun v6 =>
 lt (decide (v6 < (0 : Int))) fun v8 =>
 if v8 = true then
  some ((x0 : R11_Ram), ((⟨[], 0, 0, 0, []⟩ : aEn) : aEn), false)
 else
  (ix x0.L v6).bind fun v13 =>
  (R06_Live (v13 : aEn) x2).bind fun v18 =>
  lt (!v18) fun v20 =>
  if v20 = true then
   (R11_But x0 v6).bind fun v23 =>
   some ((v23 : R11_Ram), ((⟨[], 0, 0, 0, []⟩ : aEn) : aEn), false)
  else
   (R11_But x0 v6).bind fun v27 =>
   (R11_ahead v27 (v13 : aEn)).bind fun v29 =>
   some ((v29 : R11_Ram), ((v13 : aEn) : aEn), true)
noncomputable def ram_Ram_Drop (x0 : ram_Ram) (x1 : List (BitVec 8)) : Option (aEn × Bool × ram_Ram) :=
 (ram_Ram_find x0 x1).bind fun v4 =>
 lt (decide (v4 < (0 : Int))) fun v6 =>
 if v6 = true then
  some (((⟨[], 0, 0, 0, []⟩ : aEn) : aEn), false, x0)
 else
  (ram_Ram_remove x0 v4).bind fun v10 =>
  some ((v10.1 : aEn), true, v10.2)
noncomputable def R11_Sweep_b0 (x0 : R11_Ram) (x1 : Int) (c6 : Int) (c7 : R11_Ram) : Option ((Int × R11_Ram) ⊕ (R11_Ram)) :=
 lt (((x0.L).length : Int)) fun v19 =>
 lt (decide (c6 < v19)) fun v21 =>
 if v21 = true then
  (ix x0.L c6).bind fun v24 =>
  (R06_Live v24 x1).bind fun v26 =>
  if v26 = true then
   (ix x0.L c6).bind fun v29 =>
   lt (([v29] : List aEn)) fun v31 =>
   (app 64 c7.L v31).bind fun v33 =>
   lt (w64 (c6 + (1 : Int))) fun v38 =>
   some (.inl (v38, ({ c7 with L := v33 } : R11_Ram)))
  else
   lt (w64 (c6 + (1 : Int))) fun v40 =>
   some (.inl (v40, c7))
 else
  some (.inr c7)
noncomputable def R11_Sweep_l0 (x0 : R11_Ram) (x1 : Int) (s : Int × R11_Ram) : Option (R11_Ram) := loopO (fun s => R11_Sweep_b0 x0 x1 s.1 s.2) s
noncomputable def R11_Sweep (x0 : R11_Ram) (x1 : Int) : Option (R11_Ram × Int) :=
 (R11_Sweep_l0 x0 x1 ((0 : Int), ((⟨x0.Limit, ([] : List aEn)⟩ : R11_Ram) : R11_Ram))).bind fun s16 =>
  lt (((x0.L).length : Int)) fun v43 =>
  lt (((s16.L).length : Int)) fun v45 =>
  lt (w64 (v43 - v45)) fun v47 =>
  some ((s16 : R11_Ram), v47)
noncomputable def L11_do (x0 : ram_Ram) (x1 : R11_Ram) (x2 : L11_Op) : Option (R11_Ram × Bool × ram_Ram) :=
 lt (x2.Kind == (0 : Int)) fun v4 =>
 if v4 = true then
  (R11_Set x1 x2.X x2.Now).bind fun v7 =>
  (ram_Ram_Set x0 x2.X x2.Now).bind fun v12 =>
  (R06_SameAll v12.1 v7.2.1).bind fun v14 =>
  if v14 = true then
   (trouble_Of v12.2.1).bind fun v17 =>
   lt (v17 == v7.2.2) fun v19 =>
   some (((v7.1 : R11_Ram) : R11_Ram), v19, v12.2.2)
  else
   some (((v7.1 : R11_Ram) : R11_Ram), false, v12.2.2)
 else
  lt (x2.Kind == (1 : Int)) fun v23 =>
  if v23 = true then
   (R11_Get x1 x2.X.Key x2.Now).bind fun v26 =>
   (ram_Ram_Get x0 x2.X.Key x2.Now).bind fun v34 =>
   (R06_Same (v26.2.1 : aEn) (v34.1 : aEn)).bind fun v39 =>
   if v39 = true then
    lt (v26.2.2 == v34.2.1) fun v42 =>
    some (((v26.1 : R11_Ram) : R11_Ram), v42, v34.2.2)
   else
    some (((v26.1 : R11_Ram) : R11_Ram), false, v34.2.2)
  else
   lt (x2.Kind == (2 : Int)) fun v46 =>
   if v46 = true then
    (R06_Find x1.L x2.X.Key).bind fun v49 =>
    (ram_Ram_Drop x0 x2.X.Key).bind fun v51 =>
    lt (decide (v49 < (0 : Int))) fun v56 =>
    if v56 = true then
     lt (!v51.2.1) fun v59 =>
     if v59 = true then
      (R06_Same (v51.1 : aEn) (⟨[], 0, 0, 0, []⟩ : aEn)).bind fun v62 =>
      some ((x1 : R11_Ram), v62, v51.2.2)
     else
      some ((x1 : R11_Ram), false, v51.2.2)
    else
     (R11_But x1 v49).bind fun v66 =>
     if v51.2.1 = true then
      (ix x1.L v49).bind fun v69 =>
      (R06_Same (v51.1 : aEn) v69).bind fun v71 =>
      some ((v66 : R11_Ram), v71, v51.2.2)
     else
      some ((v66 : R11_Ram), false, v51.2.2)
   else
    lt (x2.Kind == (3 : Int)) fun v75 =>
    if v75 = true then
     (R06_Find x1.L x2.X.Key).bind fun v78 =>
     (ram_Ram_Peek x0 x2.X.Key).bind fun v80 =>
     lt (decide (v78 ≥ (0 : Int))) fun v85 =>
     lt (v80.2 == v85) fun v87 =>
     if v87 = true then
      lt (!v80.2) fun v90 =>
      if v90 = true then
       some ((x1 : R11_Ram), true, x0)
      else
       (ix x1.L v78).bind fun v94 =>
       (R06_Same (v80.1 : aEn) v94).bind fun v96 =>
       some ((x1 : R11_Ram), v96, x0)
     else
      some ((x1 : R11_Ram), false, x0)
    else
     lt (x2.Kind == (4 : Int)) fun v100 =>
     if v100 = true then
      (R11_Sweep x1 x2.Now).bind fun v103 =>
      (ram_Ram_Sweep x0 x2.Now).bind fun v108 =>
      lt (v108.1 == v103.2) fun v110 =>
      some (((v103.1 : R11_Ram) : R11_Ram), v110, v108.2)
     else
      some ((x1 : R11_Ram), true, x0)
noncomputable def L06_Light_b0 (x0 : List aEn) (c6 : Int) (c7 : Int) : Option ((Int × Int) ⊕ (Unit ⊕ (Int))) :=
 lt (((x0).length : Int)) fun v18 =>
 lt (decide (c7 < v18)) fun v20 =>
 if v20 = true then
  (
   (ix x0 c7).bind fun v27 =>
   lt (((v27.Key).length : Int)) fun v29 =>
   lt (decide (v29 > (200 : Int))) fun v31 =>
   if v31 = true then
    some true
   else
    (ix x0 c7).bind fun v34 =>
    lt (((v34.Value).length : Int)) fun v36 =>
    lt (decide (v36 > (5000 : Int))) fun v38 =>
    some v38
  : Option (Bool)).bind fun s22 =>
   if s22 = true then
    some (.inr (.inr (1 : Int)))
   else
    (ix x0 c7).bind fun v43 =>
    lt (((v43.Value).length : Int)) fun v45 =>
    lt (w64 (c6 + v45)) fun v47 =>
    lt (decide (v47 > (12000 : Int))) fun v49 =>
    if v49 = true then
     some (.inr (.inr (1 : Int)))
    else
     lt (w64 (c7 + (1 : Int))) fun v53 =>
     some (.inl (v47, v53))
 else
  some (.inr (.inl ()))
noncomputable def L06_Light_l0 (x0 : List aEn) (s : Int × Int) : Option (Unit ⊕ (Int)) := loopO (fun s => L06_Light_b0 x0 s.1 s.2) s
noncomputable def L06_Light (x0 : List aEn) : Option (Int) :=
 lt (((x0).length : Int)) fun v2 =>
 lt (decide (v2 > (40 : Int))) fun v4 =>
 if v4 = true then
  some (1 : Int)
 else
  (L06_Light_l0 x0 ((0 : Int), (0 : Int))).bind fun o8 =>
   Sum.elim (fun s15 : Unit =>
    some (0 : Int)
    ) (fun y => some y) o8
noncomputable def L11_light_b0 (x0 : List L11_Op) (c6 : List aEn) (c7 : Int) : Option (((List aEn) × Int) ⊕ ((List aEn))) :=
 lt (((x0).length : Int)) fun v19 =>
 lt (decide (c7 < v19)) fun v21 =>
 if v21 = true then
  (ix x0 c7).bind fun v24 =>
  lt (([v24.X] : List aEn)) fun v26 =>
  (app 64 c6 v26).bind fun v28 =>
  lt (w64 (c7 + (1 : Int))) fun v32 =>
  some (.inl (v28, v32))
 else
  some (.inr c6)
noncomputable def L11_light_l0 (x0 : List L11_Op) (s : (List aEn) × Int) : Option ((List aEn)) := loopO (fun s => L11_light_b0 x0 s.1 s.2) s
noncomputable def L11_light (x0 : List L11_Op) : Option (Bool) :=
 lt (((x0).length : Int)) fun v2 =>
 lt (decide (v2 > (40 : Int))) fun v4 =>
 if v4 = true then
  some false
 else
  (L11_light_l0 x0 ([], (0 : Int))).bind fun s16 =>
   (L06_Light s16).bind fun v35 =>
   lt (v35 == (0 : Int)) fun v37 =>
   some v37
noncomputable def slab_Budget_Used (x0 : slab_Budget) : Option (Int) :=
 some x0.used
noncomputable def ram_Ram_Used (x0 : ram_Ram) : Option (Int) :=
 (slab_Budget_Used x0.budget).bind fun v2 =>
 some v2
noncomputable def slab_Budget_Limit (x0 : slab_Budget) : Option (Int) :=
 some x0.limit
noncomputable def ram_Ram_Limit (x0 : ram_Ram) : Option (Int) :=
 (slab_Budget_Limit x0.budget).bind fun v2 =>
 some v2
noncomputable def ram_Ram_Len (x0 : ram_Ram) : Option (Int) :=
 some x0.count
noncomputable def slab_New (x0 : Int) : Option ((Option slab_Budget) × Err) :=
 (
  lt (decide (x0 < (1 : Int))) fun v6 =>
  if v6 = true then
   some true
  else
   lt (decide (x0 > (1099511627776 : Int))) fun v9 =>
   some v9
 : Option (Bool)).bind fun s1 =>
  if s1 = true then
   (trouble_New ([98#8, 117#8, 100#8, 103#8, 101#8, 116#8] : List (BitVec 8)) x0 (2 : Int)).bind fun v13 =>
   some (none, v13)
  else
   lt ((⟨x0, (0 : Int), (Vector.replicate 9 (0 : Int))⟩ : slab_Budget)) fun v15 =>
   some (some v15, Err.nil)
noncomputable def lists_New_b0 (x1 : Int) (v28 : List lists_link) (v33 : List Int) (v38 : List Int) (v43 : List Int) (v50 : Int) (c51 : Int) (c52 : List Int) (c53 : List Int) : Option ((Int × (List Int) × (List Int)) ⊕ ((List Int) × (List Int))) :=
 lt (decide (c51 < v50)) fun v64 =>
 if v64 = true then
  (chk (c53).length c51).bind fun v67 =>
  (updA (c53).length c53 c51 (fun _ => (-1 : Int))).bind fun c69 =>
  (chk (c52).length c51).bind fun v72 =>
  (updA (c52).length c52 c51 (fun _ => (-1 : Int))).bind fun c74 =>
  lt (w64 (c51 + (1 : Int))) fun v77 =>
  some (.inl (v77, c74, c69))
 else
  some (.inr (c52, c53))
noncomputable def lists_New_l0 (x1 : Int) (v28 : List lists_link) (v33 : List Int) (v38 : List Int) (v43 : List Int) (v50 : Int) (s : Int × (List Int) × (List Int)) : Option ((List Int) × (List Int)) := loopO (fun s => lists_New_b0 x1 v28 v33 v38 v43 v50 s.1 s.2.1 s.2.2) s
noncomputable def lists_New_b1 (x1 : Int) (v28 : List lists_link) (v33 : List Int) (v38 : List Int) (v43 : List Int) (s61 : (List Int) × (List Int)) (v80 : Int) (c81 : Int) (c82 : List lists_link) : Option ((Int × (List lists_link)) ⊕ ((List lists_link))) :=
 lt (decide (c81 < v80)) fun v93 =>
 if v93 = true then
  lt (w64 (c81 + (1 : Int))) fun v96 =>
  lt ((⟨-1, v96, -1, 0⟩ : lists_link)) fun v98 =>
  (chk (c82).length c81).bind fun v100 =>
  (updA (c82).length c82 c81 (fun _ => v98)).bind fun c102 =>
  lt (w64 (c81 + (1 : Int))) fun v105 =>
  some (.inl (v105, c102))
 else
  some (.inr c82)
noncomputable def lists_New_l1 (x1 : Int) (v28 : List lists_link) (v33 : List Int) (v38 : List Int) (v43 : List Int) (s61 : (List Int) × (List Int)) (v80 : Int) (s : Int × (List lists_link)) : Option ((List lists_link)) := loopO (fun s => lists_New_b1 x1 v28 v33 v38 v43 s61 v80 s.1 s.2) s
noncomputable def lists_New (x0 : Int) (x1 : Int) : Option ((Option lists_Lists) × Err) :=
 (
  lt (decide (x0 < (1 : Int))) fun v6 =>
  if v6 = true then
   some true
  else
   lt (decide (x0 > (64 : Int))) fun v9 =>
   some v9
 : Option (Bool)).bind fun s1 =>
  if s1 = true then
   (trouble_New ([108#8, 105#8, 115#8, 116#8, 115#8] : List (BitVec 8)) x0 (2 : Int)).bind fun v13 =>
   some (none, v13)
  else
   (
    lt (decide (x1 < (1 : Int))) fun v19 =>
    if v19 = true then
     some true
    else
     lt (decide (x1 > (65536 : Int))) fun v22 =>
     some v22
   : Option (Bool)).bind fun s14 =>
    if s14 = true then
     (trouble_New ([110#8, 111#8, 100#8, 101#8, 115#8] : List (BitVec 8)) x1 (2 : Int)).bind fun v26 =>
     some (none, v26)
    else
     (mkS 32 x1 z_lists_link).bind fun v28 =>
     (mkS 8 x0 (0 : Int)).bind fun v33 =>
     (mkS 8 x0 (0 : Int)).bind fun v38 =>
     (mkS 8 x0 (0 : Int)).bind fun v43 =>
     lt ((((v33).length : Nat) : Int)) fun v50 =>
     (lists_New_l0 x1 v28 v33 v38 v43 v50 ((0 : Int), v38, v33)).bind fun s61 =>
      lt ((((v28).length : Nat) : Int)) fun v80 =>
      (lists_New_l1 x1 v28 v33 v38 v43 s61 v80 ((0 : Int), v28)).bind fun s90 =>
       lt (w64 (x1 - (1 : Int))) fun v108 =>
       (chk (s90).length v108).bind fun v110 =>
       (updA (s90).length s90 v108 (fun y => ({ y with behind := (-1 : Int) } : lists_link))).bind fun c112 =>
       some (some ({ (⟨v28, v33, v38, v43, 0, 0⟩ : lists_Lists) with nodes := c112, first_ := s61.2, last_ := s61.1, count := v43 } : lists_Lists), Err.nil)
end Go.Proofs.YtggeboakilalhaaDoor
